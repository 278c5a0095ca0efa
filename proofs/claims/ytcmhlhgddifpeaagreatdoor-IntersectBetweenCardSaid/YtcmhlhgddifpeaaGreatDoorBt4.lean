/-
  A part of the proof: the machine, the contracts of the functions and the plain laws, merged from smaller texts.
-/
import Derived.Test.YtcmhlhgddifpeaaGreatDoorBt3
import Derived.RowKit3
import Derived.ChangeSame
section
set_option linter.unusedVariables false
set_option linter.unusedSimpArgs false
set_option linter.unusedSectionVars false
set_option maxRecDepth 20000
namespace Go.Eng
open Go Go.Proofs Go.IntWalk
theorem pQ_cross {x y z w x' y' z' w' a a' : Int} (hw : 0 < w) (hw' : 0 < w') (ha : (pG x y z w : Int) ∣ a) (ha' : (pG x' y' z' w' : Int) ∣ a') :
    (pQ x y z w a * pQ x' y' z' w' w' - pQ x' y' z' w' a' * pQ x y z w w).sign = (a * w' - a' * w).sign := by
  have h1 := pQ_mul ha
  have h2 := pQ_mul ha'
  have h3 := pQ_mul (pG_dvd_w x y z w)
  have h4 := pQ_mul (pG_dvd_w x' y' z' w')
  have g1 := pG_pos x y z w
  have g2 := pG_pos x' y' z' w'
  rw [pW_of (by omega : w ≠ 0)] at h1 h3
  rw [pW_of (by omega : w' ≠ 0)] at h2 h4
  rw [if_neg (by omega)] at h1 h2 h3 h4
  have g1' : 0 < (pG x y z w : Int) := by omega
  have g2' : 0 < (pG x' y' z' w' : Int) := by omega
  generalize (pG x y z w : Int) = g at *
  generalize (pG x' y' z' w' : Int) = g' at *
  generalize pQ x y z w a = A at *
  generalize pQ x y z w w = W at *
  generalize pQ x' y' z' w' a' = A' at *
  generalize pQ x' y' z' w' w' = W' at *
  rw [← sign_pos_mul (x := A * W' - A' * W) (Int.mul_pos g1' g2')]
  have e : (A * W' - A' * W) * (g * g') = a * w' - a' * w := by grind
  rw [e]
def spPCmp : List Value → Option Value
  | [.agg ⟨[.bool s1, .string ⟨⟨l1⟩⟩, .bool s2, .string ⟨⟨l2⟩⟩, .bool s3, .string ⟨⟨l3⟩⟩, .bool s4, .string ⟨⟨l4⟩⟩]⟩, .agg ⟨[.bool t1, .string ⟨⟨m1⟩⟩, .bool t2, .string ⟨⟨m2⟩⟩, .bool t3, .string ⟨⟨m3⟩⟩, .bool t4, .string ⟨⟨m4⟩⟩]⟩] =>
    if (l1.length ≤ 65536 ∧ l2.length ≤ 65536 ∧ l3.length ≤ 65536 ∧ l4.length ≤ 65536 ∧ m1.length ≤ 65536 ∧ m2.length ≤ 65536 ∧ m3.length ≤ 65536 ∧ m4.length ≤ 65536) ∧ 0 < (sv s4 l4) ∧ 0 < (sv t4 m4) then some (.int .i64 (cmp4 (sv s1 l1) (sv s2 l2) (sv s3 l3) (sv s4 l4) (sv t1 m1) (sv t2 m2) (sv t3 m3) (sv t4 m4))) else none
  | _ => none
def c28 : ICode :=
  (.seq (.reg [qq 2 (.box 30 8 (.t 0)), qq 3 (.box 30 8 (.t 1)), qq 4 (.mv (ci 0))]) (.seq (.dreg [qu 10 (.load true 8 (.t 2)), qu 11 (.call 75 [(.t 10)]), qv 12 [1] (.load true 8 (.t 3)), qu 13 (.call 75 [(.t 12)]), qm (.store 8 (.t 2) (.t 11)), qm (.store 8 (.t 3) (.t 13))]) (.seq (.dreg [qu 14 (.faddr 0 (.t 2)), qu 15 (.load true 2 (.t 14)), qu 16 (.faddr 2 (.t 2)), qu 17 (.load true 2 (.t 16)), qu 18 (.faddr 4 (.t 2)), qu 19 (.load true 2 (.t 18)), qu 20 (.build [(.bool false), e0, (.bool false), e0, (.bool false), e0] [(0, 2, (.t 15)), (2, 2, (.t 17)), (4, 2, (.t 19))]), qu 21 (.faddr 0 (.t 3)), qu 22 (.load true 2 (.t 21)), qu 23 (.faddr 2 (.t 3)), qu 24 (.load true 2 (.t 23)), qu 25 (.faddr 4 (.t 3)), qu 26 (.load true 2 (.t 25)), qu 27 (.build [(.bool false), e0, (.bool false), e0, (.bool false), e0] [(0, 2, (.t 22)), (2, 2, (.t 24)), (4, 2, (.t 26))]), qu 5 (.alloc 59 6 [(.bool false), e0, (.bool false), e0, (.bool false), e0]), qu 6 (.alloc 59 6 [(.bool false), e0, (.bool false), e0, (.bool false), e0]), ⟨none, none, [1008, 1010, 1012], (.store 6 (.t 5) (.t 20))⟩, qm (.store 6 (.t 6) (.t 27))]) (.seq (.seq (.reg [qq 28 (.load true 6 (.t 5)), qq 29 (.mv (ci 0))]) (.block 0 (.loop (.seq (.reg [qq 30 (.bin .lss (.t 29) (ci 3))]) (.seq (.cond (.t 30) .skip (.exit 0)) (.seq (.block 1 (.seq (.reg [qq 31 (.mv (.t 29)), qq 32 (.idarr 3 true 2 (.t 28) (.t 29)), qq 8 (.alloc 23 2 [(.bool false), e0]), qq 7 (.mv (.t 31)), qn (.store 2 (.t 8) (.t 32))]) (.seq (.dreg [qu 33 (.load true 2 (.t 8)), qu 34 (.faddr 6 (.t 3)), qu 35 (.load true 2 (.t 34)), qu 36 (.call 35 [(.t 33), (.t 35)]), qu 37 (.mv (.t 7)), qu 38 (.ixarr 3 2 (.t 6) (.t 37)), qv 39 [3] (.load true 2 (.t 38)), qu 40 (.faddr 6 (.t 2)), qv 41 [3] (.load true 2 (.t 40)), qu 42 (.call 35 [(.t 39), (.t 41)]), qu 43 (.call 76 [(.t 36), (.t 42)]), qu 9 (.mv (.t 43))]) (.seq (.reg [qq 44 (.mv (.t 9)), qq 45 (.bin .neq (.t 44) (ci 0))]) (.cond (.t 45) (.seq (.reg [qq 46 (.mv (.t 9)), qq 4 (.mv (.t 46))]) .ret) .skip))))) (.reg [qq 47 (.bin .add (.t 29) (ci 1)), qq 29 (.mv (.t 47))]))))))) (.seq (.reg [qq 4 (.mv (ci 0))]) .ret)))))
theorem tr28 : trFun Tryz.prog 28 = some ⟨48, [.t 4], c28⟩ := by kernel_rfl
set_option maxHeartbeats 4000000 in
theorem ok_pCmp : SpecOK Tryz.prog 28 (flat spPCmp) := by
  refine flat_run (env_cons ok_pNorm (env_cons ok_iMul (env_cons ok_iCmp (env_nil _)))) mixed tr28 ?_
  intro args v h N hG
  unfold spPCmp at hG
  split at hG
  case h_2 => cases hG
  rename_i s1 l1 s2 l2 s3 l3 s4 l4 t1 m1 t2 m2 t3 m3 t4 m4
  split at hG
  case isFalse => cases hG
  rename_i hl
  obtain ⟨⟨ha1, ha2, ha3, ha4, hb1, hb2, hb3, hb4⟩, pa, pb⟩ := hl
  have ga1 : l1.length ≤ 34359738368 := by omega
  have ea1 := len_sv (s := s1) ha1
  obtain ⟨a1, fa1⟩ : ∃ z, sv s1 l1 = z := ⟨_, rfl⟩
  rw [fa1] at ea1 hG
  have ga2 : l2.length ≤ 34359738368 := by omega
  have ea2 := len_sv (s := s2) ha2
  obtain ⟨a2, fa2⟩ : ∃ z, sv s2 l2 = z := ⟨_, rfl⟩
  rw [fa2] at ea2 hG
  have ga3 : l3.length ≤ 34359738368 := by omega
  have ea3 := len_sv (s := s3) ha3
  obtain ⟨a3, fa3⟩ : ∃ z, sv s3 l3 = z := ⟨_, rfl⟩
  rw [fa3] at ea3 hG
  have ga4 : l4.length ≤ 34359738368 := by omega
  have ea4 := len_sv (s := s4) ha4
  obtain ⟨a4, fa4⟩ : ∃ z, sv s4 l4 = z := ⟨_, rfl⟩
  rw [fa4] at ea4 hG
  rw [fa4] at pa
  have pwa := pW_of (by omega : a4 ≠ 0)
  have gb1 : m1.length ≤ 34359738368 := by omega
  have eb1 := len_sv (s := t1) hb1
  obtain ⟨b1, fb1⟩ : ∃ z, sv t1 m1 = z := ⟨_, rfl⟩
  rw [fb1] at eb1 hG
  have gb2 : m2.length ≤ 34359738368 := by omega
  have eb2 := len_sv (s := t2) hb2
  obtain ⟨b2, fb2⟩ : ∃ z, sv t2 m2 = z := ⟨_, rfl⟩
  rw [fb2] at eb2 hG
  have gb3 : m3.length ≤ 34359738368 := by omega
  have eb3 := len_sv (s := t3) hb3
  obtain ⟨b3, fb3⟩ : ∃ z, sv t3 m3 = z := ⟨_, rfl⟩
  rw [fb3] at eb3 hG
  have gb4 : m4.length ≤ 34359738368 := by omega
  have eb4 := len_sv (s := t4) hb4
  obtain ⟨b4, fb4⟩ : ∃ z, sv t4 m4 = z := ⟨_, rfl⟩
  rw [fb4] at eb4 hG
  rw [fb4] at pb
  have pwb := pW_of (by omega : b4 ≠ 0)
  have sg1 := pQ_cross pa pb (pG_dvd_x a1 a2 a3 a4) (pG_dvd_x b1 b2 b3 b4)
  have sg2 := pQ_cross pa pb (pG_dvd_y a1 a2 a3 a4) (pG_dvd_y b1 b2 b3 b4)
  have sg3 := pQ_cross pa pb (pG_dvd_z a1 a2 a3 a4) (pG_dvd_z b1 b2 b3 b4)
  have na1 := pQ_len (x := a1) (y := a2) (z := a3) (w := a4) ea1
  obtain ⟨A1, ca1⟩ : ∃ z, pQ a1 a2 a3 a4 a1 = z := ⟨_, rfl⟩
  rw [ca1] at na1
  have na2 := pQ_len (x := a1) (y := a2) (z := a3) (w := a4) ea2
  obtain ⟨A2, ca2⟩ : ∃ z, pQ a1 a2 a3 a4 a2 = z := ⟨_, rfl⟩
  rw [ca2] at na2
  have na3 := pQ_len (x := a1) (y := a2) (z := a3) (w := a4) ea3
  obtain ⟨A3, ca3⟩ : ∃ z, pQ a1 a2 a3 a4 a3 = z := ⟨_, rfl⟩
  rw [ca3] at na3
  have na4 := pQ_len (x := a1) (y := a2) (z := a3) (w := a4) ea4
  obtain ⟨A4, ca4⟩ : ∃ z, pQ a1 a2 a3 a4 a4 = z := ⟨_, rfl⟩
  rw [ca4] at na4
  have nb1 := pQ_len (x := b1) (y := b2) (z := b3) (w := b4) eb1
  obtain ⟨B1, cb1⟩ : ∃ z, pQ b1 b2 b3 b4 b1 = z := ⟨_, rfl⟩
  rw [cb1] at nb1
  have nb2 := pQ_len (x := b1) (y := b2) (z := b3) (w := b4) eb2
  obtain ⟨B2, cb2⟩ : ∃ z, pQ b1 b2 b3 b4 b2 = z := ⟨_, rfl⟩
  rw [cb2] at nb2
  have nb3 := pQ_len (x := b1) (y := b2) (z := b3) (w := b4) eb3
  obtain ⟨B3, cb3⟩ : ∃ z, pQ b1 b2 b3 b4 b3 = z := ⟨_, rfl⟩
  rw [cb3] at nb3
  have nb4 := pQ_len (x := b1) (y := b2) (z := b3) (w := b4) eb4
  obtain ⟨B4, cb4⟩ : ∃ z, pQ b1 b2 b3 b4 b4 = z := ⟨_, rfl⟩
  rw [cb4] at nb4
  rw [ca1, ca4, cb1, cb4] at sg1
  rw [ca2, ca4, cb2, cb4] at sg2
  rw [ca3, ca4, cb3, cb4] at sg3
  have ka1 := lle (k := 34359738368) na1 (by omega)
  have ka2 := lle (k := 34359738368) na2 (by omega)
  have ka3 := lle (k := 34359738368) na3 (by omega)
  have ka4 := lle (k := 34359738368) na4 (by omega)
  have kb1 := lle (k := 34359738368) nb1 (by omega)
  have kb2 := lle (k := 34359738368) nb2 (by omega)
  have kb3 := lle (k := 34359738368) nb3 (by omega)
  have kb4 := lle (k := 34359738368) nb4 (by omega)
  have u1 := lmul (k := 68719476736) na1 nb4 (by omega)
  have v1 := lmul (k := 68719476736) nb1 na4 (by omega)
  have u2 := lmul (k := 68719476736) na2 nb4 (by omega)
  have v2 := lmul (k := 68719476736) nb2 na4 (by omega)
  have u3 := lmul (k := 68719476736) na3 nb4 (by omega)
  have v3 := lmul (k := 68719476736) nb3 na4 (by omega)
  unfold cmp4 lex3 at hG
  rw [← sg1, ← sg2, ← sg3] at hG
  have w1 : IntKind.i64.wrap 1 = 1 := i64_in _ (by omega)
  have w2 : IntKind.i64.wrap 2 = 2 := i64_in _ (by omega)
  have w3 : IntKind.i64.wrap 3 = 3 := i64_in _ (by omega)
  obtain ⟨S1, eS1⟩ : ∃ z, (A1 * B4 - B1 * A4).sign = z := ⟨_, rfl⟩
  rw [eS1] at hG
  obtain ⟨S2, eS2⟩ : ∃ z, (A2 * B4 - B2 * A4).sign = z := ⟨_, rfl⟩
  rw [eS2] at hG
  obtain ⟨S3, eS3⟩ : ∃ z, (A3 * B4 - B3 * A4).sign = z := ⟨_, rfl⟩
  rw [eS3] at hG
  clear sg1 sg2 sg3 na1 ea1 na2 ea2 na3 ea3 na4 ea4 nb1 eb1 nb2 eb2 nb3 eb3 nb4 eb4
  by_cases z1 : S1 = 0
  case neg =>
    simp only [z1, if_false, reduceCtorEq] at hG
    cases hG
    refine ⟨rfl, by simp, ?_⟩
    simp only [c28, G0, Nat.reduceAdd]
    simp only [↓R0, R1, simprocAttr, -Int.reduceAbs, spPNorm, pE, iE, ga1, fa1, ga2, fa2, ga3, fa3, ga4, fa4, pwa, gb1, fb1, gb2, fb2, gb3, fb3, gb4, fb4, pwb, ca1, ca2, ca3, ca4, cb1, cb2, cb3, cb4, ka1, ka2, ka3, ka4, kb1, kb2, kb3, kb4, u1, v1, u2, v2, u3, v3, eS1, eS2, eS3, w1, w2, w3]
    refine lp_step ?_
    simp only [↓R0, R1, simprocAttr, -Int.reduceAbs, spIMul, spICmp, iE, z1, not_true_eq_false, not_false_eq_true, ga1, fa1, ga2, fa2, ga3, fa3, ga4, fa4, pwa, gb1, fb1, gb2, fb2, gb3, fb3, gb4, fb4, pwb, ca1, ca2, ca3, ca4, cb1, cb2, cb3, cb4, ka1, ka2, ka3, ka4, kb1, kb2, kb3, kb4, u1, v1, u2, v2, u3, v3, eS1, eS2, eS3, w1, w2, w3, Fin, isEnd, resL, res1, iE, rE]
    exact ⟨_, rfl, rfl, fun k hk => by simp only [ne_nb hk, if_false]⟩
  by_cases z2 : S2 = 0
  case neg =>
    simp only [z2, if_false, z1, if_true, reduceCtorEq] at hG
    cases hG
    refine ⟨rfl, by simp, ?_⟩
    simp only [c28, G0, Nat.reduceAdd]
    simp only [↓R0, R1, simprocAttr, -Int.reduceAbs, spPNorm, pE, iE, ga1, fa1, ga2, fa2, ga3, fa3, ga4, fa4, pwa, gb1, fb1, gb2, fb2, gb3, fb3, gb4, fb4, pwb, ca1, ca2, ca3, ca4, cb1, cb2, cb3, cb4, ka1, ka2, ka3, ka4, kb1, kb2, kb3, kb4, u1, v1, u2, v2, u3, v3, eS1, eS2, eS3, w1, w2, w3]
    refine lp_step ?_
    simp only [↓R0, R1, simprocAttr, -Int.reduceAbs, spIMul, spICmp, iE, z1, z2, not_true_eq_false, not_false_eq_true, ga1, fa1, ga2, fa2, ga3, fa3, ga4, fa4, pwa, gb1, fb1, gb2, fb2, gb3, fb3, gb4, fb4, pwb, ca1, ca2, ca3, ca4, cb1, cb2, cb3, cb4, ka1, ka2, ka3, ka4, kb1, kb2, kb3, kb4, u1, v1, u2, v2, u3, v3, eS1, eS2, eS3, w1, w2, w3]
    refine lp_step ?_
    simp only [↓R0, R1, simprocAttr, -Int.reduceAbs, spIMul, spICmp, iE, z1, z2, not_true_eq_false, not_false_eq_true, ga1, fa1, ga2, fa2, ga3, fa3, ga4, fa4, pwa, gb1, fb1, gb2, fb2, gb3, fb3, gb4, fb4, pwb, ca1, ca2, ca3, ca4, cb1, cb2, cb3, cb4, ka1, ka2, ka3, ka4, kb1, kb2, kb3, kb4, u1, v1, u2, v2, u3, v3, eS1, eS2, eS3, w1, w2, w3, Fin, isEnd, resL, res1, iE, rE]
    exact ⟨_, rfl, rfl, fun k hk => by simp only [ne_nb hk, if_false]⟩
  by_cases z3 : S3 = 0
  case neg =>
    simp only [z3, if_false, z1, if_true, z2, if_true, reduceCtorEq] at hG
    cases hG
    refine ⟨rfl, by simp, ?_⟩
    simp only [c28, G0, Nat.reduceAdd]
    simp only [↓R0, R1, simprocAttr, -Int.reduceAbs, spPNorm, pE, iE, ga1, fa1, ga2, fa2, ga3, fa3, ga4, fa4, pwa, gb1, fb1, gb2, fb2, gb3, fb3, gb4, fb4, pwb, ca1, ca2, ca3, ca4, cb1, cb2, cb3, cb4, ka1, ka2, ka3, ka4, kb1, kb2, kb3, kb4, u1, v1, u2, v2, u3, v3, eS1, eS2, eS3, w1, w2, w3]
    refine lp_step ?_
    simp only [↓R0, R1, simprocAttr, -Int.reduceAbs, spIMul, spICmp, iE, z1, z2, z3, not_true_eq_false, not_false_eq_true, ga1, fa1, ga2, fa2, ga3, fa3, ga4, fa4, pwa, gb1, fb1, gb2, fb2, gb3, fb3, gb4, fb4, pwb, ca1, ca2, ca3, ca4, cb1, cb2, cb3, cb4, ka1, ka2, ka3, ka4, kb1, kb2, kb3, kb4, u1, v1, u2, v2, u3, v3, eS1, eS2, eS3, w1, w2, w3]
    refine lp_step ?_
    simp only [↓R0, R1, simprocAttr, -Int.reduceAbs, spIMul, spICmp, iE, z1, z2, z3, not_true_eq_false, not_false_eq_true, ga1, fa1, ga2, fa2, ga3, fa3, ga4, fa4, pwa, gb1, fb1, gb2, fb2, gb3, fb3, gb4, fb4, pwb, ca1, ca2, ca3, ca4, cb1, cb2, cb3, cb4, ka1, ka2, ka3, ka4, kb1, kb2, kb3, kb4, u1, v1, u2, v2, u3, v3, eS1, eS2, eS3, w1, w2, w3]
    refine lp_step ?_
    simp only [↓R0, R1, simprocAttr, -Int.reduceAbs, spIMul, spICmp, iE, z1, z2, z3, not_true_eq_false, not_false_eq_true, ga1, fa1, ga2, fa2, ga3, fa3, ga4, fa4, pwa, gb1, fb1, gb2, fb2, gb3, fb3, gb4, fb4, pwb, ca1, ca2, ca3, ca4, cb1, cb2, cb3, cb4, ka1, ka2, ka3, ka4, kb1, kb2, kb3, kb4, u1, v1, u2, v2, u3, v3, eS1, eS2, eS3, w1, w2, w3, Fin, isEnd, resL, res1, iE, rE]
    exact ⟨_, rfl, rfl, fun k hk => by simp only [ne_nb hk, if_false]⟩
  simp only [z1, z2, z3, if_true] at hG
  cases hG
  refine ⟨rfl, by simp, ?_⟩
  simp only [c28, G0, Nat.reduceAdd]
  simp only [↓R0, R1, simprocAttr, -Int.reduceAbs, spPNorm, pE, iE, ga1, fa1, ga2, fa2, ga3, fa3, ga4, fa4, pwa, gb1, fb1, gb2, fb2, gb3, fb3, gb4, fb4, pwb, ca1, ca2, ca3, ca4, cb1, cb2, cb3, cb4, ka1, ka2, ka3, ka4, kb1, kb2, kb3, kb4, u1, v1, u2, v2, u3, v3, eS1, eS2, eS3, w1, w2, w3]
  refine lp_step ?_
  simp only [↓R0, R1, simprocAttr, -Int.reduceAbs, spIMul, spICmp, iE, z1, z2, z3, not_true_eq_false, not_false_eq_true, ga1, fa1, ga2, fa2, ga3, fa3, ga4, fa4, pwa, gb1, fb1, gb2, fb2, gb3, fb3, gb4, fb4, pwb, ca1, ca2, ca3, ca4, cb1, cb2, cb3, cb4, ka1, ka2, ka3, ka4, kb1, kb2, kb3, kb4, u1, v1, u2, v2, u3, v3, eS1, eS2, eS3, w1, w2, w3]
  refine lp_step ?_
  simp only [↓R0, R1, simprocAttr, -Int.reduceAbs, spIMul, spICmp, iE, z1, z2, z3, not_true_eq_false, not_false_eq_true, ga1, fa1, ga2, fa2, ga3, fa3, ga4, fa4, pwa, gb1, fb1, gb2, fb2, gb3, fb3, gb4, fb4, pwb, ca1, ca2, ca3, ca4, cb1, cb2, cb3, cb4, ka1, ka2, ka3, ka4, kb1, kb2, kb3, kb4, u1, v1, u2, v2, u3, v3, eS1, eS2, eS3, w1, w2, w3]
  refine lp_step ?_
  simp only [↓R0, R1, simprocAttr, -Int.reduceAbs, spIMul, spICmp, iE, z1, z2, z3, not_true_eq_false, not_false_eq_true, ga1, fa1, ga2, fa2, ga3, fa3, ga4, fa4, pwa, gb1, fb1, gb2, fb2, gb3, fb3, gb4, fb4, pwb, ca1, ca2, ca3, ca4, cb1, cb2, cb3, cb4, ka1, ka2, ka3, ka4, kb1, kb2, kb3, kb4, u1, v1, u2, v2, u3, v3, eS1, eS2, eS3, w1, w2, w3]
  refine lp_step ?_
  simp only [↓R0, R1, simprocAttr, -Int.reduceAbs, Fin, isEnd, resL, res1, iE, rE]
  exact ⟨_, rfl, rfl, fun k hk => by simp only [ne_nb hk, if_false]⟩
def spXBtw : List Value → Option Value
  | [.agg ⟨[.bool s1, .string ⟨⟨l1⟩⟩, .bool s2, .string ⟨⟨l2⟩⟩, .bool s3, .string ⟨⟨l3⟩⟩, .bool s4, .string ⟨⟨l4⟩⟩]⟩, .agg ⟨[.bool t1, .string ⟨⟨m1⟩⟩, .bool t2, .string ⟨⟨m2⟩⟩, .bool t3, .string ⟨⟨m3⟩⟩, .bool t4, .string ⟨⟨m4⟩⟩]⟩, .agg ⟨[.bool q1, .string ⟨⟨k1⟩⟩, .bool q2, .string ⟨⟨k2⟩⟩, .bool q3, .string ⟨⟨k3⟩⟩, .bool q4, .string ⟨⟨k4⟩⟩]⟩] =>
    if (l1.length ≤ 65536 ∧ l2.length ≤ 65536 ∧ l3.length ≤ 65536 ∧ l4.length ≤ 65536 ∧ m1.length ≤ 65536 ∧ m2.length ≤ 65536 ∧ m3.length ≤ 65536 ∧ m4.length ≤ 65536 ∧ k1.length ≤ 65536 ∧ k2.length ≤ 65536 ∧ k3.length ≤ 65536 ∧ k4.length ≤ 65536) ∧ 0 < (sv s4 l4) ∧ 0 < (sv t4 m4) ∧ 0 < (sv q4 k4) then some (.bool (decide (btw (sv s1 l1) (sv s2 l2) (sv s3 l3) (sv s4 l4) (sv t1 m1) (sv t2 m2) (sv t3 m3) (sv t4 m4) (sv q1 k1) (sv q2 k2) (sv q3 k3) (sv q4 k4)))) else none
  | _ => none
def c21 : ICode :=
  (.seq (.reg [qq 3 (.box 30 8 (.t 0)), qq 4 (.box 30 8 (.t 1)), qq 5 (.box 30 8 (.t 2)), qq 6 (.mv (.c (.bool false)))]) (.seq (.reg [qq 8 (.load true 8 (.t 3)), qq 9 (.load true 8 (.t 5)), qq 10 (.call 28 [(.t 8), (.t 9)]), qq 7 (.mv (.t 10))]) (.seq (.reg [qq 11 (.mv (.t 7)), qq 12 (.bin .neq (.t 11) (ci 0)), qq 13 (.mv (.t 12)), ⟨(some 14), (some (13, true)), (.mv (.t 7))⟩, ⟨(some 15), (some (13, true)), (.load true 8 (.t 5))⟩, ⟨(some 16), (some (13, true)), (.load true 8 (.t 4))⟩, ⟨(some 17), (some (13, true)), (.call 28 [(.t 15), (.t 16)])⟩, ⟨(some 18), (some (13, true)), (.bin .eql (.t 14) (.t 17))⟩, qq 19 (.pick (.t 13) (.t 18) (.c (.bool false))), qq 20 (.mv (.t 19)), ⟨(some 21), (some (20, true)), (.load true 8 (.t 3))⟩, ⟨(some 22), (some (20, true)), (.load true 8 (.t 4))⟩, ⟨(some 23), (some (20, true)), (.load true 8 (.t 5))⟩, ⟨(some 24), (some (20, true)), (.call 19 [(.t 21), (.t 22), (.t 23)])⟩, qq 25 (.pick (.t 20) (.t 24) (.c (.bool false))), qq 6 (.mv (.t 25))]) .ret)))
theorem tr21 : trFun Tryz.prog 21 = some ⟨26, [.t 6], c21⟩ := by kernel_rfl
set_option maxHeartbeats 4000000 in
theorem ok_xBtw : SpecOK Tryz.prog 21 (flat spXBtw) := by
  refine flat_run (env_cons ok_pCmp (env_cons ok_xCollin (env_nil _))) mixed tr21 ?_
  intro args v h N hG
  unfold spXBtw at hG
  split at hG
  case h_2 => cases hG
  rename_i s1 l1 s2 l2 s3 l3 s4 l4 t1 m1 t2 m2 t3 m3 t4 m4 q1 k1 q2 k2 q3 k3 q4 k4
  split at hG
  case isFalse => cases hG
  rename_i hl
  obtain ⟨⟨ha1, ha2, ha3, ha4, hb1, hb2, hb3, hb4, hc1, hc2, hc3, hc4⟩, pa, pb, pc⟩ := hl
  have ga1 : l1.length ≤ 67108864 := by omega
  obtain ⟨a1, fa1⟩ : ∃ z, sv s1 l1 = z := ⟨_, rfl⟩
  rw [fa1] at hG
  have ga2 : l2.length ≤ 67108864 := by omega
  obtain ⟨a2, fa2⟩ : ∃ z, sv s2 l2 = z := ⟨_, rfl⟩
  rw [fa2] at hG
  have ga3 : l3.length ≤ 67108864 := by omega
  obtain ⟨a3, fa3⟩ : ∃ z, sv s3 l3 = z := ⟨_, rfl⟩
  rw [fa3] at hG
  have ga4 : l4.length ≤ 67108864 := by omega
  obtain ⟨a4, fa4⟩ : ∃ z, sv s4 l4 = z := ⟨_, rfl⟩
  rw [fa4] at hG
  rw [fa4] at pa
  have gb1 : m1.length ≤ 67108864 := by omega
  obtain ⟨b1, fb1⟩ : ∃ z, sv t1 m1 = z := ⟨_, rfl⟩
  rw [fb1] at hG
  have gb2 : m2.length ≤ 67108864 := by omega
  obtain ⟨b2, fb2⟩ : ∃ z, sv t2 m2 = z := ⟨_, rfl⟩
  rw [fb2] at hG
  have gb3 : m3.length ≤ 67108864 := by omega
  obtain ⟨b3, fb3⟩ : ∃ z, sv t3 m3 = z := ⟨_, rfl⟩
  rw [fb3] at hG
  have gb4 : m4.length ≤ 67108864 := by omega
  obtain ⟨b4, fb4⟩ : ∃ z, sv t4 m4 = z := ⟨_, rfl⟩
  rw [fb4] at hG
  rw [fb4] at pb
  have gc1 : k1.length ≤ 67108864 := by omega
  obtain ⟨c1, fc1⟩ : ∃ z, sv q1 k1 = z := ⟨_, rfl⟩
  rw [fc1] at hG
  have gc2 : k2.length ≤ 67108864 := by omega
  obtain ⟨c2, fc2⟩ : ∃ z, sv q2 k2 = z := ⟨_, rfl⟩
  rw [fc2] at hG
  have gc3 : k3.length ≤ 67108864 := by omega
  obtain ⟨c3, fc3⟩ : ∃ z, sv q3 k3 = z := ⟨_, rfl⟩
  rw [fc3] at hG
  have gc4 : k4.length ≤ 67108864 := by omega
  obtain ⟨c4, fc4⟩ : ∃ z, sv q4 k4 = z := ⟨_, rfl⟩
  rw [fc4] at hG
  rw [fc4] at pc
  have nea : a4 ≠ 0 := by omega
  unfold btw at hG
  have vj := cmp4_vals a1 a2 a3 a4 c1 c2 c3 c4
  have vi := cmp4_vals c1 c2 c3 c4 b1 b2 b3 b4
  obtain ⟨f, ef⟩ : ∃ p : Prop, flt a1 a2 a3 a4 b1 b2 b3 b4 c1 c2 c3 c4 = p := ⟨_, rfl⟩
  obtain ⟨i, ei⟩ : ∃ z, cmp4 c1 c2 c3 c4 b1 b2 b3 b4 = z := ⟨_, rfl⟩
  obtain ⟨j, ej⟩ : ∃ z, cmp4 a1 a2 a3 a4 c1 c2 c3 c4 = z := ⟨_, rfl⟩
  obtain ⟨m, em⟩ : ∃ z, cmp4 a1 a2 a3 a4 b1 b2 b3 b4 = z := ⟨_, rfl⟩
  rw [ei] at vi; rw [ej] at vj
  simp only [ei, ej] at hG
  by_cases z1 : j = 0
  · simp only [z1, not_true_eq_false, false_and, decide_false] at hG
    cases hG
    refine ⟨rfl, by simp, ?_⟩
    simp only [c21, G0, Nat.reduceAdd]
    simp only [↓R0, R1, simprocAttr, -Int.reduceAbs, spPCmp, spXCollin, ga1, fa1, ha1, ga2, fa2, ha2, ga3, fa3, ha3, ga4, fa4, ha4, pa, gb1, fb1, hb1, gb2, fb2, hb2, gb3, fb3, hb3, gb4, fb4, hb4, pb, gc1, fc1, hc1, gc2, fc2, hc2, gc3, fc3, hc3, gc4, fc4, hc4, pc, nea, ei, ej, em, z1, not_true_eq_false, Fin, isEnd, resL, res1, iE, rE]
    exact ⟨_, rfl, rfl, fun k hk => by simp only [ne_nb hk, if_false]⟩
  · by_cases z2 : j = i
    · simp only [z1, z2, not_false_eq_true, true_and] at hG
      have z3 : ¬ (i = 0) := by omega
      simp only [z3, not_false_eq_true, true_and] at hG
      cases hG
      refine ⟨rfl, by simp, ?_⟩
      simp only [c21, G0, Nat.reduceAdd]
      simp only [↓R0, R1, simprocAttr, -Int.reduceAbs, spPCmp, spXCollin, ga1, fa1, ha1, ga2, fa2, ha2, ga3, fa3, ha3, ga4, fa4, ha4, pa, gb1, fb1, hb1, gb2, fb2, hb2, gb3, fb3, hb3, gb4, fb4, hb4, pb, gc1, fc1, hc1, gc2, fc2, hc2, gc3, fc3, hc3, gc4, fc4, hc4, pc, nea, ei, ej, em, z2, z3, not_false_eq_true, ne_eq, Fin, isEnd, resL, res1, iE, rE]
      exact ⟨_, rfl, rfl, fun k hk => by simp only [ne_nb hk, if_false]⟩
    · simp only [z1, z2, not_false_eq_true, true_and, false_and, and_false, decide_false] at hG
      cases hG
      refine ⟨rfl, by simp, ?_⟩
      simp only [c21, G0, Nat.reduceAdd]
      simp only [↓R0, R1, simprocAttr, -Int.reduceAbs, spPCmp, spXCollin, ga1, fa1, ha1, ga2, fa2, ha2, ga3, fa3, ha3, ga4, fa4, ha4, pa, gb1, fb1, hb1, gb2, fb2, hb2, gb3, fb3, hb3, gb4, fb4, hb4, pb, gc1, fc1, hc1, gc2, fc2, hc2, gc3, fc3, hc3, gc4, fc4, hc4, pc, nea, ei, ej, em, z1, z2, not_false_eq_true, Fin, isEnd, resL, res1, iE, rE]
      exact ⟨_, rfl, rfl, fun k hk => by simp only [ne_nb hk, if_false]⟩
end Go.Eng
end
section
set_option linter.unusedVariables false
set_option linter.unusedSimpArgs false
set_option linter.unusedSectionVars false
namespace Go.Eng
structure Pt where
  (s1 : Bool) (l1 : List UInt8) (s2 : Bool) (l2 : List UInt8) (s3 : Bool) (l3 : List UInt8) (s4 : Bool) (l4 : List UInt8)
deriving DecidableEq
namespace Pt
def cells (p : Pt) : List Value := [.bool p.s1, .string ⟨⟨p.l1⟩⟩, .bool p.s2, .string ⟨⟨p.l2⟩⟩, .bool p.s3, .string ⟨⟨p.l3⟩⟩, .bool p.s4, .string ⟨⟨p.l4⟩⟩]
def x (p : Pt) : Int := sv p.s1 p.l1
def y (p : Pt) : Int := sv p.s2 p.l2
def z (p : Pt) : Int := sv p.s3 p.l3
def w (p : Pt) : Int := sv p.s4 p.l4
def cmp (p q : Pt) : Int := cmp4 p.x p.y p.z p.w q.x q.y q.z q.w
def on (p q r : Pt) : Prop := flt p.x p.y p.z p.w q.x q.y q.z q.w r.x r.y r.z r.w
instance {p q r : Pt} : Decidable (on p q r) := by unfold on; infer_instance
def ok (p : Pt) : Prop := (p.l1.length ≤ 65536 ∧ p.l2.length ≤ 65536 ∧ p.l3.length ≤ 65536 ∧ p.l4.length ≤ 65536) ∧ 0 < p.w
instance {p : Pt} : Decidable p.ok := by unfold ok; infer_instance
def lo (p q : Pt) : Pt := if 0 < cmp p q then q else p
def hi (p q : Pt) : Pt := if 0 < cmp p q then p else q
theorem lo_ok {p q : Pt} (hp : p.ok) (hq : q.ok) : (lo p q).ok := by unfold lo; split <;> assumption
theorem hi_ok {p q : Pt} (hp : p.ok) (hq : q.ok) : (hi p q).ok := by unfold hi; split <;> assumption
theorem cmp_neg (p q : Pt) : cmp q p = -cmp p q := cmp4_neg ..
theorem cmp_self (p : Pt) : cmp p p = 0 := by have := cmp_neg p p; omega
def over (a b c d : Pt) : Option (Pt × Pt) :=
  if lo a b = hi a b ∨ lo c d = hi c d ∨ ¬ on (lo a b) (hi a b) (lo c d) ∨ ¬ on (lo a b) (hi a b) (hi c d) then none else
  if 0 ≤ cmp (hi (lo a b) (lo c d)) (lo (hi a b) (hi c d)) then none else some (hi (lo a b) (lo c d), lo (hi a b) (hi c d))
theorem on_swap (p q r : Pt) : on q p r = on p q r := by
  unfold on flt
  have e : ∀ a1 a2 a3 b1 b2 b3 c1 c2 c3 : Int, dt3 b1 b2 b3 a1 a2 a3 c1 c2 c3 = -dt3 a1 a2 a3 b1 b2 b3 c1 c2 c3 := by intros; unfold dt3; grind
  rw [e p.y p.z p.w, e p.z p.x p.w, e p.x p.y p.w, Int.neg_eq_zero, Int.neg_eq_zero, Int.neg_eq_zero]
end Pt
end Go.Eng
end
section
set_option linter.unusedVariables false
set_option linter.unusedSimpArgs false
set_option linter.unusedSectionVars false
set_option maxRecDepth 20000
namespace Go.Eng
open Go Go.Proofs Go.IntWalk
theorem ceq8 {s1 l1 s2 l2 s3 l3 s4 l4 t1 m1 t2 m2 t3 m3 t4 m4} : ceq [.b, .s, .b, .s, .b, .s, .b, .s] [.bool s1, .string ⟨⟨l1⟩⟩, .bool s2, .string ⟨⟨l2⟩⟩, .bool s3, .string ⟨⟨l3⟩⟩, .bool s4, .string ⟨⟨l4⟩⟩] [.bool t1, .string ⟨⟨m1⟩⟩, .bool t2, .string ⟨⟨m2⟩⟩, .bool t3, .string ⟨⟨m3⟩⟩, .bool t4, .string ⟨⟨m4⟩⟩] =
    some (decide ((⟨s1, l1, s2, l2, s3, l3, s4, l4⟩ : Pt) = ⟨t1, m1, t2, m2, t3, m3, t4, m4⟩)) := by
  have e : ∀ a b : List UInt8, decide ((⟨⟨a⟩⟩ : ByteArray) = ⟨⟨b⟩⟩) = decide (a = b) := fun a b => by
    congr 1; exact propext ⟨fun h => by injection h with h; injection h, fun h => by rw [h]⟩
  simp only [ceq, Option.map_some, Bool.and_true, e, Option.some.injEq, Pt.mk.injEq, Bool.decide_and]
theorem pCmp_pt {p q : Pt} (hp : p.ok) (hq : q.ok) : spPCmp [.agg ⟨p.cells⟩, .agg ⟨q.cells⟩] = some (.int .i64 (Pt.cmp p q)) := by
  unfold spPCmp Pt.cells
  simp only
  rw [if_pos ⟨⟨hp.1.1, hp.1.2.1, hp.1.2.2.1, hp.1.2.2.2, hq.1.1, hq.1.2.1, hq.1.2.2.1, hq.1.2.2.2⟩, hp.2, hq.2⟩]; rfl
theorem collin_pt {p q r : Pt} (hp : p.ok) (hq : q.ok) (hr : r.ok) : spXCollin [.agg ⟨p.cells⟩, .agg ⟨q.cells⟩, .agg ⟨r.cells⟩] = some (.bool (decide (Pt.on p q r))) := by
  have n : sv p.s4 p.l4 ≠ 0 := by have := hp.2; unfold Pt.w at this; omega
  unfold spXCollin Pt.cells
  simp only
  have t := fun {n : Nat} (h : n ≤ 65536) => (Nat.le_trans h (by omega) : n ≤ 67108864)
  rw [if_pos ⟨⟨t hp.1.1, t hp.1.2.1, t hp.1.2.2.1, t hp.1.2.2.2, t hq.1.1, t hq.1.2.1, t hq.1.2.2.1, t hq.1.2.2.2, t hr.1.1, t hr.1.2.1, t hr.1.2.2.1, t hr.1.2.2.2⟩, n⟩]; rfl
def spXSorted : List Value → Option Value
  | [.agg ⟨[.bool s1, .string ⟨⟨l1⟩⟩, .bool s2, .string ⟨⟨l2⟩⟩, .bool s3, .string ⟨⟨l3⟩⟩, .bool s4, .string ⟨⟨l4⟩⟩]⟩, .agg ⟨[.bool t1, .string ⟨⟨m1⟩⟩, .bool t2, .string ⟨⟨m2⟩⟩, .bool t3, .string ⟨⟨m3⟩⟩, .bool t4, .string ⟨⟨m4⟩⟩]⟩] =>
    if (⟨s1, l1, s2, l2, s3, l3, s4, l4⟩ : Pt).ok ∧ (⟨t1, m1, t2, m2, t3, m3, t4, m4⟩ : Pt).ok then some (.tuple ⟨[.agg ⟨(Pt.lo (⟨s1, l1, s2, l2, s3, l3, s4, l4⟩ : Pt) (⟨t1, m1, t2, m2, t3, m3, t4, m4⟩ : Pt)).cells⟩, .agg ⟨(Pt.hi (⟨s1, l1, s2, l2, s3, l3, s4, l4⟩ : Pt) (⟨t1, m1, t2, m2, t3, m3, t4, m4⟩ : Pt)).cells⟩]⟩) else none
  | _ => none
def c64 : ICode :=
  (.seq (.reg [qq 2 (.box 30 8 (.t 0)), qq 3 (.box 30 8 (.t 1)), qq 4 (.alloc 30 8 [(.bool false), e0, (.bool false), e0, (.bool false), e0, (.bool false), e0]), qq 5 (.alloc 30 8 [(.bool false), e0, (.bool false), e0, (.bool false), e0, (.bool false), e0])]) (.seq (.seq (.reg [qq 6 (.load true 8 (.t 2)), qq 7 (.load true 8 (.t 3)), qq 8 (.call 28 [(.t 6), (.t 7)]), qq 9 (.bin .gtr (.t 8) (ci 0))]) (.cond (.t 9) (.seq (.dreg [qu 10 (.load true 8 (.t 3)), qu 11 (.load true 8 (.t 2)), ⟨none, none, [1001], (.store 8 (.t 4) (.t 10))⟩, qm (.store 8 (.t 5) (.t 11))]) .ret) .skip)) (.seq (.dreg [qu 12 (.load true 8 (.t 2)), qu 13 (.load true 8 (.t 3)), ⟨none, none, [1001], (.store 8 (.t 4) (.t 12))⟩, qm (.store 8 (.t 5) (.t 13))]) .ret)))
theorem tr64 : trFun Tryz.prog 64 = some ⟨14, [.cell 4 true 8, .cell 5 true 8], c64⟩ := by kernel_rfl
set_option maxHeartbeats 8000000 in
theorem ok_xSorted : SpecOK Tryz.prog 64 (flat spXSorted) := by
  refine flat_run (env_cons ok_pCmp (env_nil _)) mixed tr64 ?_
  intro args v h N hG
  unfold spXSorted at hG
  split at hG
  case h_2 => cases hG
  rename_i s1 l1 s2 l2 s3 l3 s4 l4 t1 m1 t2 m2 t3 m3 t4 m4
  split at hG
  case isFalse => cases hG
  rename_i hl
  obtain ⟨ha, hb⟩ := hl
  have e1 := pCmp_pt ha hb
  unfold Pt.lo Pt.hi at hG
  obtain ⟨k, ek⟩ : ∃ z, Pt.cmp (⟨s1, l1, s2, l2, s3, l3, s4, l4⟩ : Pt) (⟨t1, m1, t2, m2, t3, m3, t4, m4⟩ : Pt) = z := ⟨_, rfl⟩
  rw [ek] at hG e1
  by_cases hk : 0 < k
  · simp only [hk, if_true] at hG
    unfold Pt.cells at *
    cases hG
    refine ⟨rfl, by simp, ?_⟩
    simp only [c64, G0, Nat.reduceAdd]
    simp only [↓R0, R1, simprocAttr, -Int.reduceAbs, e1, hk, gt_iff_lt, Fin, isEnd, resL, res1, iE, rE]
    exact ⟨_, rfl, rfl, fun k hk => by simp only [ne_nb hk, if_false]⟩
  · simp only [hk, if_false] at hG
    unfold Pt.cells at *
    cases hG
    refine ⟨rfl, by simp, ?_⟩
    simp only [c64, G0, Nat.reduceAdd]
    simp only [↓R0, R1, simprocAttr, -Int.reduceAbs, e1, hk, gt_iff_lt, Fin, isEnd, resL, res1, iE, rE]
    exact ⟨_, rfl, rfl, fun k hk => by simp only [ne_nb hk, if_false]⟩
def ovE : Option (Pt × Pt) → Value
  | none => .tuple ⟨[.agg ⟨pZ⟩, .agg ⟨pZ⟩, .bool false]⟩
  | some (l, h) => .tuple ⟨[.agg ⟨l.cells⟩, .agg ⟨h.cells⟩, .bool true]⟩
theorem sorted_pt {p q : Pt} (hp : p.ok) (hq : q.ok) : spXSorted [.agg ⟨p.cells⟩, .agg ⟨q.cells⟩] = some (.tuple ⟨[.agg ⟨(Pt.lo p q).cells⟩, .agg ⟨(Pt.hi p q).cells⟩]⟩) := by
  unfold spXSorted
  rw [show p.cells = [.bool p.s1, .string ⟨⟨p.l1⟩⟩, .bool p.s2, .string ⟨⟨p.l2⟩⟩, .bool p.s3, .string ⟨⟨p.l3⟩⟩, .bool p.s4, .string ⟨⟨p.l4⟩⟩] from rfl, show q.cells = [.bool q.s1, .string ⟨⟨q.l1⟩⟩, .bool q.s2, .string ⟨⟨q.l2⟩⟩, .bool q.s3, .string ⟨⟨q.l3⟩⟩, .bool q.s4, .string ⟨⟨q.l4⟩⟩] from rfl]
  simp only
  exact if_pos ⟨hp, hq⟩
def spXOver : List Value → Option Value
  | [.agg ⟨[.bool s1, .string ⟨⟨l1⟩⟩, .bool s2, .string ⟨⟨l2⟩⟩, .bool s3, .string ⟨⟨l3⟩⟩, .bool s4, .string ⟨⟨l4⟩⟩]⟩, .agg ⟨[.bool t1, .string ⟨⟨m1⟩⟩, .bool t2, .string ⟨⟨m2⟩⟩, .bool t3, .string ⟨⟨m3⟩⟩, .bool t4, .string ⟨⟨m4⟩⟩]⟩, .agg ⟨[.bool q1, .string ⟨⟨k1⟩⟩, .bool q2, .string ⟨⟨k2⟩⟩, .bool q3, .string ⟨⟨k3⟩⟩, .bool q4, .string ⟨⟨k4⟩⟩]⟩, .agg ⟨[.bool p1, .string ⟨⟨j1⟩⟩, .bool p2, .string ⟨⟨j2⟩⟩, .bool p3, .string ⟨⟨j3⟩⟩, .bool p4, .string ⟨⟨j4⟩⟩]⟩] =>
    if (⟨s1, l1, s2, l2, s3, l3, s4, l4⟩ : Pt).ok ∧ (⟨t1, m1, t2, m2, t3, m3, t4, m4⟩ : Pt).ok ∧ (⟨q1, k1, q2, k2, q3, k3, q4, k4⟩ : Pt).ok ∧ (⟨p1, j1, p2, j2, p3, j3, p4, j4⟩ : Pt).ok then some (ovE (Pt.over (⟨s1, l1, s2, l2, s3, l3, s4, l4⟩ : Pt) (⟨t1, m1, t2, m2, t3, m3, t4, m4⟩ : Pt) (⟨q1, k1, q2, k2, q3, k3, q4, k4⟩ : Pt) (⟨p1, j1, p2, j2, p3, j3, p4, j4⟩ : Pt))) else none
  | _ => none
def c23 : ICode :=
  (.seq (.reg [qq 4 (.box 30 8 (.t 0)), qq 5 (.box 30 8 (.t 1)), qq 6 (.box 30 8 (.t 2)), qq 7 (.box 30 8 (.t 3)), qq 8 (.alloc 30 8 [(.bool false), e0, (.bool false), e0, (.bool false), e0, (.bool false), e0]), qq 9 (.alloc 30 8 [(.bool false), e0, (.bool false), e0, (.bool false), e0, (.bool false), e0]), qq 10 (.mv (.c (.bool false)))]) (.seq (.reg [qq 16 (.load true 8 (.t 4)), qq 17 (.load true 8 (.t 5)), qq 18 (.call 64 [(.t 16), (.t 17)]), qq 15 (.mv (.t 18)), qq 19 (.ext (.t 15) 0), qq 20 (.ext (.t 15) 1), qn (.store 8 (.t 4) (.t 19)), qn (.store 8 (.t 5) (.t 20))]) (.seq (.reg [qq 22 (.load true 8 (.t 6)), qq 23 (.load true 8 (.t 7)), qq 24 (.call 64 [(.t 22), (.t 23)]), qq 21 (.mv (.t 24)), qq 25 (.ext (.t 21) 0), qq 26 (.ext (.t 21) 1), qn (.store 8 (.t 6) (.t 25)), qn (.store 8 (.t 7) (.t 26))]) (.seq (.seq (.reg [qq 27 (.load true 8 (.t 4)), qq 28 (.load true 8 (.t 5)), qq 29 (.eqa false [.b, .s, .b, .s, .b, .s, .b, .s] (.t 27) (.t 28)), qq 30 (.mv (.t 29)), ⟨(some 31), (some (30, false)), (.load true 8 (.t 6))⟩, ⟨(some 32), (some (30, false)), (.load true 8 (.t 7))⟩, ⟨(some 33), (some (30, false)), (.eqa false [.b, .s, .b, .s, .b, .s, .b, .s] (.t 31) (.t 32))⟩, qq 34 (.pick (.t 30) (.c (.bool true)) (.t 33)), qq 35 (.mv (.t 34)), ⟨(some 36), (some (35, false)), (.load true 8 (.t 4))⟩, ⟨(some 37), (some (35, false)), (.load true 8 (.t 5))⟩, ⟨(some 38), (some (35, false)), (.load true 8 (.t 6))⟩, ⟨(some 39), (some (35, false)), (.call 19 [(.t 36), (.t 37), (.t 38)])⟩, ⟨(some 40), (some (35, false)), (.un .not (.t 39))⟩, qq 41 (.pick (.t 35) (.c (.bool true)) (.t 40)), qq 42 (.mv (.t 41)), ⟨(some 43), (some (42, false)), (.load true 8 (.t 4))⟩, ⟨(some 44), (some (42, false)), (.load true 8 (.t 5))⟩, ⟨(some 45), (some (42, false)), (.load true 8 (.t 7))⟩, ⟨(some 46), (some (42, false)), (.call 19 [(.t 43), (.t 44), (.t 45)])⟩, ⟨(some 47), (some (42, false)), (.un .not (.t 46))⟩, qq 48 (.pick (.t 42) (.c (.bool true)) (.t 47))]) (.cond (.t 48) (.seq (.reg [qq 49 (.build [(.bool false), e0, (.bool false), e0, (.bool false), e0, (.bool false), e0] []), qq 50 (.build [(.bool false), e0, (.bool false), e0, (.bool false), e0, (.bool false), e0] []), qn (.store 8 (.t 8) (.t 49)), qn (.store 8 (.t 9) (.t 50)), qq 10 (.mv (.c (.bool false)))]) .ret) .skip)) (.seq (.reg [qq 52 (.load true 8 (.t 4)), qq 53 (.load true 8 (.t 6)), qq 54 (.call 64 [(.t 52), (.t 53)]), qq 51 (.mv (.t 54)), qq 55 (.ext (.t 51) 0), qq 56 (.ext (.t 51) 1), qq 11 (.alloc 30 8 [(.bool false), e0, (.bool false), e0, (.bool false), e0, (.bool false), e0]), qq 12 (.alloc 30 8 [(.bool false), e0, (.bool false), e0, (.bool false), e0, (.bool false), e0]), qn (.store 8 (.t 11) (.t 55)), qn (.store 8 (.t 12) (.t 56))]) (.seq (.reg [qq 58 (.load true 8 (.t 5)), qq 59 (.load true 8 (.t 7)), qq 60 (.call 64 [(.t 58), (.t 59)]), qq 57 (.mv (.t 60)), qq 61 (.ext (.t 57) 0), qq 62 (.ext (.t 57) 1), qq 13 (.alloc 30 8 [(.bool false), e0, (.bool false), e0, (.bool false), e0, (.bool false), e0]), qq 14 (.alloc 30 8 [(.bool false), e0, (.bool false), e0, (.bool false), e0, (.bool false), e0]), qn (.store 8 (.t 13) (.t 61)), qn (.store 8 (.t 14) (.t 62))]) (.seq (.seq (.reg [qq 63 (.load true 8 (.t 12)), qq 64 (.load true 8 (.t 13)), qq 65 (.call 28 [(.t 63), (.t 64)]), qq 66 (.bin .geq (.t 65) (ci 0))]) (.cond (.t 66) (.seq (.reg [qq 67 (.build [(.bool false), e0, (.bool false), e0, (.bool false), e0, (.bool false), e0] []), qq 68 (.build [(.bool false), e0, (.bool false), e0, (.bool false), e0, (.bool false), e0] []), qn (.store 8 (.t 8) (.t 67)), qn (.store 8 (.t 9) (.t 68)), qq 10 (.mv (.c (.bool false)))]) .ret) .skip)) (.seq (.dreg [qu 69 (.load true 8 (.t 12)), qu 70 (.load true 8 (.t 13)), ⟨none, none, [1001], (.store 8 (.t 8) (.t 69))⟩, qm (.store 8 (.t 9) (.t 70)), qu 10 (.mv (.c (.bool true)))]) .ret))))))))
theorem tr23 : trFun Tryz.prog 23 = some ⟨71, [.cell 8 true 8, .cell 9 true 8, .t 10], c23⟩ := by kernel_rfl
set_option maxHeartbeats 8000000 in
theorem ok_xOver : SpecOK Tryz.prog 23 (flat spXOver) := by
  refine flat_run (env_cons ok_xSorted (env_cons ok_xCollin (env_cons ok_pCmp (env_nil _)))) mixed tr23 ?_
  intro args v h N hG
  unfold spXOver at hG
  split at hG
  case h_2 => cases hG
  rename_i s1 l1 s2 l2 s3 l3 s4 l4 t1 m1 t2 m2 t3 m3 t4 m4 q1 k1 q2 k2 q3 k3 q4 k4 p1 j1 p2 j2 p3 j3 p4 j4
  split at hG
  case isFalse => cases hG
  rename_i hl
  obtain ⟨ha, hb, hc, hd⟩ := hl
  have sab := sorted_pt ha hb
  have scd := sorted_pt hc hd
  have kA := Pt.lo_ok ha hb
  have kB := Pt.hi_ok ha hb
  have kC := Pt.lo_ok hc hd
  have kD := Pt.hi_ok hc hd
  unfold Pt.over at hG
  generalize Pt.lo (⟨s1, l1, s2, l2, s3, l3, s4, l4⟩ : Pt) (⟨t1, m1, t2, m2, t3, m3, t4, m4⟩ : Pt) = A at *
  generalize Pt.hi (⟨s1, l1, s2, l2, s3, l3, s4, l4⟩ : Pt) (⟨t1, m1, t2, m2, t3, m3, t4, m4⟩ : Pt) = B at *
  generalize Pt.lo (⟨q1, k1, q2, k2, q3, k3, q4, k4⟩ : Pt) (⟨p1, j1, p2, j2, p3, j3, p4, j4⟩ : Pt) = C at *
  generalize Pt.hi (⟨q1, k1, q2, k2, q3, k3, q4, k4⟩ : Pt) (⟨p1, j1, p2, j2, p3, j3, p4, j4⟩ : Pt) = D at *
  have c1 := collin_pt kA kB kC
  have c2 := collin_pt kA kB kD
  have sac := sorted_pt kA kC
  have sbd := sorted_pt kB kD
  have kL := Pt.hi_ok kA kC
  have kH := Pt.lo_ok kB kD
  generalize Pt.hi A C = L at *
  generalize Pt.lo B D = H at *
  have cLH := pCmp_pt kL kH
  generalize Pt.lo A C = L' at *
  generalize Pt.hi B D = H' at *
  obtain ⟨k, ek⟩ : ∃ z, Pt.cmp L H = z := ⟨_, rfl⟩
  rw [ek] at hG cLH
  obtain ⟨u, eu⟩ : ∃ p : Prop, Pt.on A B C = p := ⟨_, rfl⟩
  obtain ⟨w, ew⟩ : ∃ p : Prop, Pt.on A B D = p := ⟨_, rfl⟩
  obtain ⟨aa1, aa2, aa3, aa4, aa5, aa6, aa7, aa8⟩ := A
  obtain ⟨bb1, bb2, bb3, bb4, bb5, bb6, bb7, bb8⟩ := B
  obtain ⟨cc1, cc2, cc3, cc4, cc5, cc6, cc7, cc8⟩ := C
  obtain ⟨dd1, dd2, dd3, dd4, dd5, dd6, dd7, dd8⟩ := D
  obtain ⟨ll1, ll2, ll3, ll4, ll5, ll6, ll7, ll8⟩ := L
  obtain ⟨hh1, hh2, hh3, hh4, hh5, hh6, hh7, hh8⟩ := H
  obtain ⟨le1, le2, le3, le4, le5, le6, le7, le8⟩ := L'
  obtain ⟨he1, he2, he3, he4, he5, he6, he7, he8⟩ := H'
  unfold Pt.cells at *
  by_cases z1 : (⟨aa1, aa2, aa3, aa4, aa5, aa6, aa7, aa8⟩ : Pt) = (⟨bb1, bb2, bb3, bb4, bb5, bb6, bb7, bb8⟩ : Pt)
  case pos =>
    simp only [z1, or_true, true_or, false_or, or_false, not_true_eq_false, not_false_eq_true, if_true, if_false, ovE] at hG
    cases hG
    refine ⟨rfl, by simp, ?_⟩
    simp only [c23, G0, Nat.reduceAdd]
    simp only [↓R0, R1, simprocAttr, -Int.reduceAbs, sab, scd, ceq8, c1, c2, sac, sbd, cLH, z1, ge_iff_le, Bool.not_true, Bool.not_false, decide_true, decide_false, pZ, Fin, isEnd, resL, res1, iE, rE]
    exact ⟨_, rfl, rfl, fun k hk => by simp only [ne_nb hk, if_false]⟩
  by_cases z2 : (⟨cc1, cc2, cc3, cc4, cc5, cc6, cc7, cc8⟩ : Pt) = (⟨dd1, dd2, dd3, dd4, dd5, dd6, dd7, dd8⟩ : Pt)
  case pos =>
    simp only [z1, z2, or_true, true_or, false_or, or_false, not_true_eq_false, not_false_eq_true, if_true, if_false, ovE] at hG
    cases hG
    refine ⟨rfl, by simp, ?_⟩
    simp only [c23, G0, Nat.reduceAdd]
    simp only [↓R0, R1, simprocAttr, -Int.reduceAbs, sab, scd, ceq8, c1, c2, sac, sbd, cLH, z1, z2, ge_iff_le, Bool.not_true, Bool.not_false, decide_true, decide_false, pZ, Fin, isEnd, resL, res1, iE, rE]
    exact ⟨_, rfl, rfl, fun k hk => by simp only [ne_nb hk, if_false]⟩
  by_cases z3 : Pt.on (⟨aa1, aa2, aa3, aa4, aa5, aa6, aa7, aa8⟩ : Pt) (⟨bb1, bb2, bb3, bb4, bb5, bb6, bb7, bb8⟩ : Pt) (⟨cc1, cc2, cc3, cc4, cc5, cc6, cc7, cc8⟩ : Pt)
  case neg =>
    simp only [z1, z2, z3, or_true, true_or, false_or, or_false, not_true_eq_false, not_false_eq_true, if_true, if_false, ovE] at hG
    cases hG
    refine ⟨rfl, by simp, ?_⟩
    simp only [c23, G0, Nat.reduceAdd]
    simp only [↓R0, R1, simprocAttr, -Int.reduceAbs, sab, scd, ceq8, c1, c2, sac, sbd, cLH, z1, z2, z3, ge_iff_le, Bool.not_true, Bool.not_false, decide_true, decide_false, pZ, Fin, isEnd, resL, res1, iE, rE]
    exact ⟨_, rfl, rfl, fun k hk => by simp only [ne_nb hk, if_false]⟩
  by_cases z4 : Pt.on (⟨aa1, aa2, aa3, aa4, aa5, aa6, aa7, aa8⟩ : Pt) (⟨bb1, bb2, bb3, bb4, bb5, bb6, bb7, bb8⟩ : Pt) (⟨dd1, dd2, dd3, dd4, dd5, dd6, dd7, dd8⟩ : Pt)
  case neg =>
    simp only [z1, z2, z3, z4, or_true, true_or, false_or, or_false, not_true_eq_false, not_false_eq_true, if_true, if_false, ovE] at hG
    cases hG
    refine ⟨rfl, by simp, ?_⟩
    simp only [c23, G0, Nat.reduceAdd]
    simp only [↓R0, R1, simprocAttr, -Int.reduceAbs, sab, scd, ceq8, c1, c2, sac, sbd, cLH, z1, z2, z3, z4, ge_iff_le, Bool.not_true, Bool.not_false, decide_true, decide_false, pZ, Fin, isEnd, resL, res1, iE, rE]
    exact ⟨_, rfl, rfl, fun k hk => by simp only [ne_nb hk, if_false]⟩
  by_cases z5 : 0 ≤ k
  case pos =>
    simp only [z1, z2, z3, z4, z5, or_true, true_or, false_or, or_false, not_true_eq_false, not_false_eq_true, if_true, if_false, ovE] at hG
    cases hG
    refine ⟨rfl, by simp, ?_⟩
    simp only [c23, G0, Nat.reduceAdd]
    simp only [↓R0, R1, simprocAttr, -Int.reduceAbs, sab, scd, ceq8, c1, c2, sac, sbd, cLH, z1, z2, z3, z4, z5, ge_iff_le, Bool.not_true, Bool.not_false, decide_true, decide_false, pZ, Fin, isEnd, resL, res1, iE, rE]
    exact ⟨_, rfl, rfl, fun k hk => by simp only [ne_nb hk, if_false]⟩
  simp only [z1, z2, z3, z4, z5, or_true, true_or, false_or, or_false, not_true_eq_false, not_false_eq_true, if_true, if_false, ovE] at hG
  cases hG
  refine ⟨rfl, by simp, ?_⟩
  simp only [c23, G0, Nat.reduceAdd]
  simp only [↓R0, R1, simprocAttr, -Int.reduceAbs, sab, scd, ceq8, c1, c2, sac, sbd, cLH, z1, z2, z3, z4, z5, ge_iff_le, Bool.not_true, Bool.not_false, decide_true, decide_false, Fin, isEnd, resL, res1, iE, rE]
  exact ⟨_, rfl, rfl, fun k hk => by simp only [ne_nb hk, if_false]⟩
end Go.Eng
end
section
set_option linter.unusedVariables false
set_option linter.unusedSimpArgs false
set_option linter.unusedSectionVars false
set_option maxRecDepth 20000
namespace Go.Eng
open Go Go.Proofs Go.IntWalk
def spXThree : List Value → Option Value
  | [.agg ⟨[.bool sa1, .string ⟨⟨la1⟩⟩, .bool sa2, .string ⟨⟨la2⟩⟩, .bool sa3, .string ⟨⟨la3⟩⟩, .bool sa4, .string ⟨⟨la4⟩⟩]⟩, .agg ⟨[.bool sb1, .string ⟨⟨lb1⟩⟩, .bool sb2, .string ⟨⟨lb2⟩⟩, .bool sb3, .string ⟨⟨lb3⟩⟩, .bool sb4, .string ⟨⟨lb4⟩⟩]⟩, .agg ⟨[.bool sc1, .string ⟨⟨lc1⟩⟩, .bool sc2, .string ⟨⟨lc2⟩⟩, .bool sc3, .string ⟨⟨lc3⟩⟩, .bool sc4, .string ⟨⟨lc4⟩⟩]⟩] =>
    if la1.length ≤ 2147483648 ∧ la2.length ≤ 2147483648 ∧ la3.length ≤ 2147483648 ∧ la4.length ≤ 2147483648 ∧ lb1.length ≤ 2147483648 ∧ lb2.length ≤ 2147483648 ∧ lb3.length ≤ 2147483648 ∧ lb4.length ≤ 2147483648 ∧ lc1.length ≤ 2147483648 ∧ lc2.length ≤ 2147483648 ∧ lc3.length ≤ 2147483648 ∧ lc4.length ≤ 2147483648 then
      (if sv sa1 la1 * (sv sb2 lb2 * sv sc3 lc3 - sv sb3 lb3 * sv sc2 lc2) + sv sa2 la2 * (sv sb3 lb3 * sv sc1 lc1 - sv sb1 lb1 * sv sc3 lc3) + sv sa3 la3 * (sv sb1 lb1 * sv sc2 lc2 - sv sb2 lb2 * sv sc1 lc1) = 0 then some (.tuple ⟨[.agg ⟨pZ⟩, .bool false]⟩) else some (.tuple ⟨[.agg ⟨pE (sv sa4 la4 * (sv sb2 lb2 * sv sc3 lc3 - sv sb3 lb3 * sv sc2 lc2) + sv sb4 lb4 * (sv sc2 lc2 * sv sa3 la3 - sv sc3 lc3 * sv sa2 la2) + sv sc4 lc4 * (sv sa2 la2 * sv sb3 lb3 - sv sa3 la3 * sv sb2 lb2)) (sv sa4 la4 * (sv sb3 lb3 * sv sc1 lc1 - sv sb1 lb1 * sv sc3 lc3) + sv sb4 lb4 * (sv sc3 lc3 * sv sa1 la1 - sv sc1 lc1 * sv sa3 la3) + sv sc4 lc4 * (sv sa3 la3 * sv sb1 lb1 - sv sa1 la1 * sv sb3 lb3)) (sv sa4 la4 * (sv sb1 lb1 * sv sc2 lc2 - sv sb2 lb2 * sv sc1 lc1) + sv sb4 lb4 * (sv sc1 lc1 * sv sa2 la2 - sv sc2 lc2 * sv sa1 la1) + sv sc4 lc4 * (sv sa1 la1 * sv sb2 lb2 - sv sa2 la2 * sv sb1 lb1)) (sv sa1 la1 * (sv sb2 lb2 * sv sc3 lc3 - sv sb3 lb3 * sv sc2 lc2) + sv sa2 la2 * (sv sb3 lb3 * sv sc1 lc1 - sv sb1 lb1 * sv sc3 lc3) + sv sa3 la3 * (sv sb1 lb1 * sv sc2 lc2 - sv sb2 lb2 * sv sc1 lc1))⟩, .bool true]⟩)) else none
  | _ => none
def c11 : ICode :=
  (.seq (.reg [qq 3 (.box 25 8 (.t 0)), qq 4 (.box 25 8 (.t 1)), qq 5 (.box 25 8 (.t 2)), qq 6 (.alloc 30 8 [(.bool false), e0, (.bool false), e0, (.bool false), e0, (.bool false), e0]), qq 7 (.mv (.c (.bool false)))]) (.seq (.reg [qq 14 (.load true 8 (.t 3)), qq 15 (.load true 8 (.t 4)), qq 16 (.load true 8 (.t 5)), qq 17 (.build [(.bool false), e0, (.bool false), e0, (.bool false), e0, (.bool false), e0, (.bool false), e0, (.bool false), e0, (.bool false), e0, (.bool false), e0, (.bool false), e0, (.bool false), e0, (.bool false), e0, (.bool false), e0] [(0, 8, (.t 14)), (8, 8, (.t 15)), (16, 8, (.t 16))]), qq 8 (.alloc 58 24 [(.bool false), e0, (.bool false), e0, (.bool false), e0, (.bool false), e0, (.bool false), e0, (.bool false), e0, (.bool false), e0, (.bool false), e0, (.bool false), e0, (.bool false), e0, (.bool false), e0, (.bool false), e0]), qn (.store 24 (.t 8) (.t 17))]) (.seq (.reg [qq 9 (.alloc 60 6 [(.bool false), e0, (.bool false), e0, (.bool false), e0])]) (.seq (.seq (.reg [qq 18 (.load true 24 (.t 8)), qq 19 (.mv (ci 0))]) (.block 0 (.loop (.seq (.reg [qq 20 (.bin .lss (.t 19) (ci 3))]) (.seq (.cond (.t 20) .skip (.exit 0)) (.seq (.block 1 (.seq (.reg [qq 21 (.mv (.t 19)), qq 22 (.idarr 3 true 8 (.t 18) (.t 19)), qq 11 (.alloc 25 8 [(.bool false), e0, (.bool false), e0, (.bool false), e0, (.bool false), e0]), qq 10 (.mv (.t 21)), qn (.store 8 (.t 11) (.t 22))]) (.seq (.dreg [qu 23 (.mv (.t 10)), qu 24 (.bin .add (.t 23) (ci 1)), qu 25 (.bin .rem (.t 24) (ci 3)), qu 26 (.ixarr 3 8 (.t 8) (.t 25)), qu 27 (.load true 8 (.t 26)), qu 28 (.call 33 [(.t 27)]), qu 29 (.mv (.t 10)), qu 30 (.bin .add (.t 29) (ci 2)), qu 31 (.bin .rem (.t 30) (ci 3)), qu 32 (.ixarr 3 8 (.t 8) (.t 31)), qv 33 [5] (.load true 8 (.t 32)), qu 34 (.call 33 [(.t 33)]), qu 35 (.call 32 [(.t 28), (.t 34)]), qu 12 (.alloc 60 6 [(.bool false), e0, (.bool false), e0, (.bool false), e0]), qm (.store 6 (.t 12) (.t 35))]) (.seq (.reg [qq 36 (.mv (ci 0))]) (.block 2 (.loop (.seq (.reg [qq 37 (.bin .lss (.t 36) (ci 3))]) (.seq (.cond (.t 37) .skip (.exit 2)) (.seq (.block 3 (.seq (.reg [qq 38 (.mv (.t 36)), qq 13 (.mv (.t 38))]) (.dreg [qu 39 (.mv (.t 13)), qu 40 (.mv (.t 13)), qu 41 (.ixarr 3 2 (.t 9) (.t 40)), qu 42 (.load true 2 (.t 41)), qu 43 (.faddr 6 (.t 11)), qu 44 (.load true 2 (.t 43)), qu 45 (.mv (.t 13)), qu 46 (.ixarr 3 2 (.t 12) (.t 45)), qu 47 (.load true 2 (.t 46)), qu 48 (.call 35 [(.t 44), (.t 47)]), qu 49 (.call 34 [(.t 42), (.t 48)]), qu 50 (.ixarr 3 2 (.t 9) (.t 39)), qm (.store 2 (.t 50) (.t 49))]))) (.reg [qq 51 (.bin .add (.t 36) (ci 1)), qq 36 (.mv (.t 51))])))))))))) (.reg [qq 52 (.bin .add (.t 19) (ci 1)), qq 19 (.mv (.t 52))]))))))) (.seq (.dreg [qu 53 (.load true 6 (.t 9)), qu 54 (.load true 8 (.t 3)), qu 55 (.call 33 [(.t 54)]), qv 56 [2] (.load true 8 (.t 4)), qu 57 (.call 33 [(.t 56)]), qv 58 [2, 4] (.load true 8 (.t 5)), qu 59 (.call 33 [(.t 58)]), qu 60 (.call 32 [(.t 57), (.t 59)]), qu 61 (.call 37 [(.t 55), (.t 60)]), qu 62 (.call 36 [(.t 53), (.t 61)]), qu 63 (.ext (.t 62) 0), qu 64 (.ext (.t 62) 1), qm (.store 8 (.t 6) (.t 63)), qu 7 (.mv (.t 64))]) .ret)))))
theorem tr11 : trFun Tryz.prog 11 = some ⟨65, [.cell 6 true 8, .t 7], c11⟩ := by kernel_rfl
set_option maxHeartbeats 8000000 in
theorem ok_xThree : SpecOK Tryz.prog 11 (flat spXThree) := by
  refine flat_run (env_cons ok_xNormal (env_cons ok_xCross (env_cons ok_xDot (env_cons ok_xMade (env_cons ok_iMul (env_cons ok_iAdd (env_nil _))))))) mixed tr11 ?_
  intro args v h N hG
  unfold spXThree at hG
  split at hG
  case h_2 => cases hG
  rename_i sa1 la1 sa2 la2 sa3 la3 sa4 la4 sb1 lb1 sb2 lb2 sb3 lb3 sb4 lb4 sc1 lc1 sc2 lc2 sc3 lc3 sc4 lc4
  split at hG
  case isFalse => cases hG
  rename_i hl
  obtain ⟨ha1, ha2, ha3, ha4, hb1, hb2, hb3, hb4, hc1, hc2, hc3, hc4⟩ := hl
  have na1 := len_sv (s := sa1) ha1
  have ra1 : la1.length ≤ 4294967296 := by omega
  have qa1 : la1.length ≤ 17179869184 := by omega
  have na2 := len_sv (s := sa2) ha2
  have ra2 : la2.length ≤ 4294967296 := by omega
  have qa2 : la2.length ≤ 17179869184 := by omega
  have na3 := len_sv (s := sa3) ha3
  have ra3 : la3.length ≤ 4294967296 := by omega
  have qa3 : la3.length ≤ 17179869184 := by omega
  have na4 := len_sv (s := sa4) ha4
  have ra4 : la4.length ≤ 34359738368 := by omega
  have nb1 := len_sv (s := sb1) hb1
  have rb1 : lb1.length ≤ 4294967296 := by omega
  have qb1 : lb1.length ≤ 17179869184 := by omega
  have nb2 := len_sv (s := sb2) hb2
  have rb2 : lb2.length ≤ 4294967296 := by omega
  have qb2 : lb2.length ≤ 17179869184 := by omega
  have nb3 := len_sv (s := sb3) hb3
  have rb3 : lb3.length ≤ 4294967296 := by omega
  have qb3 : lb3.length ≤ 17179869184 := by omega
  have nb4 := len_sv (s := sb4) hb4
  have rb4 : lb4.length ≤ 34359738368 := by omega
  have nc1 := len_sv (s := sc1) hc1
  have rc1 : lc1.length ≤ 4294967296 := by omega
  have qc1 : lc1.length ≤ 17179869184 := by omega
  have nc2 := len_sv (s := sc2) hc2
  have rc2 : lc2.length ≤ 4294967296 := by omega
  have qc2 : lc2.length ≤ 17179869184 := by omega
  have nc3 := len_sv (s := sc3) hc3
  have rc3 : lc3.length ≤ 4294967296 := by omega
  have qc3 : lc3.length ≤ 17179869184 := by omega
  have nc4 := len_sv (s := sc4) hc4
  have rc4 : lc4.length ≤ 34359738368 := by omega
  have zbc0 := lsub (k := 8589934592) (lmul (k := 4294967296) nb2 nc3 (by omega)) (lmul (k := 4294967296) nb3 nc2 (by omega)) (by omega)
  obtain ⟨Zbc0, ebc0⟩ : ∃ z, sv sb2 lb2 * sv sc3 lc3 - sv sb3 lb3 * sv sc2 lc2 = z := ⟨_, rfl⟩
  rw [ebc0] at hG zbc0
  have ybc0 := lle (k := 34359738368) zbc0 (by omega)
  have xbc0 := lmul (k := 12884901888) na4 zbc0 (by omega)
  have wbc0 := lle (k := 68719476736) xbc0 (by omega)
  have zbc1 := lsub (k := 8589934592) (lmul (k := 4294967296) nb3 nc1 (by omega)) (lmul (k := 4294967296) nb1 nc3 (by omega)) (by omega)
  obtain ⟨Zbc1, ebc1⟩ : ∃ z, sv sb3 lb3 * sv sc1 lc1 - sv sb1 lb1 * sv sc3 lc3 = z := ⟨_, rfl⟩
  rw [ebc1] at hG zbc1
  have ybc1 := lle (k := 34359738368) zbc1 (by omega)
  have xbc1 := lmul (k := 12884901888) na4 zbc1 (by omega)
  have wbc1 := lle (k := 68719476736) xbc1 (by omega)
  have zbc2 := lsub (k := 8589934592) (lmul (k := 4294967296) nb1 nc2 (by omega)) (lmul (k := 4294967296) nb2 nc1 (by omega)) (by omega)
  obtain ⟨Zbc2, ebc2⟩ : ∃ z, sv sb1 lb1 * sv sc2 lc2 - sv sb2 lb2 * sv sc1 lc1 = z := ⟨_, rfl⟩
  rw [ebc2] at hG zbc2
  have ybc2 := lle (k := 34359738368) zbc2 (by omega)
  have xbc2 := lmul (k := 12884901888) na4 zbc2 (by omega)
  have wbc2 := lle (k := 68719476736) xbc2 (by omega)
  have zca0 := lsub (k := 8589934592) (lmul (k := 4294967296) nc2 na3 (by omega)) (lmul (k := 4294967296) nc3 na2 (by omega)) (by omega)
  obtain ⟨Zca0, eca0⟩ : ∃ z, sv sc2 lc2 * sv sa3 la3 - sv sc3 lc3 * sv sa2 la2 = z := ⟨_, rfl⟩
  rw [eca0] at hG zca0
  have yca0 := lle (k := 34359738368) zca0 (by omega)
  have xca0 := lmul (k := 12884901888) nb4 zca0 (by omega)
  have wca0 := lle (k := 68719476736) xca0 (by omega)
  have zca1 := lsub (k := 8589934592) (lmul (k := 4294967296) nc3 na1 (by omega)) (lmul (k := 4294967296) nc1 na3 (by omega)) (by omega)
  obtain ⟨Zca1, eca1⟩ : ∃ z, sv sc3 lc3 * sv sa1 la1 - sv sc1 lc1 * sv sa3 la3 = z := ⟨_, rfl⟩
  rw [eca1] at hG zca1
  have yca1 := lle (k := 34359738368) zca1 (by omega)
  have xca1 := lmul (k := 12884901888) nb4 zca1 (by omega)
  have wca1 := lle (k := 68719476736) xca1 (by omega)
  have zca2 := lsub (k := 8589934592) (lmul (k := 4294967296) nc1 na2 (by omega)) (lmul (k := 4294967296) nc2 na1 (by omega)) (by omega)
  obtain ⟨Zca2, eca2⟩ : ∃ z, sv sc1 lc1 * sv sa2 la2 - sv sc2 lc2 * sv sa1 la1 = z := ⟨_, rfl⟩
  rw [eca2] at hG zca2
  have yca2 := lle (k := 34359738368) zca2 (by omega)
  have xca2 := lmul (k := 12884901888) nb4 zca2 (by omega)
  have wca2 := lle (k := 68719476736) xca2 (by omega)
  have zab0 := lsub (k := 8589934592) (lmul (k := 4294967296) na2 nb3 (by omega)) (lmul (k := 4294967296) na3 nb2 (by omega)) (by omega)
  obtain ⟨Zab0, eab0⟩ : ∃ z, sv sa2 la2 * sv sb3 lb3 - sv sa3 la3 * sv sb2 lb2 = z := ⟨_, rfl⟩
  rw [eab0] at hG zab0
  have yab0 := lle (k := 34359738368) zab0 (by omega)
  have xab0 := lmul (k := 12884901888) nc4 zab0 (by omega)
  have wab0 := lle (k := 68719476736) xab0 (by omega)
  have zab1 := lsub (k := 8589934592) (lmul (k := 4294967296) na3 nb1 (by omega)) (lmul (k := 4294967296) na1 nb3 (by omega)) (by omega)
  obtain ⟨Zab1, eab1⟩ : ∃ z, sv sa3 la3 * sv sb1 lb1 - sv sa1 la1 * sv sb3 lb3 = z := ⟨_, rfl⟩
  rw [eab1] at hG zab1
  have yab1 := lle (k := 34359738368) zab1 (by omega)
  have xab1 := lmul (k := 12884901888) nc4 zab1 (by omega)
  have wab1 := lle (k := 68719476736) xab1 (by omega)
  have zab2 := lsub (k := 8589934592) (lmul (k := 4294967296) na1 nb2 (by omega)) (lmul (k := 4294967296) na2 nb1 (by omega)) (by omega)
  obtain ⟨Zab2, eab2⟩ : ∃ z, sv sa1 la1 * sv sb2 lb2 - sv sa2 la2 * sv sb1 lb1 = z := ⟨_, rfl⟩
  rw [eab2] at hG zab2
  have yab2 := lle (k := 34359738368) zab2 (by omega)
  have xab2 := lmul (k := 12884901888) nc4 zab2 (by omega)
  have wab2 := lle (k := 68719476736) xab2 (by omega)
  have t0 := lle (k := 17179869184) zbc0 (by omega)
  have u0 := ladd (k := 12884901889) xbc0 xca0 (by omega)
  have ul0 := lle (k := 68719476736) u0 (by omega)
  have S0 := ladd (k := 34359738368) u0 xab0 (by omega)
  have t1 := lle (k := 17179869184) zbc1 (by omega)
  have u1 := ladd (k := 12884901889) xbc1 xca1 (by omega)
  have ul1 := lle (k := 68719476736) u1 (by omega)
  have S1 := ladd (k := 34359738368) u1 xab1 (by omega)
  have t2 := lle (k := 17179869184) zbc2 (by omega)
  have u2 := ladd (k := 12884901889) xbc2 xca2 (by omega)
  have ul2 := lle (k := 68719476736) u2 (by omega)
  have S2 := ladd (k := 34359738368) u2 xab2 (by omega)
  have W0 := ladd (k := 34359738368) (ladd (k := 17179869184) (lmul (k := 12884901888) na1 zbc0 (by omega)) (lmul (k := 12884901888) na2 zbc1 (by omega)) (by omega)) (lmul (k := 12884901888) na3 zbc2 (by omega)) (by omega)
  have z0 : sv false [] = 0 := rfl
  have zl0 : (bl (Int.natAbs 0)).length ≤ 34359738368 := by rw [show Int.natAbs 0 = 0 from rfl, bl_zero]; exact Nat.zero_le _
  have zs0 : sv false (bl (Int.natAbs 0)) = 0 := by rw [sv_bl]; rfl
  have i1 : IntKind.i64.wrap 1 = 1 := i64_in _ (by omega)
  have i2 : IntKind.i64.wrap 2 = 2 := i64_in _ (by omega)
  have i3 : IntKind.i64.wrap 3 = 3 := i64_in _ (by omega)
  have i4 : IntKind.i64.wrap 4 = 4 := i64_in _ (by omega)
  have m1 : Int.tmod 1 3 = 1 := rfl
  have m2 : Int.tmod 2 3 = 2 := rfl
  have m3 : Int.tmod 3 3 = 0 := rfl
  have m4 : Int.tmod 4 3 = 1 := rfl
  split at hG
  · rename_i hw
    cases hG
    refine ⟨rfl, by simp, ?_⟩
    simp only [c11, G0, Nat.reduceAdd]
    simp only [↓R0, R1, simprocAttr, -Int.reduceAbs]
    refine lp_step ?_
    simp only [↓R0, R1, simprocAttr, -Int.reduceAbs, ra1, qa1, ra2, qa2, ra3, qa3, ra4, rb1, qb1, rb2, qb2, rb3, qb3, rb4, rc1, qc1, rc2, qc2, rc3, qc3, rc4, ebc0, ybc0, wbc0, ebc1, ybc1, wbc1, ebc2, ybc2, wbc2, eca0, yca0, wca0, eca1, yca1, wca1, eca2, yca2, wca2, eab0, yab0, wab0, eab1, yab1, wab1, eab2, yab2, wab2, t0, ul0, S0, t1, ul1, S1, t2, ul2, S2, W0, z0, Int.zero_add, Nat.zero_le, i1, i2, i3, i4, m1, m2, m3, m4, spXNormal, spXCross, tE, spIMul, spIAdd, iE]
    refine lp_step ?_
    simp only [↓R0, R1, simprocAttr, -Int.reduceAbs, ra1, qa1, ra2, qa2, ra3, qa3, ra4, rb1, qb1, rb2, qb2, rb3, qb3, rb4, rc1, qc1, rc2, qc2, rc3, qc3, rc4, ebc0, ybc0, wbc0, ebc1, ybc1, wbc1, ebc2, ybc2, wbc2, eca0, yca0, wca0, eca1, yca1, wca1, eca2, yca2, wca2, eab0, yab0, wab0, eab1, yab1, wab1, eab2, yab2, wab2, t0, ul0, S0, t1, ul1, S1, t2, ul2, S2, W0, z0, Int.zero_add, Nat.zero_le, i1, i2, i3, i4, m1, m2, m3, m4, spXNormal, spXCross, tE, spIMul, spIAdd, iE]
    refine lp_step ?_
    simp only [↓R0, R1, simprocAttr, -Int.reduceAbs, ra1, qa1, ra2, qa2, ra3, qa3, ra4, rb1, qb1, rb2, qb2, rb3, qb3, rb4, rc1, qc1, rc2, qc2, rc3, qc3, rc4, ebc0, ybc0, wbc0, ebc1, ybc1, wbc1, ebc2, ybc2, wbc2, eca0, yca0, wca0, eca1, yca1, wca1, eca2, yca2, wca2, eab0, yab0, wab0, eab1, yab1, wab1, eab2, yab2, wab2, t0, ul0, S0, t1, ul1, S1, t2, ul2, S2, W0, z0, Int.zero_add, Nat.zero_le, i1, i2, i3, i4, m1, m2, m3, m4, spXNormal, spXCross, tE, spIMul, spIAdd, iE]
    refine lp_step ?_
    simp only [↓R0, R1, simprocAttr, -Int.reduceAbs, ra1, qa1, ra2, qa2, ra3, qa3, ra4, rb1, qb1, rb2, qb2, rb3, qb3, rb4, rc1, qc1, rc2, qc2, rc3, qc3, rc4, ebc0, ybc0, wbc0, ebc1, ybc1, wbc1, ebc2, ybc2, wbc2, eca0, yca0, wca0, eca1, yca1, wca1, eca2, yca2, wca2, eab0, yab0, wab0, eab1, yab1, wab1, eab2, yab2, wab2, t0, ul0, S0, t1, ul1, S1, t2, ul2, S2, W0, z0, Int.zero_add, Nat.zero_le, i1, i2, i3, i4, m1, m2, m3, m4, spXNormal, spXCross, tE, spIMul, spIAdd, iE]
    refine lp_step ?_
    simp only [↓R0, R1, simprocAttr, -Int.reduceAbs, ra1, qa1, ra2, qa2, ra3, qa3, ra4, rb1, qb1, rb2, qb2, rb3, qb3, rb4, rc1, qc1, rc2, qc2, rc3, qc3, rc4, ebc0, ybc0, wbc0, ebc1, ybc1, wbc1, ebc2, ybc2, wbc2, eca0, yca0, wca0, eca1, yca1, wca1, eca2, yca2, wca2, eab0, yab0, wab0, eab1, yab1, wab1, eab2, yab2, wab2, t0, ul0, S0, t1, ul1, S1, t2, ul2, S2, W0, z0, Int.zero_add, Nat.zero_le, i1, i2, i3, i4, m1, m2, m3, m4, spXNormal, spXCross, tE, spIMul, spIAdd, iE]
    refine lp_step ?_
    simp only [↓R0, R1, simprocAttr, -Int.reduceAbs, ra1, qa1, ra2, qa2, ra3, qa3, ra4, rb1, qb1, rb2, qb2, rb3, qb3, rb4, rc1, qc1, rc2, qc2, rc3, qc3, rc4, ebc0, ybc0, wbc0, ebc1, ybc1, wbc1, ebc2, ybc2, wbc2, eca0, yca0, wca0, eca1, yca1, wca1, eca2, yca2, wca2, eab0, yab0, wab0, eab1, yab1, wab1, eab2, yab2, wab2, t0, ul0, S0, t1, ul1, S1, t2, ul2, S2, W0, z0, Int.zero_add, Nat.zero_le, i1, i2, i3, i4, m1, m2, m3, m4, spXNormal, spXCross, tE, spIMul, spIAdd, iE]
    refine lp_step ?_
    simp only [↓R0, R1, simprocAttr, -Int.reduceAbs, ra1, qa1, ra2, qa2, ra3, qa3, ra4, rb1, qb1, rb2, qb2, rb3, qb3, rb4, rc1, qc1, rc2, qc2, rc3, qc3, rc4, ebc0, ybc0, wbc0, ebc1, ybc1, wbc1, ebc2, ybc2, wbc2, eca0, yca0, wca0, eca1, yca1, wca1, eca2, yca2, wca2, eab0, yab0, wab0, eab1, yab1, wab1, eab2, yab2, wab2, t0, ul0, S0, t1, ul1, S1, t2, ul2, S2, W0, z0, Int.zero_add, Nat.zero_le, i1, i2, i3, i4, m1, m2, m3, m4, spXNormal, spXCross, tE, spIMul, spIAdd, iE]
    refine lp_step ?_
    simp only [↓R0, R1, simprocAttr, -Int.reduceAbs, ra1, qa1, ra2, qa2, ra3, qa3, ra4, rb1, qb1, rb2, qb2, rb3, qb3, rb4, rc1, qc1, rc2, qc2, rc3, qc3, rc4, ebc0, ybc0, wbc0, ebc1, ybc1, wbc1, ebc2, ybc2, wbc2, eca0, yca0, wca0, eca1, yca1, wca1, eca2, yca2, wca2, eab0, yab0, wab0, eab1, yab1, wab1, eab2, yab2, wab2, t0, ul0, S0, t1, ul1, S1, t2, ul2, S2, W0, z0, Int.zero_add, Nat.zero_le, i1, i2, i3, i4, m1, m2, m3, m4, spXNormal, spXCross, tE, spIMul, spIAdd, iE]
    refine lp_step ?_
    simp only [↓R0, R1, simprocAttr, -Int.reduceAbs, ra1, qa1, ra2, qa2, ra3, qa3, ra4, rb1, qb1, rb2, qb2, rb3, qb3, rb4, rc1, qc1, rc2, qc2, rc3, qc3, rc4, ebc0, ybc0, wbc0, ebc1, ybc1, wbc1, ebc2, ybc2, wbc2, eca0, yca0, wca0, eca1, yca1, wca1, eca2, yca2, wca2, eab0, yab0, wab0, eab1, yab1, wab1, eab2, yab2, wab2, t0, ul0, S0, t1, ul1, S1, t2, ul2, S2, W0, z0, Int.zero_add, Nat.zero_le, i1, i2, i3, i4, m1, m2, m3, m4, spXNormal, spXCross, tE, spIMul, spIAdd, iE]
    refine lp_step ?_
    simp only [↓R0, R1, simprocAttr, -Int.reduceAbs, ra1, qa1, ra2, qa2, ra3, qa3, ra4, rb1, qb1, rb2, qb2, rb3, qb3, rb4, rc1, qc1, rc2, qc2, rc3, qc3, rc4, ebc0, ybc0, wbc0, ebc1, ybc1, wbc1, ebc2, ybc2, wbc2, eca0, yca0, wca0, eca1, yca1, wca1, eca2, yca2, wca2, eab0, yab0, wab0, eab1, yab1, wab1, eab2, yab2, wab2, t0, ul0, S0, t1, ul1, S1, t2, ul2, S2, W0, z0, Int.zero_add, Nat.zero_le, i1, i2, i3, i4, m1, m2, m3, m4, spXNormal, spXCross, tE, spIMul, spIAdd, iE]
    refine lp_step ?_
    simp only [↓R0, R1, simprocAttr, -Int.reduceAbs, ra1, qa1, ra2, qa2, ra3, qa3, ra4, rb1, qb1, rb2, qb2, rb3, qb3, rb4, rc1, qc1, rc2, qc2, rc3, qc3, rc4, ebc0, ybc0, wbc0, ebc1, ybc1, wbc1, ebc2, ybc2, wbc2, eca0, yca0, wca0, eca1, yca1, wca1, eca2, yca2, wca2, eab0, yab0, wab0, eab1, yab1, wab1, eab2, yab2, wab2, t0, ul0, S0, t1, ul1, S1, t2, ul2, S2, W0, z0, Int.zero_add, Nat.zero_le, i1, i2, i3, i4, m1, m2, m3, m4, spXNormal, spXCross, tE, spIMul, spIAdd, iE]
    refine lp_step ?_
    simp only [↓R0, R1, simprocAttr, -Int.reduceAbs, ra1, qa1, ra2, qa2, ra3, qa3, ra4, rb1, qb1, rb2, qb2, rb3, qb3, rb4, rc1, qc1, rc2, qc2, rc3, qc3, rc4, ebc0, ybc0, wbc0, ebc1, ybc1, wbc1, ebc2, ybc2, wbc2, eca0, yca0, wca0, eca1, yca1, wca1, eca2, yca2, wca2, eab0, yab0, wab0, eab1, yab1, wab1, eab2, yab2, wab2, t0, ul0, S0, t1, ul1, S1, t2, ul2, S2, W0, z0, Int.zero_add, Nat.zero_le, i1, i2, i3, i4, m1, m2, m3, m4, spXNormal, spXCross, tE, spIMul, spIAdd, iE]
    refine lp_step ?_
    simp only [↓R0, R1, simprocAttr, -Int.reduceAbs, ra1, qa1, ra2, qa2, ra3, qa3, ra4, rb1, qb1, rb2, qb2, rb3, qb3, rb4, rc1, qc1, rc2, qc2, rc3, qc3, rc4, ebc0, ybc0, wbc0, ebc1, ybc1, wbc1, ebc2, ybc2, wbc2, eca0, yca0, wca0, eca1, yca1, wca1, eca2, yca2, wca2, eab0, yab0, wab0, eab1, yab1, wab1, eab2, yab2, wab2, t0, ul0, S0, t1, ul1, S1, t2, ul2, S2, W0, z0, Int.zero_add, Nat.zero_le, i1, i2, i3, i4, m1, m2, m3, m4, spXNormal, spXCross, tE, spIMul, spIAdd, iE]
    refine lp_step ?_
    simp only [↓R0, R1, simprocAttr, -Int.reduceAbs, ra1, qa1, ra2, qa2, ra3, qa3, ra4, rb1, qb1, rb2, qb2, rb3, qb3, rb4, rc1, qc1, rc2, qc2, rc3, qc3, rc4, ebc0, ybc0, wbc0, ebc1, ybc1, wbc1, ebc2, ybc2, wbc2, eca0, yca0, wca0, eca1, yca1, wca1, eca2, yca2, wca2, eab0, yab0, wab0, eab1, yab1, wab1, eab2, yab2, wab2, t0, ul0, S0, t1, ul1, S1, t2, ul2, S2, W0, z0, Int.zero_add, Nat.zero_le, i1, i2, i3, i4, m1, m2, m3, m4, spXNormal, spXCross, tE, spIMul, spIAdd, iE]
    refine lp_step ?_
    simp only [↓R0, R1, simprocAttr, -Int.reduceAbs, ra1, qa1, ra2, qa2, ra3, qa3, ra4, rb1, qb1, rb2, qb2, rb3, qb3, rb4, rc1, qc1, rc2, qc2, rc3, qc3, rc4, ebc0, ybc0, wbc0, ebc1, ybc1, wbc1, ebc2, ybc2, wbc2, eca0, yca0, wca0, eca1, yca1, wca1, eca2, yca2, wca2, eab0, yab0, wab0, eab1, yab1, wab1, eab2, yab2, wab2, t0, ul0, S0, t1, ul1, S1, t2, ul2, S2, W0, z0, Int.zero_add, Nat.zero_le, i1, i2, i3, i4, m1, m2, m3, m4, spXNormal, spXCross, tE, spIMul, spIAdd, iE]
    refine lp_step ?_
    simp only [↓R0, R1, simprocAttr, -Int.reduceAbs, ra1, qa1, ra2, qa2, ra3, qa3, ra4, rb1, qb1, rb2, qb2, rb3, qb3, rb4, rc1, qc1, rc2, qc2, rc3, qc3, rc4, ebc0, ybc0, wbc0, ebc1, ybc1, wbc1, ebc2, ybc2, wbc2, eca0, yca0, wca0, eca1, yca1, wca1, eca2, yca2, wca2, eab0, yab0, wab0, eab1, yab1, wab1, eab2, yab2, wab2, t0, ul0, S0, t1, ul1, S1, t2, ul2, S2, W0, z0, Int.zero_add, Nat.zero_le, spXNormal, spXCross, tE, spXDot, spXMade, hw, zl0, zs0, Int.lt_irrefl, pZ, pE, Fin, isEnd, resL, res1, iE, rE]
    exact ⟨_, rfl, rfl, fun k hk => by simp only [ne_nb hk, if_false]⟩
  · rename_i hw
    cases hG
    refine ⟨rfl, by simp, ?_⟩
    simp only [c11, G0, Nat.reduceAdd]
    simp only [↓R0, R1, simprocAttr, -Int.reduceAbs]
    refine lp_step ?_
    simp only [↓R0, R1, simprocAttr, -Int.reduceAbs, ra1, qa1, ra2, qa2, ra3, qa3, ra4, rb1, qb1, rb2, qb2, rb3, qb3, rb4, rc1, qc1, rc2, qc2, rc3, qc3, rc4, ebc0, ybc0, wbc0, ebc1, ybc1, wbc1, ebc2, ybc2, wbc2, eca0, yca0, wca0, eca1, yca1, wca1, eca2, yca2, wca2, eab0, yab0, wab0, eab1, yab1, wab1, eab2, yab2, wab2, t0, ul0, S0, t1, ul1, S1, t2, ul2, S2, W0, z0, Int.zero_add, Nat.zero_le, i1, i2, i3, i4, m1, m2, m3, m4, spXNormal, spXCross, tE, spIMul, spIAdd, iE]
    refine lp_step ?_
    simp only [↓R0, R1, simprocAttr, -Int.reduceAbs, ra1, qa1, ra2, qa2, ra3, qa3, ra4, rb1, qb1, rb2, qb2, rb3, qb3, rb4, rc1, qc1, rc2, qc2, rc3, qc3, rc4, ebc0, ybc0, wbc0, ebc1, ybc1, wbc1, ebc2, ybc2, wbc2, eca0, yca0, wca0, eca1, yca1, wca1, eca2, yca2, wca2, eab0, yab0, wab0, eab1, yab1, wab1, eab2, yab2, wab2, t0, ul0, S0, t1, ul1, S1, t2, ul2, S2, W0, z0, Int.zero_add, Nat.zero_le, i1, i2, i3, i4, m1, m2, m3, m4, spXNormal, spXCross, tE, spIMul, spIAdd, iE]
    refine lp_step ?_
    simp only [↓R0, R1, simprocAttr, -Int.reduceAbs, ra1, qa1, ra2, qa2, ra3, qa3, ra4, rb1, qb1, rb2, qb2, rb3, qb3, rb4, rc1, qc1, rc2, qc2, rc3, qc3, rc4, ebc0, ybc0, wbc0, ebc1, ybc1, wbc1, ebc2, ybc2, wbc2, eca0, yca0, wca0, eca1, yca1, wca1, eca2, yca2, wca2, eab0, yab0, wab0, eab1, yab1, wab1, eab2, yab2, wab2, t0, ul0, S0, t1, ul1, S1, t2, ul2, S2, W0, z0, Int.zero_add, Nat.zero_le, i1, i2, i3, i4, m1, m2, m3, m4, spXNormal, spXCross, tE, spIMul, spIAdd, iE]
    refine lp_step ?_
    simp only [↓R0, R1, simprocAttr, -Int.reduceAbs, ra1, qa1, ra2, qa2, ra3, qa3, ra4, rb1, qb1, rb2, qb2, rb3, qb3, rb4, rc1, qc1, rc2, qc2, rc3, qc3, rc4, ebc0, ybc0, wbc0, ebc1, ybc1, wbc1, ebc2, ybc2, wbc2, eca0, yca0, wca0, eca1, yca1, wca1, eca2, yca2, wca2, eab0, yab0, wab0, eab1, yab1, wab1, eab2, yab2, wab2, t0, ul0, S0, t1, ul1, S1, t2, ul2, S2, W0, z0, Int.zero_add, Nat.zero_le, i1, i2, i3, i4, m1, m2, m3, m4, spXNormal, spXCross, tE, spIMul, spIAdd, iE]
    refine lp_step ?_
    simp only [↓R0, R1, simprocAttr, -Int.reduceAbs, ra1, qa1, ra2, qa2, ra3, qa3, ra4, rb1, qb1, rb2, qb2, rb3, qb3, rb4, rc1, qc1, rc2, qc2, rc3, qc3, rc4, ebc0, ybc0, wbc0, ebc1, ybc1, wbc1, ebc2, ybc2, wbc2, eca0, yca0, wca0, eca1, yca1, wca1, eca2, yca2, wca2, eab0, yab0, wab0, eab1, yab1, wab1, eab2, yab2, wab2, t0, ul0, S0, t1, ul1, S1, t2, ul2, S2, W0, z0, Int.zero_add, Nat.zero_le, i1, i2, i3, i4, m1, m2, m3, m4, spXNormal, spXCross, tE, spIMul, spIAdd, iE]
    refine lp_step ?_
    simp only [↓R0, R1, simprocAttr, -Int.reduceAbs, ra1, qa1, ra2, qa2, ra3, qa3, ra4, rb1, qb1, rb2, qb2, rb3, qb3, rb4, rc1, qc1, rc2, qc2, rc3, qc3, rc4, ebc0, ybc0, wbc0, ebc1, ybc1, wbc1, ebc2, ybc2, wbc2, eca0, yca0, wca0, eca1, yca1, wca1, eca2, yca2, wca2, eab0, yab0, wab0, eab1, yab1, wab1, eab2, yab2, wab2, t0, ul0, S0, t1, ul1, S1, t2, ul2, S2, W0, z0, Int.zero_add, Nat.zero_le, i1, i2, i3, i4, m1, m2, m3, m4, spXNormal, spXCross, tE, spIMul, spIAdd, iE]
    refine lp_step ?_
    simp only [↓R0, R1, simprocAttr, -Int.reduceAbs, ra1, qa1, ra2, qa2, ra3, qa3, ra4, rb1, qb1, rb2, qb2, rb3, qb3, rb4, rc1, qc1, rc2, qc2, rc3, qc3, rc4, ebc0, ybc0, wbc0, ebc1, ybc1, wbc1, ebc2, ybc2, wbc2, eca0, yca0, wca0, eca1, yca1, wca1, eca2, yca2, wca2, eab0, yab0, wab0, eab1, yab1, wab1, eab2, yab2, wab2, t0, ul0, S0, t1, ul1, S1, t2, ul2, S2, W0, z0, Int.zero_add, Nat.zero_le, i1, i2, i3, i4, m1, m2, m3, m4, spXNormal, spXCross, tE, spIMul, spIAdd, iE]
    refine lp_step ?_
    simp only [↓R0, R1, simprocAttr, -Int.reduceAbs, ra1, qa1, ra2, qa2, ra3, qa3, ra4, rb1, qb1, rb2, qb2, rb3, qb3, rb4, rc1, qc1, rc2, qc2, rc3, qc3, rc4, ebc0, ybc0, wbc0, ebc1, ybc1, wbc1, ebc2, ybc2, wbc2, eca0, yca0, wca0, eca1, yca1, wca1, eca2, yca2, wca2, eab0, yab0, wab0, eab1, yab1, wab1, eab2, yab2, wab2, t0, ul0, S0, t1, ul1, S1, t2, ul2, S2, W0, z0, Int.zero_add, Nat.zero_le, i1, i2, i3, i4, m1, m2, m3, m4, spXNormal, spXCross, tE, spIMul, spIAdd, iE]
    refine lp_step ?_
    simp only [↓R0, R1, simprocAttr, -Int.reduceAbs, ra1, qa1, ra2, qa2, ra3, qa3, ra4, rb1, qb1, rb2, qb2, rb3, qb3, rb4, rc1, qc1, rc2, qc2, rc3, qc3, rc4, ebc0, ybc0, wbc0, ebc1, ybc1, wbc1, ebc2, ybc2, wbc2, eca0, yca0, wca0, eca1, yca1, wca1, eca2, yca2, wca2, eab0, yab0, wab0, eab1, yab1, wab1, eab2, yab2, wab2, t0, ul0, S0, t1, ul1, S1, t2, ul2, S2, W0, z0, Int.zero_add, Nat.zero_le, i1, i2, i3, i4, m1, m2, m3, m4, spXNormal, spXCross, tE, spIMul, spIAdd, iE]
    refine lp_step ?_
    simp only [↓R0, R1, simprocAttr, -Int.reduceAbs, ra1, qa1, ra2, qa2, ra3, qa3, ra4, rb1, qb1, rb2, qb2, rb3, qb3, rb4, rc1, qc1, rc2, qc2, rc3, qc3, rc4, ebc0, ybc0, wbc0, ebc1, ybc1, wbc1, ebc2, ybc2, wbc2, eca0, yca0, wca0, eca1, yca1, wca1, eca2, yca2, wca2, eab0, yab0, wab0, eab1, yab1, wab1, eab2, yab2, wab2, t0, ul0, S0, t1, ul1, S1, t2, ul2, S2, W0, z0, Int.zero_add, Nat.zero_le, i1, i2, i3, i4, m1, m2, m3, m4, spXNormal, spXCross, tE, spIMul, spIAdd, iE]
    refine lp_step ?_
    simp only [↓R0, R1, simprocAttr, -Int.reduceAbs, ra1, qa1, ra2, qa2, ra3, qa3, ra4, rb1, qb1, rb2, qb2, rb3, qb3, rb4, rc1, qc1, rc2, qc2, rc3, qc3, rc4, ebc0, ybc0, wbc0, ebc1, ybc1, wbc1, ebc2, ybc2, wbc2, eca0, yca0, wca0, eca1, yca1, wca1, eca2, yca2, wca2, eab0, yab0, wab0, eab1, yab1, wab1, eab2, yab2, wab2, t0, ul0, S0, t1, ul1, S1, t2, ul2, S2, W0, z0, Int.zero_add, Nat.zero_le, i1, i2, i3, i4, m1, m2, m3, m4, spXNormal, spXCross, tE, spIMul, spIAdd, iE]
    refine lp_step ?_
    simp only [↓R0, R1, simprocAttr, -Int.reduceAbs, ra1, qa1, ra2, qa2, ra3, qa3, ra4, rb1, qb1, rb2, qb2, rb3, qb3, rb4, rc1, qc1, rc2, qc2, rc3, qc3, rc4, ebc0, ybc0, wbc0, ebc1, ybc1, wbc1, ebc2, ybc2, wbc2, eca0, yca0, wca0, eca1, yca1, wca1, eca2, yca2, wca2, eab0, yab0, wab0, eab1, yab1, wab1, eab2, yab2, wab2, t0, ul0, S0, t1, ul1, S1, t2, ul2, S2, W0, z0, Int.zero_add, Nat.zero_le, i1, i2, i3, i4, m1, m2, m3, m4, spXNormal, spXCross, tE, spIMul, spIAdd, iE]
    refine lp_step ?_
    simp only [↓R0, R1, simprocAttr, -Int.reduceAbs, ra1, qa1, ra2, qa2, ra3, qa3, ra4, rb1, qb1, rb2, qb2, rb3, qb3, rb4, rc1, qc1, rc2, qc2, rc3, qc3, rc4, ebc0, ybc0, wbc0, ebc1, ybc1, wbc1, ebc2, ybc2, wbc2, eca0, yca0, wca0, eca1, yca1, wca1, eca2, yca2, wca2, eab0, yab0, wab0, eab1, yab1, wab1, eab2, yab2, wab2, t0, ul0, S0, t1, ul1, S1, t2, ul2, S2, W0, z0, Int.zero_add, Nat.zero_le, i1, i2, i3, i4, m1, m2, m3, m4, spXNormal, spXCross, tE, spIMul, spIAdd, iE]
    refine lp_step ?_
    simp only [↓R0, R1, simprocAttr, -Int.reduceAbs, ra1, qa1, ra2, qa2, ra3, qa3, ra4, rb1, qb1, rb2, qb2, rb3, qb3, rb4, rc1, qc1, rc2, qc2, rc3, qc3, rc4, ebc0, ybc0, wbc0, ebc1, ybc1, wbc1, ebc2, ybc2, wbc2, eca0, yca0, wca0, eca1, yca1, wca1, eca2, yca2, wca2, eab0, yab0, wab0, eab1, yab1, wab1, eab2, yab2, wab2, t0, ul0, S0, t1, ul1, S1, t2, ul2, S2, W0, z0, Int.zero_add, Nat.zero_le, i1, i2, i3, i4, m1, m2, m3, m4, spXNormal, spXCross, tE, spIMul, spIAdd, iE]
    refine lp_step ?_
    simp only [↓R0, R1, simprocAttr, -Int.reduceAbs, ra1, qa1, ra2, qa2, ra3, qa3, ra4, rb1, qb1, rb2, qb2, rb3, qb3, rb4, rc1, qc1, rc2, qc2, rc3, qc3, rc4, ebc0, ybc0, wbc0, ebc1, ybc1, wbc1, ebc2, ybc2, wbc2, eca0, yca0, wca0, eca1, yca1, wca1, eca2, yca2, wca2, eab0, yab0, wab0, eab1, yab1, wab1, eab2, yab2, wab2, t0, ul0, S0, t1, ul1, S1, t2, ul2, S2, W0, z0, Int.zero_add, Nat.zero_le, i1, i2, i3, i4, m1, m2, m3, m4, spXNormal, spXCross, tE, spIMul, spIAdd, iE]
    refine lp_step ?_
    simp only [↓R0, R1, simprocAttr, -Int.reduceAbs, ra1, qa1, ra2, qa2, ra3, qa3, ra4, rb1, qb1, rb2, qb2, rb3, qb3, rb4, rc1, qc1, rc2, qc2, rc3, qc3, rc4, ebc0, ybc0, wbc0, ebc1, ybc1, wbc1, ebc2, ybc2, wbc2, eca0, yca0, wca0, eca1, yca1, wca1, eca2, yca2, wca2, eab0, yab0, wab0, eab1, yab1, wab1, eab2, yab2, wab2, t0, ul0, S0, t1, ul1, S1, t2, ul2, S2, W0, z0, Int.zero_add, Nat.zero_le, spXNormal, spXCross, tE, spXDot, spXMade, hw, zl0, zs0, Int.lt_irrefl, pZ, pE, Fin, isEnd, resL, res1, iE, rE]
    exact ⟨_, rfl, rfl, fun k hk => by simp only [ne_nb hk, if_false]⟩
end Go.Eng
end
section
set_option linter.unusedVariables false
set_option linter.unusedSimpArgs false
set_option linter.unusedSectionVars false
set_option maxRecDepth 20000
namespace Go.Eng
open Go Go.Proofs Go.IntWalk
def spXAbove : List Value → Option Value
  | [.agg ⟨[.bool s1, .string ⟨⟨l1⟩⟩, .bool s2, .string ⟨⟨l2⟩⟩, .bool s3, .string ⟨⟨l3⟩⟩, .bool s4, .string ⟨⟨l4⟩⟩]⟩, .agg ⟨[.bool t1, .string ⟨⟨m1⟩⟩, .bool t2, .string ⟨⟨m2⟩⟩, .bool t3, .string ⟨⟨m3⟩⟩, .bool t4, .string ⟨⟨m4⟩⟩]⟩] =>
    if l1.length ≤ 4294967296 ∧ l2.length ≤ 4294967296 ∧ l3.length ≤ 4294967296 ∧ l4.length ≤ 4294967296 ∧ m1.length ≤ 4294967296 ∧ m2.length ≤ 4294967296 ∧ m3.length ≤ 4294967296 ∧ m4.length ≤ 4294967296 then
      some (.agg ⟨iE (sv s1 l1 * sv t1 m1 + sv s2 l2 * sv t2 m2 + sv s3 l3 * sv t3 m3 - sv s4 l4 * sv t4 m4)⟩) else none
  | _ => none
def c52 : ICode :=
  (.seq (.reg [qq 2 (.box 25 8 (.t 0)), qq 3 (.box 30 8 (.t 1)), qq 4 (.alloc 23 2 [(.bool false), e0])]) (.seq (.dreg [qu 5 (.load true 8 (.t 2)), qu 6 (.call 33 [(.t 5)]), qu 7 (.faddr 0 (.t 3)), qv 8 [1] (.load true 2 (.t 7)), qu 9 (.faddr 2 (.t 3)), qv 10 [1] (.load true 2 (.t 9)), qu 11 (.faddr 4 (.t 3)), qv 12 [1] (.load true 2 (.t 11)), qu 13 (.build [(.bool false), e0, (.bool false), e0, (.bool false), e0] [(0, 2, (.t 8)), (2, 2, (.t 10)), (4, 2, (.t 12))]), qu 14 (.call 37 [(.t 6), (.t 13)]), qu 15 (.faddr 6 (.t 2)), qv 16 [1, 9] (.load true 2 (.t 15)), qu 17 (.faddr 6 (.t 3)), qv 18 [1, 9] (.load true 2 (.t 17)), qu 19 (.call 35 [(.t 16), (.t 18)]), qu 20 (.call 54 [(.t 14), (.t 19)]), qm (.store 2 (.t 4) (.t 20))]) .ret))
theorem tr52 : trFun Tryz.prog 52 = some ⟨21, [.cell 4 true 2], c52⟩ := by kernel_rfl
set_option maxHeartbeats 2000000 in
theorem ok_xAbove : SpecOK Tryz.prog 52 (flat spXAbove) := by
  refine flat_run (env_cons ok_xNormal (env_cons ok_xDot (env_cons ok_iMul (env_cons ok_iSub (env_nil _))))) mixed tr52 ?_
  intro args v h N hG
  unfold spXAbove at hG
  split at hG
  case h_2 => cases hG
  rename_i s1 l1 s2 l2 s3 l3 s4 l4 t1 m1 t2 m2 t3 m3 t4 m4
  split at hG
  case isFalse => cases hG
  rename_i hl
  obtain ⟨h1, h2, h3, h4, g1, g2, g3, g4⟩ := hl
  cases hG
  refine ⟨rfl, by simp, ?_⟩
  have a1 : l1.length ≤ 17179869184 := by omega
  have a2 : l2.length ≤ 17179869184 := by omega
  have a3 : l3.length ≤ 17179869184 := by omega
  have a4 : l4.length ≤ 34359738368 := by omega
  have b1 : m1.length ≤ 17179869184 := by omega
  have b2 : m2.length ≤ 17179869184 := by omega
  have b3 : m3.length ≤ 17179869184 := by omega
  have b4 : m4.length ≤ 34359738368 := by omega
  have p1 := lmul (k := 8589934592) (len_sv (s := s1) h1) (len_sv (s := t1) g1) (by omega)
  have p2 := lmul (k := 8589934592) (len_sv (s := s2) h2) (len_sv (s := t2) g2) (by omega)
  have p3 := lmul (k := 8589934592) (len_sv (s := s3) h3) (len_sv (s := t3) g3) (by omega)
  have p4 := lmul (k := 68719476736) (len_sv (s := s4) h4) (len_sv (s := t4) g4) (by omega)
  have q1 := ladd (k := 68719476736) (ladd (k := 8589934593) p1 p2 (by omega)) p3 (by omega)
  simp only [c52, G0, Nat.reduceAdd]
  simp only [↓R0, R1, simprocAttr, -Int.reduceAbs, spXNormal, spXDot, spIMul, spISub, a1, a2, a3, a4, b1, b2, b3, b4, p4, q1, Fin, isEnd, resL, res1, iE, rE]
  exact ⟨_, rfl, rfl, fun k hk => by simp only [ne_nb hk, if_false]⟩
def spXBetw : List Value → Heap → Option Value
  | [.agg ⟨[.bool s1, .string ⟨⟨l1⟩⟩]⟩, .agg ⟨[.bool s2, .string ⟨⟨l2⟩⟩]⟩, .pointer (some ⟨k, 0, none⟩), .pointer (some ⟨k', 0, none⟩)], h => match hget h k, hget h k' with
    | some ⟨_, _, _, [.bool t1, .string ⟨⟨m1⟩⟩]⟩, some ⟨_, _, _, [.bool t2, .string ⟨⟨m2⟩⟩]⟩ =>
      if l1.length ≤ 17179869184 ∧ l2.length ≤ 17179869184 ∧ m1.length ≤ 17179869184 ∧ m2.length ≤ 17179869184 then some (.agg ⟨iE (sv s1 l1 * sv t1 m1 - sv s2 l2 * sv t2 m2)⟩) else none
    | _, _ => none
  | _, _ => none
def c53 : ICode :=
  (.seq (.reg [qq 4 (.box 23 2 (.t 0)), qq 5 (.box 23 2 (.t 1)), qq 6 (.alloc 23 2 [(.bool false), e0])]) (.seq (.dreg [qu 7 (.load true 2 (.t 4)), qu 8 (.load true 2 (.t 2)), qu 9 (.call 35 [(.t 7), (.t 8)]), qv 10 [2] (.load true 2 (.t 5)), qv 11 [2] (.load true 2 (.t 3)), qu 12 (.call 35 [(.t 10), (.t 11)]), qu 13 (.call 54 [(.t 9), (.t 12)]), qm (.store 2 (.t 6) (.t 13))]) .ret))
theorem tr53 : trFun Tryz.prog 53 = some ⟨14, [.cell 6 true 2], c53⟩ := by kernel_rfl
theorem ok_xBetw : SpecOK Tryz.prog 53 (rdS spXBetw) := by
  refine rd_run (env_cons ok_iMul (env_cons ok_iSub (env_nil _))) mixed tr53 ?_ ?_
  · intro args h h' v hle e
    unfold spXBetw at e ⊢
    split at e
    · split at e
      · rename_i b1 b2
        simp only [hle _ _ b1, hle _ _ b2]; exact e
      · cases e
    · cases e
  intro args v h N hG hN
  unfold spXBetw at hG
  split at hG
  case h_2 => cases hG
  rename_i s1 l1 s2 l2 k k'
  split at hG
  case h_2 => cases hG
  rename_i e1 z1 x1 t1 m1 e2 z2 x2 t2 m2 hb1 hb2
  split at hG
  case isFalse => cases hG
  rename_i hl
  obtain ⟨h1, h2, h3, h4⟩ := hl
  cases hG
  refine ⟨rfl, by simp, ?_⟩
  have k1 := hN _ _ hb1
  have k2 := hN _ _ hb2
  have ne1 : ∀ j, (N + j = k) = False := fun j => eq_false (by omega)
  have ne2 : ∀ j, (N + j = k') = False := fun j => eq_false (by omega)
  have a1 : l1.length ≤ 34359738368 := by omega
  have a2 : l2.length ≤ 34359738368 := by omega
  have b1 : m1.length ≤ 34359738368 := by omega
  have b2 : m2.length ≤ 34359738368 := by omega
  have p1 := lmul (k := 68719476736) (len_sv (s := s1) h1) (len_sv (s := t1) h3) (by omega)
  have p2 := lmul (k := 68719476736) (len_sv (s := s2) h2) (len_sv (s := t2) h4) (by omega)
  simp only [c53, G0, Nat.reduceAdd]
  simp only [↓R0, R1, simprocAttr, -Int.reduceAbs, ne1, ne2, hb1, hb2, spIMul, spISub, a1, a2, b1, b2, p1, p2, Fin, isEnd, resL, res1, iE, rE]
  exact ⟨_, rfl, rfl, fun k hk => by simp only [ne_nb hk, if_false]⟩
def spXLine : List Value → Option Value
  | [.agg ⟨[.bool s1, .string ⟨⟨l1⟩⟩, .bool s2, .string ⟨⟨l2⟩⟩, .bool s3, .string ⟨⟨l3⟩⟩, .bool s4, .string ⟨⟨l4⟩⟩]⟩, .agg ⟨[.bool t1, .string ⟨⟨m1⟩⟩, .bool t2, .string ⟨⟨m2⟩⟩, .bool t3, .string ⟨⟨m3⟩⟩, .bool t4, .string ⟨⟨m4⟩⟩]⟩,
      .agg ⟨[.bool u1, .string ⟨⟨o1⟩⟩, .bool u2, .string ⟨⟨o2⟩⟩, .bool u3, .string ⟨⟨o3⟩⟩, .bool u4, .string ⟨⟨o4⟩⟩]⟩] =>
    if l1.length ≤ 2147483648 ∧ l2.length ≤ 2147483648 ∧ l3.length ≤ 2147483648 ∧ l4.length ≤ 2147483648 ∧ m1.length ≤ 2147483648 ∧ m2.length ≤ 2147483648 ∧ m3.length ≤ 2147483648 ∧ m4.length ≤ 2147483648 ∧
      o1.length ≤ 2147483648 ∧ o2.length ≤ 2147483648 ∧ o3.length ≤ 2147483648 ∧ o4.length ≤ 2147483648 then
      (if t1 = u1 ∧ m1 = o1 ∧ t2 = u2 ∧ m2 = o2 ∧ t3 = u3 ∧ m3 = o3 ∧ t4 = u4 ∧ m4 = o4 then some (.tuple ⟨[.agg ⟨pZ⟩, .bool false]⟩) else
      if sv t4 m4 * (sv s1 l1 * sv u1 o1 + sv s2 l2 * sv u2 o2 + sv s3 l3 * sv u3 o3 - sv s4 l4 * sv u4 o4) - sv u4 o4 * (sv s1 l1 * sv t1 m1 + sv s2 l2 * sv t2 m2 + sv s3 l3 * sv t3 m3 - sv s4 l4 * sv t4 m4) = 0 then some (.tuple ⟨[.agg ⟨pZ⟩, .bool false]⟩) else
      some (.tuple ⟨[.agg ⟨pE (sv t1 m1 * (sv s1 l1 * sv u1 o1 + sv s2 l2 * sv u2 o2 + sv s3 l3 * sv u3 o3 - sv s4 l4 * sv u4 o4) - sv u1 o1 * (sv s1 l1 * sv t1 m1 + sv s2 l2 * sv t2 m2 + sv s3 l3 * sv t3 m3 - sv s4 l4 * sv t4 m4))
        (sv t2 m2 * (sv s1 l1 * sv u1 o1 + sv s2 l2 * sv u2 o2 + sv s3 l3 * sv u3 o3 - sv s4 l4 * sv u4 o4) - sv u2 o2 * (sv s1 l1 * sv t1 m1 + sv s2 l2 * sv t2 m2 + sv s3 l3 * sv t3 m3 - sv s4 l4 * sv t4 m4))
        (sv t3 m3 * (sv s1 l1 * sv u1 o1 + sv s2 l2 * sv u2 o2 + sv s3 l3 * sv u3 o3 - sv s4 l4 * sv u4 o4) - sv u3 o3 * (sv s1 l1 * sv t1 m1 + sv s2 l2 * sv t2 m2 + sv s3 l3 * sv t3 m3 - sv s4 l4 * sv t4 m4))
        (sv t4 m4 * (sv s1 l1 * sv u1 o1 + sv s2 l2 * sv u2 o2 + sv s3 l3 * sv u3 o3 - sv s4 l4 * sv u4 o4) - sv u4 o4 * (sv s1 l1 * sv t1 m1 + sv s2 l2 * sv t2 m2 + sv s3 l3 * sv t3 m3 - sv s4 l4 * sv t4 m4))⟩, .bool true]⟩)) else none
  | _ => none
def c15 : ICode :=
  (.seq (.reg [qq 3 (.box 25 8 (.t 0)), qq 4 (.box 30 8 (.t 1)), qq 5 (.box 30 8 (.t 2)), qq 6 (.alloc 30 8 [(.bool false), e0, (.bool false), e0, (.bool false), e0, (.bool false), e0]), qq 7 (.mv (.c (.bool false)))]) (.seq (.seq (.reg [qq 11 (.load true 8 (.t 4)), qq 12 (.load true 8 (.t 5)), qq 13 (.eqa false [.b, .s, .b, .s, .b, .s, .b, .s] (.t 11) (.t 12))]) (.cond (.t 13) (.seq (.reg [qq 14 (.build [(.bool false), e0, (.bool false), e0, (.bool false), e0, (.bool false), e0] []), qn (.store 8 (.t 6) (.t 14)), qq 7 (.mv (.c (.bool false)))]) .ret) .skip)) (.seq (.dreg [qu 15 (.load true 8 (.t 3)), qu 16 (.load true 8 (.t 4)), qu 17 (.call 52 [(.t 15), (.t 16)]), qv 18 [2] (.load true 8 (.t 3)), qv 19 [2] (.load true 8 (.t 5)), qu 20 (.call 52 [(.t 18), (.t 19)]), qu 8 (.alloc 23 2 [(.bool false), e0]), qu 9 (.alloc 23 2 [(.bool false), e0]), qm (.store 2 (.t 8) (.t 17)), qm (.store 2 (.t 9) (.t 20))]) (.seq (.reg [qq 21 (.mkfn 53 [(.t 9), (.t 8)]), qq 10 (.mv (.t 21))]) (.seq (.dreg [qu 22 (.mv (.t 10)), qu 23 (.faddr 0 (.t 4)), qu 24 (.load true 2 (.t 23)), qu 25 (.faddr 0 (.t 5)), qu 26 (.load true 2 (.t 25)), qu 27 (.callv (.t 22) [(.t 24), (.t 26)]), qu 28 (.mv (.t 10)), qu 29 (.faddr 2 (.t 4)), qv 30 [5] (.load true 2 (.t 29)), qu 31 (.faddr 2 (.t 5)), qv 32 [5] (.load true 2 (.t 31)), qu 33 (.callv (.t 28) [(.t 30), (.t 32)]), qu 34 (.mv (.t 10)), qu 35 (.faddr 4 (.t 4)), qv 36 [5, 11] (.load true 2 (.t 35)), qu 37 (.faddr 4 (.t 5)), qv 38 [5, 11] (.load true 2 (.t 37)), qu 39 (.callv (.t 34) [(.t 36), (.t 38)]), qu 40 (.build [(.bool false), e0, (.bool false), e0, (.bool false), e0] [(0, 2, (.t 27)), (2, 2, (.t 33)), (4, 2, (.t 39))]), qu 41 (.mv (.t 10)), qu 42 (.faddr 6 (.t 4)), qv 43 [5, 11, 17] (.load true 2 (.t 42)), qu 44 (.faddr 6 (.t 5)), qv 45 [5, 11, 17] (.load true 2 (.t 44)), qu 46 (.callv (.t 41) [(.t 43), (.t 45)]), qu 47 (.call 36 [(.t 40), (.t 46)]), qu 48 (.ext (.t 47) 0), qu 49 (.ext (.t 47) 1), qm (.store 8 (.t 6) (.t 48)), qu 7 (.mv (.t 49))]) .ret)))))
theorem tr15 : trFun Tryz.prog 15 = some ⟨50, [.cell 6 true 8, .t 7], c15⟩ := by kernel_rfl
set_option maxHeartbeats 8000000 in
theorem ok_xLine : SpecOK Tryz.prog 15 (flat spXLine) := by
  refine flat_run (env_cons ok_xAbove (env_cons ok_xBetw (env_cons ok_xMade (env_nil _)))) mixed tr15 ?_
  intro args v h N hG
  unfold spXLine at hG
  split at hG
  case h_2 => cases hG
  rename_i s1 l1 s2 l2 s3 l3 s4 l4 t1 m1 t2 m2 t3 m3 t4 m4 u1 o1 u2 o2 u3 o3 u4 o4
  split at hG
  case isFalse => cases hG
  rename_i hl
  obtain ⟨h1, h2, h3, h4, g1, g2, g3, g4, j1, j2, j3, j4⟩ := hl
  split at hG
  · rename_i heq
    obtain ⟨rfl, rfl, rfl, rfl, rfl, rfl, rfl, rfl⟩ := heq
    cases hG
    refine ⟨rfl, by simp, ?_⟩
    simp only [c15, G0, Nat.reduceAdd]
    simp only [↓R0, R1, simprocAttr, -Int.reduceAbs, ceq, pZ, Fin, isEnd, resL, res1, iE, rE]
    exact ⟨_, rfl, rfl, fun k hk => by simp only [ne_nb hk, if_false]⟩
  rename_i hne
  have hc : (decide (t1 = u1) && (decide (m1 = o1) && (decide (t2 = u2) && (decide (m2 = o2) && (decide (t3 = u3) && (decide (m3 = o3) && (decide (t4 = u4) && decide (m4 = o4)))))))) = false := by
    cases hb : (decide (t1 = u1) && (decide (m1 = o1) && (decide (t2 = u2) && (decide (m2 = o2) && (decide (t3 = u3) && (decide (m3 = o3) && (decide (t4 = u4) && decide (m4 = o4)))))))) with
    | false => rfl
    | true => simp only [Bool.and_eq_true, decide_eq_true_eq] at hb; exact absurd hb hne
  have bS := lsub (k := 4294967299) (ladd (k := 4294967298) (ladd (k := 4294967297) (lmul (k := 4294967296) (len_sv (s := s1) h1) (len_sv (s := t1) g1) (by omega)) (lmul (k := 4294967296) (len_sv (s := s2) h2) (len_sv (s := t2) g2) (by omega)) (by omega)) (lmul (k := 4294967296) (len_sv (s := s3) h3) (len_sv (s := t3) g3) (by omega)) (by omega)) (lmul (k := 4294967296) (len_sv (s := s4) h4) (len_sv (s := t4) g4) (by omega)) (by omega)
  have bT := lsub (k := 4294967299) (ladd (k := 4294967298) (ladd (k := 4294967297) (lmul (k := 4294967296) (len_sv (s := s1) h1) (len_sv (s := u1) j1) (by omega)) (lmul (k := 4294967296) (len_sv (s := s2) h2) (len_sv (s := u2) j2) (by omega)) (by omega)) (lmul (k := 4294967296) (len_sv (s := s3) h3) (len_sv (s := u3) j3) (by omega)) (by omega)) (lmul (k := 4294967296) (len_sv (s := s4) h4) (len_sv (s := u4) j4) (by omega)) (by omega)
  obtain ⟨S, eS⟩ : ∃ z, sv s1 l1 * sv t1 m1 + sv s2 l2 * sv t2 m2 + sv s3 l3 * sv t3 m3 - sv s4 l4 * sv t4 m4 = z := ⟨_, rfl⟩
  obtain ⟨T, eT⟩ : ∃ z, sv s1 l1 * sv u1 o1 + sv s2 l2 * sv u2 o2 + sv s3 l3 * sv u3 o3 - sv s4 l4 * sv u4 o4 = z := ⟨_, rfl⟩
  rw [eS] at hG bS
  rw [eT] at hG bT
  have a1 : l1.length ≤ 4294967296 := by omega
  have a2 : l2.length ≤ 4294967296 := by omega
  have a3 : l3.length ≤ 4294967296 := by omega
  have a4 : l4.length ≤ 4294967296 := by omega
  have b1 : m1.length ≤ 4294967296 := by omega
  have b2 : m2.length ≤ 4294967296 := by omega
  have b3 : m3.length ≤ 4294967296 := by omega
  have b4 : m4.length ≤ 4294967296 := by omega
  have c1 : o1.length ≤ 4294967296 := by omega
  have c2 : o2.length ≤ 4294967296 := by omega
  have c3 : o3.length ≤ 4294967296 := by omega
  have c4 : o4.length ≤ 4294967296 := by omega
  have b1' : m1.length ≤ 17179869184 := by omega
  have b2' : m2.length ≤ 17179869184 := by omega
  have b3' : m3.length ≤ 17179869184 := by omega
  have b4' : m4.length ≤ 17179869184 := by omega
  have c1' : o1.length ≤ 17179869184 := by omega
  have c2' : o2.length ≤ 17179869184 := by omega
  have c3' : o3.length ≤ 17179869184 := by omega
  have c4' : o4.length ≤ 17179869184 := by omega
  have bS' := lle (k := 17179869184) bS (by omega)
  have bT' := lle (k := 17179869184) bT (by omega)
  have X1 := lsub (k := 34359738368) (lmul (k := 12884901888) (len_sv (s := t1) g1) bT (by omega)) (lmul (k := 12884901888) (len_sv (s := u1) j1) bS (by omega)) (by omega)
  have X2 := lsub (k := 34359738368) (lmul (k := 12884901888) (len_sv (s := t2) g2) bT (by omega)) (lmul (k := 12884901888) (len_sv (s := u2) j2) bS (by omega)) (by omega)
  have X3 := lsub (k := 34359738368) (lmul (k := 12884901888) (len_sv (s := t3) g3) bT (by omega)) (lmul (k := 12884901888) (len_sv (s := u3) j3) bS (by omega)) (by omega)
  have X4 := lsub (k := 34359738368) (lmul (k := 12884901888) (len_sv (s := t4) g4) bT (by omega)) (lmul (k := 12884901888) (len_sv (s := u4) j4) bS (by omega)) (by omega)
  have zl0 : (bl (Int.natAbs 0)).length ≤ 34359738368 := by rw [show Int.natAbs 0 = 0 from rfl, bl_zero]; exact Nat.zero_le _
  have zs0 : sv false (bl (Int.natAbs 0)) = 0 := by rw [sv_bl]; rfl
  split at hG
  · rename_i hw
    cases hG
    refine ⟨rfl, by simp, ?_⟩
    simp only [c15, G0, Nat.reduceAdd]
    simp only [↓R0, R1, simprocAttr, -Int.reduceAbs, ceq, hc, spXAbove, a1, a2, a3, a4, b1, b2, b3, b4, c1, c2, c3, c4, b1', b2', b3', b4', c1', c2', c3', c4', eS, eT, bS', bT', callF, rdS, spXBetw, X1, X2, X3, X4, spXMade, hw, zl0, zs0, Int.lt_irrefl, pZ, pE, Fin, isEnd, resL, res1, iE, rE]
    exact ⟨_, rfl, rfl, fun k hk => by simp only [ne_nb hk, if_false]⟩
  · rename_i hw
    cases hG
    refine ⟨rfl, by simp, ?_⟩
    simp only [c15, G0, Nat.reduceAdd]
    simp only [↓R0, R1, simprocAttr, -Int.reduceAbs, ceq, hc, spXAbove, a1, a2, a3, a4, b1, b2, b3, b4, c1, c2, c3, c4, b1', b2', b3', b4', c1', c2', c3', c4', eS, eT, bS', bT', callF, rdS, spXBetw, X1, X2, X3, X4, spXMade, hw, zl0, zs0, Int.lt_irrefl, pZ, pE, Fin, isEnd, resL, res1, iE, rE]
    exact ⟨_, rfl, rfl, fun k hk => by simp only [ne_nb hk, if_false]⟩
end Go.Eng
end
section
set_option linter.unusedVariables false
set_option linter.unusedSimpArgs false
set_option linter.unusedSectionVars false
set_option maxRecDepth 20000
namespace Go.Eng
open Go Go.Proofs Go.IntWalk
def spLFlat : List Value → Option Value
  | [.int .i64 a, .int .i64 b, .int .i64 c, .int .i64 d] => if (-9223372036854775808 ≤ a ∧ a ≤ 9223372036854775807) ∧ (-9223372036854775808 ≤ b ∧ b ≤ 9223372036854775807) ∧ (-9223372036854775808 ≤ c ∧ c ≤ 9223372036854775807) ∧ (-9223372036854775808 ≤ d ∧ d ≤ 9223372036854775807) then
      some (.agg ⟨iE a ++ iE b ++ iE c ++ iE d⟩) else none
  | _ => none
def c30 : ICode :=
  (.seq (.reg [qq 8 (.alloc 25 8 [(.bool false), e0, (.bool false), e0, (.bool false), e0, (.bool false), e0])]) (.seq (.reg [qq 9 (.mv (.t 0)), qq 10 (.call 26 [(.t 9)]), qq 11 (.mv (.t 1)), qq 12 (.call 26 [(.t 11)]), qq 13 (.mv (.t 2)), qq 14 (.call 26 [(.t 13)]), qq 15 (.mv (.t 3)), qq 16 (.call 26 [(.t 15)]), qq 17 (.build [(.bool false), e0, (.bool false), e0, (.bool false), e0, (.bool false), e0] [(0, 2, (.t 10)), (2, 2, (.t 12)), (4, 2, (.t 14)), (6, 2, (.t 16))]), qn (.store 8 (.t 8) (.t 17))]) .ret))
theorem tr30 : trFun Tryz.prog 30 = some ⟨18, [.cell 8 true 8], c30⟩ := by kernel_rfl
theorem ok_lFlat : SpecOK Tryz.prog 30 (flat spLFlat) := by
  refine flat_run (env_cons ok_iFrom (env_nil _)) mixed tr30 ?_
  intro args v h N hG
  unfold spLFlat at hG
  split at hG
  case h_2 => cases hG
  rename_i a b c d
  split at hG
  case isFalse => cases hG
  rename_i hl
  obtain ⟨⟨h1, h2⟩, ⟨h3, h4⟩, ⟨h5, h6⟩, ⟨h7, h8⟩⟩ := hl
  cases hG
  refine ⟨rfl, by simp, ?_⟩
  simp only [c30, G0, Nat.reduceAdd]
  simp only [↓R0, R1, simprocAttr, -Int.reduceAbs, spIFrom, h1, h2, h3, h4, h5, h6, h7, h8, Fin, isEnd, resL, res1, iE, rE]
  exact ⟨_, rfl, rfl, fun k hk => by simp only [ne_nb hk, if_false]⟩
def spLAt : List Value → Option Value
  | [.int .i64 a, .int .i64 b, .int .i64 c] => if (-9223372036854775808 ≤ a ∧ a ≤ 9223372036854775807) ∧ (-9223372036854775808 ≤ b ∧ b ≤ 9223372036854775807) ∧ (-9223372036854775808 ≤ c ∧ c ≤ 9223372036854775807) then
      some (.agg ⟨iE a ++ iE b ++ iE c ++ iE 1⟩) else none
  | _ => none
def c31 : ICode :=
  (.seq (.reg [qq 6 (.alloc 30 8 [(.bool false), e0, (.bool false), e0, (.bool false), e0, (.bool false), e0])]) (.seq (.reg [qq 7 (.mv (.t 0)), qq 8 (.call 26 [(.t 7)]), qq 9 (.mv (.t 1)), qq 10 (.call 26 [(.t 9)]), qq 11 (.mv (.t 2)), qq 12 (.call 26 [(.t 11)]), qq 13 (.call 26 [(ci 1)]), qq 14 (.build [(.bool false), e0, (.bool false), e0, (.bool false), e0, (.bool false), e0] [(0, 2, (.t 8)), (2, 2, (.t 10)), (4, 2, (.t 12)), (6, 2, (.t 13))]), qn (.store 8 (.t 6) (.t 14))]) .ret))
theorem tr31 : trFun Tryz.prog 31 = some ⟨15, [.cell 6 true 8], c31⟩ := by kernel_rfl
theorem ok_lAt : SpecOK Tryz.prog 31 (flat spLAt) := by
  refine flat_run (env_cons ok_iFrom (env_nil _)) mixed tr31 ?_
  intro args v h N hG
  unfold spLAt at hG
  split at hG
  case h_2 => cases hG
  rename_i a b c
  split at hG
  case isFalse => cases hG
  rename_i hl
  obtain ⟨⟨h1, h2⟩, ⟨h3, h4⟩, ⟨h5, h6⟩⟩ := hl
  cases hG
  refine ⟨rfl, by simp, ?_⟩
  simp only [c31, G0, Nat.reduceAdd]
  simp only [↓R0, R1, simprocAttr, -Int.reduceAbs, spIFrom, h1, h2, h3, h4, h5, h6, Fin, isEnd, resL, res1, iE, rE]
  exact ⟨_, rfl, rfl, fun k hk => by simp only [ne_nb hk, if_false]⟩
theorem bl_small {n : Nat} (h0 : n ≠ 0) (h : n < 256) : bl n = [UInt8.ofNat n] := by
  rw [bl_pos h0, Nat.div_eq_of_lt h, bl_zero, Nat.mod_eq_of_lt h]
theorem iE_0 : iE 0 = [.bool false, .string ⟨⟨[]⟩⟩] := by unfold iE; rw [show Int.natAbs 0 = 0 from rfl, bl_zero]; rfl
theorem iE_1 : iE 1 = [.bool false, .string ⟨⟨[1]⟩⟩] := by unfold iE; rw [show Int.natAbs 1 = 1 from rfl, bl_small (by decide) (by decide)]; rfl
theorem iE_2 : iE 2 = [.bool false, .string ⟨⟨[2]⟩⟩] := by unfold iE; rw [show Int.natAbs 2 = 2 from rfl, bl_small (by decide) (by decide)]; rfl
theorem iE_3 : iE 3 = [.bool false, .string ⟨⟨[3]⟩⟩] := by unfold iE; rw [show Int.natAbs 3 = 3 from rfl, bl_small (by decide) (by decide)]; rfl
theorem iE_4 : iE 4 = [.bool false, .string ⟨⟨[4]⟩⟩] := by unfold iE; rw [show Int.natAbs 4 = 4 from rfl, bl_small (by decide) (by decide)]; rfl
def cE4 (a b c d : List UInt8) : List Value := [.bool false, .string ⟨⟨a⟩⟩, .bool false, .string ⟨⟨b⟩⟩, .bool false, .string ⟨⟨c⟩⟩, .bool false, .string ⟨⟨d⟩⟩]
theorem fx1 : spLFlat [.int .i64 1, .int .i64 0, .int .i64 0, .int .i64 2] = some (.agg ⟨cE4 [1] [] [] [2]⟩) := by
  unfold spLFlat; simp only; rw [if_pos (by decide), iE_1, iE_0, iE_2]; rfl
theorem fx2 : spLFlat [.int .i64 0, .int .i64 1, .int .i64 0, .int .i64 3] = some (.agg ⟨cE4 [] [1] [] [3]⟩) := by
  unfold spLFlat; simp only; rw [if_pos (by decide), iE_1, iE_0, iE_3]; rfl
theorem fx3 : spLFlat [.int .i64 0, .int .i64 0, .int .i64 1, .int .i64 4] = some (.agg ⟨cE4 [] [] [1] [4]⟩) := by
  unfold spLFlat; simp only; rw [if_pos (by decide), iE_1, iE_0, iE_4]; rfl
theorem fx4 : spLFlat [.int .i64 0, .int .i64 0, .int .i64 1, .int .i64 1] = some (.agg ⟨cE4 [] [] [1] [1]⟩) := by
  unfold spLFlat; simp only; rw [if_pos (by decide), iE_1, iE_0]; rfl
theorem fx5 : spLAt [.int .i64 0, .int .i64 0, .int .i64 0] = some (.agg ⟨cE4 [] [] [] [1]⟩) := by
  unfold spLAt; simp only; rw [if_pos (by decide), iE_1, iE_0]; rfl
theorem fx6 : spLAt [.int .i64 1, .int .i64 1, .int .i64 2] = some (.agg ⟨cE4 [1] [1] [2] [1]⟩) := by
  unfold spLAt; simp only; rw [if_pos (by decide), iE_1, iE_2]; rfl
theorem fx7 : spLAt [.int .i64 2, .int .i64 3, .int .i64 4] = some (.agg ⟨cE4 [2] [3] [4] [1]⟩) := by
  unfold spLAt; simp only; rw [if_pos (by decide), iE_1, iE_2, iE_3, iE_4]; rfl
theorem fx8 : spIFrom [.int .i64 1] = some (.agg ⟨[.bool false, .string ⟨⟨[1]⟩⟩]⟩) := by
  unfold spIFrom; simp only; rw [if_pos (by decide), iE_1]
theorem fx9 : spIFrom [.int .i64 2] = some (.agg ⟨[.bool false, .string ⟨⟨[2]⟩⟩]⟩) := by
  unfold spIFrom; simp only; rw [if_pos (by decide), iE_2]
theorem pE_2341 : pE 2 3 4 1 = cE4 [2] [3] [4] [1] := by
  unfold pE
  rw [show pQ 2 3 4 1 2 = 2 by decide, show pQ 2 3 4 1 3 = 3 by decide, show pQ 2 3 4 1 4 = 4 by decide, show pQ 2 3 4 1 (pW 1) = 1 by decide, iE_1, iE_2, iE_3, iE_4]; rfl
theorem pE_1122 : pE 1 1 2 2 = cE4 [1] [1] [2] [2] := by
  unfold pE
  rw [show pQ 1 1 2 2 1 = 1 by decide, show pQ 1 1 2 2 2 = 2 by decide, show pQ 1 1 2 2 (pW 2) = 2 by decide, iE_1, iE_2]; rfl
theorem fxA : spXThree [.agg ⟨cE4 [1] [] [] [2]⟩, .agg ⟨cE4 [] [1] [] [3]⟩, .agg ⟨cE4 [] [] [1] [4]⟩] = some (.tuple ⟨[.agg ⟨cE4 [2] [3] [4] [1]⟩, .bool true]⟩) := by
  unfold spXThree cE4
  simp only
  rw [if_pos (by decide), if_neg (by decide)]
  have h : ∀ X Y Z W : Int, X = 2 → Y = 3 → Z = 4 → W = 1 → some (Value.tuple ⟨[.agg ⟨pE X Y Z W⟩, .bool true]⟩) = some (.tuple ⟨[.agg ⟨cE4 [2] [3] [4] [1]⟩, .bool true]⟩) := by
    intro X Y Z W h1 h2 h3 h4
    rw [h1, h2, h3, h4, pE_2341]
  exact h _ _ _ _ (by decide) (by decide) (by decide) (by decide)
theorem fxB : spXLine [.agg ⟨cE4 [] [] [1] [1]⟩, .agg ⟨cE4 [] [] [] [1]⟩, .agg ⟨cE4 [1] [1] [2] [1]⟩] = some (.tuple ⟨[.agg ⟨cE4 [1] [1] [2] [2]⟩, .bool true]⟩) := by
  unfold spXLine cE4
  simp only
  rw [if_pos (by decide), if_neg (by decide), if_neg (by decide)]
  have h : ∀ X Y Z W : Int, X = 1 → Y = 1 → Z = 2 → W = 2 → some (Value.tuple ⟨[.agg ⟨pE X Y Z W⟩, .bool true]⟩) = some (.tuple ⟨[.agg ⟨cE4 [1] [1] [2] [2]⟩, .bool true]⟩) := by
    intro X Y Z W h1 h2 h3 h4
    rw [h1, h2, h3, h4, pE_1122]
  exact h _ _ _ _ (by decide) (by decide) (by decide) (by decide)
def spLFixed : List Value → Option Value
  | [] => some (.bool true)
  | _ => none
def c9 : ICode :=
  (.seq (.reg [qq 0 (.mv (.c (.bool false)))]) (.seq (.reg [qq 6 (.call 30 [(ci 1), (ci 0), (ci 0), (ci 2)]), qq 7 (.call 30 [(ci 0), (ci 1), (ci 0), (ci 3)]), qq 8 (.call 30 [(ci 0), (ci 0), (ci 1), (ci 4)]), qq 9 (.call 11 [(.t 6), (.t 7), (.t 8)]), qq 5 (.mv (.t 9)), qq 10 (.ext (.t 5) 0), qq 11 (.ext (.t 5) 1), qq 1 (.alloc 30 8 [(.bool false), e0, (.bool false), e0, (.bool false), e0, (.bool false), e0]), qn (.store 8 (.t 1) (.t 10)), qq 2 (.mv (.t 11))]) (.seq (.reg [qq 13 (.call 30 [(ci 0), (ci 0), (ci 1), (ci 1)]), qq 14 (.call 31 [(ci 0), (ci 0), (ci 0)]), qq 15 (.call 31 [(ci 1), (ci 1), (ci 2)]), qq 16 (.call 15 [(.t 13), (.t 14), (.t 15)]), qq 12 (.mv (.t 16)), qq 17 (.ext (.t 12) 0), qq 18 (.ext (.t 12) 1), qq 3 (.alloc 30 8 [(.bool false), e0, (.bool false), e0, (.bool false), e0, (.bool false), e0]), qn (.store 8 (.t 3) (.t 17)), qq 4 (.mv (.t 18))]) (.seq (.dreg [qu 19 (.mv (.t 2)), qu 20 (.mv (.t 19)), ⟨(some 21), (some (20, true)), [], (.mv (.t 4))⟩, qu 22 (.pick (.t 20) (.t 21) (.c (.bool false))), qu 23 (.mv (.t 22)), ⟨(some 24), (some (23, true)), [], (.load true 8 (.t 1))⟩, ⟨(some 25), (some (23, true)), [], (.call 31 [(ci 2), (ci 3), (ci 4)])⟩, ⟨(some 26), (some (23, true)), [], (.eqa false [.b, .s, .b, .s, .b, .s, .b, .s] (.t 24) (.t 25))⟩, qu 27 (.pick (.t 23) (.t 26) (.c (.bool false))), qu 28 (.mv (.t 27)), ⟨(some 29), (some (28, true)), [], (.load true 8 (.t 3))⟩, ⟨(some 30), (some (28, true)), [], (.call 26 [(ci 1)])⟩, ⟨(some 31), (some (28, true)), [], (.call 26 [(ci 1)])⟩, ⟨(some 32), (some (28, true)), [], (.call 26 [(ci 2)])⟩, ⟨(some 33), (some (28, true)), [], (.call 26 [(ci 2)])⟩, ⟨(some 34), (some (28, true)), [], (.build [(.bool false), e0, (.bool false), e0, (.bool false), e0, (.bool false), e0] [(0, 2, (.t 30)), (2, 2, (.t 31)), (4, 2, (.t 32)), (6, 2, (.t 33))])⟩, ⟨(some 35), (some (28, true)), [], (.eqa false [.b, .s, .b, .s, .b, .s, .b, .s] (.t 29) (.t 34))⟩, qu 36 (.pick (.t 28) (.t 35) (.c (.bool false))), qu 0 (.mv (.t 36))]) .ret))))
theorem tr9 : trFun Tryz.prog 9 = some ⟨37, [.t 0], c9⟩ := by kernel_rfl
set_option maxHeartbeats 4000000 in
theorem ok_lFixed : SpecOK Tryz.prog 9 (flat spLFixed) := by
  refine flat_run (env_cons ok_lFlat (env_cons ok_lAt (env_cons ok_iFrom (env_cons ok_xThree (env_cons ok_xLine (env_nil _)))))) mixed tr9 ?_
  intro args v h N hG
  unfold spLFixed at hG
  split at hG
  case h_2 => cases hG
  cases hG
  refine ⟨rfl, by simp, ?_⟩
  have fA := fxA
  have fB := fxB
  have g1 := fx1
  have g2 := fx2
  have g3 := fx3
  have g4 := fx4
  have g5 := fx5
  have g6 := fx6
  have g7 := fx7
  unfold cE4 at fA fB g1 g2 g3 g4 g5 g6 g7
  simp only [c9, G0, Nat.reduceAdd]
  simp only [↓R0, R1, simprocAttr, -Int.reduceAbs, g1, g2, g3, g4, g5, g6, g7, fx8, fx9, fA, fB, ceq, Fin, isEnd, resL, res1, iE, rE]
  exact ⟨_, rfl, rfl, fun k hk => by simp only [ne_nb hk, if_false]⟩
end Go.Eng
end
section
set_option linter.unusedVariables false
set_option linter.unusedSimpArgs false
set_option linter.unusedSectionVars false
set_option maxRecDepth 20000
namespace Go.Eng
open Go Go.Proofs Go.IntWalk
theorem ints_cons {cells : List Value} {z : Bool × List UInt8} {zs : List (Bool × List UInt8)} (h : ints cells = some (z :: zs)) : ∃ r, cells = .bool z.1 :: .string ⟨⟨z.2⟩⟩ :: r ∧ ints r = some zs := by
  unfold ints at h
  split at h
  · cases h
  · rename_i s l r
    rw [Option.map_eq_some_iff] at h
    obtain ⟨ys, h1, h2⟩ := h
    cases h2
    exact ⟨r, rfl, h1⟩
  · cases h
theorem ints_drop : ∀ (j : Nat) {cells : List Value} {zs : List (Bool × List UInt8)}, ints cells = some zs → j ≤ zs.length → ints (cells.drop (2 * j)) = some (zs.drop j)
  | 0, cells, zs, h, _ => h
  | j + 1, cells, zs, h, hj => by
    match zs, hj with
    | z :: zs, hj =>
      obtain ⟨r, rfl, hr⟩ := ints_cons h
      have := ints_drop j hr (by simpa using hj)
      rw [show 2 * (j + 1) = 2 * j + 2 by omega]
      simpa using this
theorem ints_four {cells : List Value} {zs : List (Bool × List UInt8)} (h : ints cells = some zs) {i : Nat} (hi : 4 * i + 4 ≤ zs.length) :
    ∃ s1 l1 s2 l2 s3 l3 s4 l4, zs.drop (4 * i) = (s1, l1) :: (s2, l2) :: (s3, l3) :: (s4, l4) :: zs.drop (4 * i + 4) ∧ i * 8 + 8 ≤ cells.length ∧
      (cells.drop (i * 8)).take 8 = [.bool s1, .string ⟨⟨l1⟩⟩, .bool s2, .string ⟨⟨l2⟩⟩, .bool s3, .string ⟨⟨l3⟩⟩, .bool s4, .string ⟨⟨l4⟩⟩] := by
  have hd := ints_drop (4 * i) h (by omega)
  have e : 2 * (4 * i) = i * 8 := by omega
  rw [e] at hd
  obtain ⟨⟨s1, l1⟩, h1⟩ : ∃ z, zs[4 * i]? = some z := ⟨_, List.getElem?_eq_getElem (by omega)⟩
  obtain ⟨⟨s2, l2⟩, h2⟩ : ∃ z, zs[4 * i + 1]? = some z := ⟨_, List.getElem?_eq_getElem (by omega)⟩
  obtain ⟨⟨s3, l3⟩, h3⟩ : ∃ z, zs[4 * i + 2]? = some z := ⟨_, List.getElem?_eq_getElem (by omega)⟩
  obtain ⟨⟨s4, l4⟩, h4⟩ : ∃ z, zs[4 * i + 3]? = some z := ⟨_, List.getElem?_eq_getElem (by omega)⟩
  have dr : ∀ (k : Nat) z, zs[k]? = some z → zs.drop k = z :: zs.drop (k + 1) := fun k z hk => by
    have := List.getElem?_eq_some_iff.1 hk
    obtain ⟨h5, h6⟩ := this
    rw [List.drop_eq_getElem_cons h5, h6]
  have hz : zs.drop (4 * i) = (s1, l1) :: (s2, l2) :: (s3, l3) :: (s4, l4) :: zs.drop (4 * i + 4) := by
    rw [dr _ _ h1, dr _ _ h2, dr _ _ h3, dr _ _ h4]
  rw [hz] at hd
  obtain ⟨r1, c1, d1⟩ := ints_cons hd
  obtain ⟨r2, c2, d2⟩ := ints_cons d1
  obtain ⟨r3, c3, d3⟩ := ints_cons d2
  obtain ⟨r4, c4, d4⟩ := ints_cons d3
  subst c2 c3 c4
  refine ⟨s1, l1, s2, l2, s3, l3, s4, l4, hz, ?_, by rw [c1]; rfl⟩
  have := congrArg List.length c1
  simp at this
  omega
def spLGreat : List Value → Heap → Option Value
  | [.slice (some ⟨k, 0, none⟩) len _], h => match hget h k with
    | some blk => match ints blk.cells with
      | some zs => if 4 * len ≤ zs.length ∧ len ≤ 1000 then some (.int .i64 (if (zs.take (4 * len)).all (fun z => decide (z.2.length ≤ 6)) = true then 0 else 1)) else none
      | none => none
    | none => none
  | _, _ => none
def c13 : ICode :=
  (.seq (.reg [qq 2 (.mv (ci 0))]) (.seq (.seq (.reg [qq 5 (.mv (.t 0)), qq 6 (.lensl (.t 5)), qq 7 (.mv (ci 0))]) (.block 0 (.loop (.seq (.reg [qq 8 (.bin .lss (.t 7) (.t 6))]) (.seq (.cond (.t 8) .skip (.exit 0)) (.seq (.block 1 (.seq (.reg [qq 9 (.ixsl 8 (.t 5) (.t 7)), qq 10 (.load true 8 (.t 9)), qq 4 (.alloc 30 8 [(.bool false), e0, (.bool false), e0, (.bool false), e0, (.bool false), e0]), qn (.store 8 (.t 4) (.t 10))]) (.seq (.reg [qq 11 (.faddr 0 (.t 4)), qq 12 (.faddr 1 (.t 11)), qq 13 (.load false 1 (.t 12)), qq 14 (.lens (.t 13)), qq 15 (.bin .gtr (.t 14) (ci 6)), qq 16 (.mv (.t 15)), ⟨(some 17), (some (16, false)), (.faddr 2 (.t 4))⟩, ⟨(some 18), (some (16, false)), (.faddr 1 (.t 17))⟩, ⟨(some 19), (some (16, false)), (.load false 1 (.t 18))⟩, ⟨(some 20), (some (16, false)), (.lens (.t 19))⟩, ⟨(some 21), (some (16, false)), (.bin .gtr (.t 20) (ci 6))⟩, qq 22 (.pick (.t 16) (.c (.bool true)) (.t 21)), qq 23 (.mv (.t 22)), ⟨(some 24), (some (23, false)), (.faddr 4 (.t 4))⟩, ⟨(some 25), (some (23, false)), (.faddr 1 (.t 24))⟩, ⟨(some 26), (some (23, false)), (.load false 1 (.t 25))⟩, ⟨(some 27), (some (23, false)), (.lens (.t 26))⟩, ⟨(some 28), (some (23, false)), (.bin .gtr (.t 27) (ci 6))⟩, qq 29 (.pick (.t 23) (.c (.bool true)) (.t 28)), qq 30 (.mv (.t 29)), ⟨(some 31), (some (30, false)), (.faddr 6 (.t 4))⟩, ⟨(some 32), (some (30, false)), (.faddr 1 (.t 31))⟩, ⟨(some 33), (some (30, false)), (.load false 1 (.t 32))⟩, ⟨(some 34), (some (30, false)), (.lens (.t 33))⟩, ⟨(some 35), (some (30, false)), (.bin .gtr (.t 34) (ci 6))⟩, qq 36 (.pick (.t 30) (.c (.bool true)) (.t 35))]) (.cond (.t 36) (.seq (.reg [qq 2 (.mv (ci 1))]) .ret) .skip)))) (.reg [qq 37 (.bin .add (.t 7) (ci 1)), qq 7 (.mv (.t 37))]))))))) (.seq (.reg [qq 2 (.mv (ci 0))]) .ret)))
theorem tr13 : trFun Tryz.prog 13 = some ⟨38, [.t 2], c13⟩ := by kernel_rfl
set_option maxHeartbeats 1000000 in
theorem ok_lGreat : SpecOK Tryz.prog 13 (rdS spLGreat) := by
  refine rd_run (env_nil _) mixed tr13 ?_ ?_
  · intro args h h' v hle e
    unfold spLGreat at e ⊢
    split at e
    · rename_i k len c
      split at e
      · rename_i blk hb
        simp only [hle _ _ hb]; exact e
      · cases e
    · cases e
  intro args v h N hG hN
  unfold spLGreat at hG
  split at hG
  case h_2 => cases hG
  rename_i k len c
  split at hG
  case h_2 => cases hG
  rename_i blk hb
  split at hG
  case h_2 => cases hG
  rename_i zs hz
  split at hG
  case isFalse => cases hG
  rename_i hl
  obtain ⟨hl1, hl2⟩ := hl
  cases hG
  have hk := hN _ _ hb
  refine ⟨by rfl, by simp, ?_⟩
  have tr : ∀ l : List UInt8, ¬ l.length ≤ 6 → ((l.length : Int) > 6) = True := fun l h => eq_true (by omega)
  have fl : ∀ l : List UInt8, l.length ≤ 6 → ((l.length : Int) > 6) = False := fun l h => eq_false (by omega)
  simp only [c13, G0, Nat.reduceAdd]
  simp only [↓R0, R1, simprocAttr, -Int.reduceAbs]
  refine lp_parts (fun n tm hp nx => ∃ (i : Nat), n + i = len ∧ tmget tm 5 = .slice (some ⟨k, 0, none⟩) len c ∧ tmget tm 6 = .int .i64 len ∧ tmget tm 7 = .int .i64 i ∧
      (zs.take (4 * i)).all (fun z => decide (z.2.length ≤ 6)) = true ∧ (∀ q, q < N → hget hp q = hget h q) ∧ nx = N + i) ?_ len
    ⟨0, by omega, ?_, ?_, ?_, rfl, fun q _ => rfl, rfl⟩
  · intro n tm hp nx ⟨i, hn, t5, t6, t7, hall, hh, hnx⟩
    rw [hnx]
    clear hnx nx
    by_cases c1 : i < len
    · obtain ⟨s1, l1, s2, l2, s3, l3, s4, l4, e1, e2, e3⟩ := ints_four hz (i := i) (by omega)
      have hbb : hget hp k = some blk := by rw [hh k hk]; exact hb
      have ei : IntKind.i64.wrap ((i : Int) + 1) = ((i + 1 : Nat) : Int) := by rw [i64_in _ (by omega)]; omega
      have hne : ¬ (N + i = k) := by omega
      have hlen : ∀ m, i < m → 4 * m ≤ zs.length → zs.take (4 * m) = zs.take (4 * i) ++ ((s1, l1) :: (s2, l2) :: (s3, l3) :: (s4, l4) :: (zs.drop (4 * i + 4)).take (4 * m - (4 * i + 4))) := by
        intro m hm hm2
        have : zs.take (4 * m) = zs.take (4 * i) ++ (zs.drop (4 * i)).take (4 * m - 4 * i) := by
          rw [← List.take_add, show 4 * i + (4 * m - 4 * i) = 4 * m by omega]
        rw [this, e1]
        obtain ⟨d, hd⟩ : ∃ d, 4 * m - 4 * i = d + 4 := ⟨4 * m - 4 * i - 4, by omega⟩
        rw [hd, show 4 * m - (4 * i + 4) = d by omega]
        rfl
      have htot := hlen len c1 hl1
      by_cases c2 : l1.length ≤ 6 ∧ l2.length ≤ 6 ∧ l3.length ≤ 6 ∧ l4.length ≤ 6
      · obtain ⟨q1, q2, q3, q4⟩ := c2
        have d1 := fl l1 q1
        have d2 := fl l2 q2
        have d3 := fl l3 q3
        have d4 := fl l4 q4
        simp only [↓R0, R1, simprocAttr, -Int.reduceAbs, t5, t6, t7, c1, hne, hbb, e2, e3, d1, d2, d3, d4, ei]
        refine ⟨n - 1, by omega, i + 1, by omega, rfl, ?_, ?_, rfl⟩
        · have := hlen (i + 1) (by omega) (by omega)
          rw [this]
          simp [hall, q1, q2, q3, q4, show 4 * (i + 1) - (4 * i + 4) = 0 by omega]
        · intro q hq
          simp only [if_neg (show ¬ N + i = q by omega)]
          exact hh q hq
      · have hbad : ¬ ((zs.take (4 * len)).all (fun z => decide (z.2.length ≤ 6)) = true) := by
          intro e
          rw [htot] at e
          simp only [List.all_append, List.all_cons, Bool.and_eq_true, decide_eq_true_eq] at e
          exact c2 ⟨e.2.1, e.2.2.1, e.2.2.2.1, e.2.2.2.2.1⟩
        rw [if_neg hbad]
        by_cases q1 : l1.length ≤ 6
        · have d1 := fl l1 q1
          by_cases q2 : l2.length ≤ 6
          · have d2 := fl l2 q2
            by_cases q3 : l3.length ≤ 6
            · have d3 := fl l3 q3
              have d4 := tr l4 (fun q4 => c2 ⟨q1, q2, q3, q4⟩)
              simp only [↓R0, R1, simprocAttr, -Int.reduceAbs, t5, t6, t7, c1, hne, hbb, e2, e3, d1, d2, d3, d4, Fin, isEnd, resL, res1, iE, rE]
              first | exact ⟨_, rfl, rfl, hh⟩ | exact ⟨_, rfl, rfl, fun k hk => by simp only [ne_nb hk, if_false]; exact hh k hk⟩
            · have d3 := tr l3 q3
              simp only [↓R0, R1, simprocAttr, -Int.reduceAbs, t5, t6, t7, c1, hne, hbb, e2, e3, d1, d2, d3, Fin, isEnd, resL, res1, iE, rE]
              first | exact ⟨_, rfl, rfl, hh⟩ | exact ⟨_, rfl, rfl, fun k hk => by simp only [ne_nb hk, if_false]; exact hh k hk⟩
          · have d2 := tr l2 q2
            simp only [↓R0, R1, simprocAttr, -Int.reduceAbs, t5, t6, t7, c1, hne, hbb, e2, e3, d1, d2, Fin, isEnd, resL, res1, iE, rE]
            first | exact ⟨_, rfl, rfl, hh⟩ | exact ⟨_, rfl, rfl, fun k hk => by simp only [ne_nb hk, if_false]; exact hh k hk⟩
        · have d1 := tr l1 q1
          simp only [↓R0, R1, simprocAttr, -Int.reduceAbs, t5, t6, t7, c1, hne, hbb, e2, e3, d1, Fin, isEnd, resL, res1, iE, rE]
          first | exact ⟨_, rfl, rfl, hh⟩ | exact ⟨_, rfl, rfl, fun k hk => by simp only [ne_nb hk, if_false]; exact hh k hk⟩
    · have ei : i = len := by omega
      subst ei
      rw [if_pos hall]
      simp only [↓R0, R1, simprocAttr, -Int.reduceAbs, t5, t6, t7, c1, Fin, isEnd, resL, res1, iE, rE]
      first | exact ⟨_, rfl, rfl, hh⟩ | exact ⟨_, rfl, rfl, fun k hk => by simp only [ne_nb hk, if_false]; exact hh k hk⟩
  · (first | (simp only [↓R0, R1, simprocAttr, -Int.reduceAbs]; done) | (simp only [↓R0, R1, simprocAttr, -Int.reduceAbs]; rfl) | rfl)
  · (first | (simp only [↓R0, R1, simprocAttr, -Int.reduceAbs]; done) | (simp only [↓R0, R1, simprocAttr, -Int.reduceAbs]; rfl) | rfl)
  · (first | (simp only [↓R0, R1, simprocAttr, -Int.reduceAbs]; done) | (simp only [↓R0, R1, simprocAttr, -Int.reduceAbs]; rfl) | rfl)
end Go.Eng
end
section
set_option linter.unusedVariables false
set_option linter.unusedSimpArgs false
set_option linter.unusedSectionVars false
set_option maxRecDepth 20000
namespace Go.Eng
open Go Go.Proofs Go.IntWalk
end Go.Eng
end
section
set_option linter.unusedVariables false
set_option linter.unusedSimpArgs false
set_option linter.unusedSectionVars false
namespace Go.Eng
theorem pW_pW (w : Int) : pW (pW w) = pW w := pW_of (pW_ne w)
theorem pE_pW (x y z w : Int) : pE x y z (pW w) = pE x y z w := by
  unfold pE pQ pG; rw [pW_pW]
theorem pE_idem (x y z w : Int) : pE (pQ x y z w x) (pQ x y z w y) (pQ x y z w z) (pQ x y z w (pW w)) = pE x y z w := by
  rw [← pE_pW x y z w]
  have h1 := pQ_mul (pG_dvd_x x y z w)
  have h2 := pQ_mul (pG_dvd_y x y z w)
  have h3 := pQ_mul (pG_dvd_z x y z w)
  have h4 := pQ_mul (pG_dvd_w x y z w)
  have hp := pQ_pos x y z w
  have hw := pW_ne w
  have hg := pG_pos x y z w
  have hg' : (pG x y z w : Int) ≠ 0 := by omega
  generalize (pG x y z w : Int) = g at *
  generalize pQ x y z w x = X at *
  generalize pQ x y z w y = Y at *
  generalize pQ x y z w z = Z at *
  generalize pQ x y z w (pW w) = W at *
  generalize pW w = v at *
  have key : ∀ {A a : Int}, A * g = (if v < 0 then -a else a) → A * v = a * W := by
    intro A a h
    apply Int.eq_of_mul_eq_mul_right hg'
    by_cases c : v < 0
    · rw [if_pos c] at h h4; grind
    · rw [if_neg c] at h h4; grind
  exact pE_eq (by omega) hw (key h1) (key h2) (key h3)
namespace Pt
def of (a b c d : Int) : Pt := ⟨decide (a < 0), bl a.natAbs, decide (b < 0), bl b.natAbs, decide (c < 0), bl c.natAbs, decide (d < 0), bl d.natAbs⟩
theorem of_x (a b c d : Int) : (of a b c d).x = a := sv_can a
theorem of_y (a b c d : Int) : (of a b c d).y = b := sv_can b
theorem of_z (a b c d : Int) : (of a b c d).z = c := sv_can c
theorem of_w (a b c d : Int) : (of a b c d).w = d := sv_can d
def can (p : Pt) : Prop := 0 < p.w ∧ pE p.x p.y p.z p.w = p.cells
theorem can_of (x y z w : Int) : can (of (pQ x y z w x) (pQ x y z w y) (pQ x y z w z) (pQ x y z w (pW w))) := by
  unfold can
  rw [of_x, of_y, of_z, of_w]
  exact ⟨pQ_pos x y z w, by rw [pE_idem]; rfl⟩
theorem can_eq {p q : Pt} (hp : p.can) (hq : q.can) (h : cmp p q = 0) : p = q := by
  have h1 := hp.1
  have h2 := hq.1
  have e := cmp4_zero h
  have c : p.cells = q.cells := by
    rw [← hp.2, ← hq.2]
    exact pE_eq (by omega) (by omega) e.1 e.2.1 e.2.2
  obtain ⟨s1, l1, s2, l2, s3, l3, s4, l4⟩ := p
  obtain ⟨t1, m1, t2, m2, t3, m3, t4, m4⟩ := q
  unfold cells at c
  simp only [List.cons.injEq, Value.bool.injEq, Value.string.injEq, and_true] at c
  obtain ⟨c1, d1, c2, d2, c3, d3, c4, d4⟩ := c
  injection d1 with d1; injection d1 with d1
  injection d2 with d2; injection d2 with d2
  injection d3 with d3; injection d3 with d3
  injection d4 with d4; injection d4 with d4
  subst c1 c2 c3 c4 d1 d2 d3 d4
  rfl
end Pt
end Go.Eng
end
section
set_option linter.unusedVariables false
set_option linter.unusedSimpArgs false
set_option linter.unusedSectionVars false
set_option maxRecDepth 20000
namespace Go.Eng
open Go Go.Proofs Go.IntWalk
theorem xOver_pt {p q r t : Pt} (hp : p.ok) (hq : q.ok) (hr : r.ok) (ht : t.ok) : spXOver [.agg ⟨p.cells⟩, .agg ⟨q.cells⟩, .agg ⟨r.cells⟩, .agg ⟨t.cells⟩] = some (ovE (Pt.over p q r t)) := by
  unfold spXOver Pt.cells
  exact if_pos ⟨hp, hq, hr, ht⟩
end Go.Eng
end
section
set_option linter.unusedVariables false
set_option linter.unusedSimpArgs false
set_option linter.unusedSectionVars false
set_option maxRecDepth 8000
namespace Go.Eng
open Go Go.Proofs Go.IntWalk
def spQParts : List Value → Option Value
  | [.agg ⟨[.bool s, .string ⟨⟨n⟩⟩, .string ⟨⟨d⟩⟩]⟩] => if n.length ≤ 1099511627776 ∧ d.length ≤ 1099511627776 then some (.tuple ⟨[.agg ⟨iE (sv s n)⟩, .agg ⟨iE (dv d)⟩]⟩) else none
  | _ => none
def c115 : ICode :=
  (.seq (.reg [qq 1 (.box 47 3 (.t 0)), qq 2 (.alloc 23 2 [(.bool false), e0]), qq 3 (.alloc 23 2 [(.bool false), e0])]) (.seq (.reg [qq 5 (.faddr 2 (.t 1)), qq 6 (.load false 1 (.t 5)), qq 7 (.call 108 [(.t 6)]), qq 8 (.build [(.bool false), e0] [(1, 1, (.t 7))]), qq 4 (.alloc 23 2 [(.bool false), e0]), qn (.store 2 (.t 4) (.t 8))]) (.seq (.seq (.reg [qq 9 (.faddr 1 (.t 4)), qq 10 (.load false 1 (.t 9)), qq 11 (.bin .eql (.t 10) (.c e0))]) (.cond (.t 11) (.reg [qq 12 (.call 26 [(ci 1)]), qn (.store 2 (.t 4) (.t 12))]) .skip)) (.seq (.dreg [qu 13 (.faddr 0 (.t 1)), qu 14 (.load false 1 (.t 13)), qu 15 (.faddr 1 (.t 1)), qu 16 (.load false 1 (.t 15)), qu 17 (.build [(.bool false), e0] [(0, 1, (.t 14)), (1, 1, (.t 16))]), qu 18 (.call 78 [(.t 17)]), qv 19 [5] (.load true 2 (.t 4)), ⟨none, none, [1006], (.store 2 (.t 2) (.t 18))⟩, qm (.store 2 (.t 3) (.t 19))]) .ret))))
theorem tr115 : trFun Tryz.prog 115 = some ⟨20, [.cell 2 true 2, .cell 3 true 2], c115⟩ := by kernel_rfl
theorem ok_qParts : SpecOK Tryz.prog 115 (flat spQParts) := by
  refine flat_run (env_cons ok_nNorm (env_cons ok_iFrom (env_cons ok_iNorm (env_nil _)))) mixed tr115 ?_
  intro args v h N hG
  unfold spQParts at hG
  split at hG
  case h_2 => cases hG
  rename_i s n d
  split at hG
  case isFalse => cases hG
  rename_i hl
  obtain ⟨h1, h2⟩ := hl
  cases hG
  refine ⟨rfl, by simp, ?_⟩
  by_cases h0 : nl d = 0
  · have e1 : bl (nl d) = [] := by rw [h0, bl_zero]
    have e2 : dv d = 1 := by unfold dv; rw [if_pos h0]
    simp only [c115, G0, Nat.reduceAdd]
    simp only [↓R0, R1, simprocAttr, -Int.reduceAbs, spNNorm, h1, h2, e1, e2, spIFrom, spINorm, iE, Fin, isEnd, resL, res1, iE, rE]
    exact ⟨_, rfl, rfl, fun k hk => by simp only [ne_nb hk, if_false]⟩
  · have e1 : (bl (nl d) = []) = False := eq_false (fun e => h0 (bl_eq_nil.1 e))
    have e2 : dv d = (nl d : Int) := by unfold dv; rw [if_neg h0]
    have e3 : ¬ ((nl d : Int) < 0) := by omega
    simp only [c115, G0, Nat.reduceAdd]
    simp only [↓R0, R1, simprocAttr, -Int.reduceAbs, spNNorm, h1, h2, e1, e2, e3, spIFrom, spINorm, iE, Int.natAbs_natCast, Fin, isEnd, resL, res1, iE, rE]
    exact ⟨_, rfl, rfl, fun k hk => by simp only [ne_nb hk, if_false]⟩
def spQLeast : List Value → Heap → Option Value
  | [.string ⟨⟨l⟩⟩, .pointer (some ⟨k, 0, none⟩)], h => match hget h k with
    | some ⟨_, _, _, [.string ⟨⟨m⟩⟩]⟩ => if l.length ≤ 34359738368 ∧ m.length ≤ 34359738368 ∧ nl m ≠ 0 then some (.string ⟨⟨bl (nl l / nl m)⟩⟩) else none
    | _ => none
  | _, _ => none
def c67 : ICode :=
  (.seq (.reg [qq 3 (.mv (.c e0))]) (.seq (.reg [qq 8 (.mv (.t 0)), qq 9 (.load false 1 (.t 1)), qq 10 (.call 68 [(.t 8), (.t 9)]), qq 7 (.mv (.t 10)), qq 11 (.ext (.t 7) 0), qq 12 (.ext (.t 7) 1), qq 13 (.ext (.t 7) 2), qq 4 (.mv (.t 11)), qq 5 (.mv (.t 12)), qq 6 (.mv (.t 13))]) (.seq (.reg [qq 14 (.mv (.t 4)), qq 3 (.mv (.t 14))]) .ret)))
theorem tr67 : trFun Tryz.prog 67 = some ⟨15, [.t 3], c67⟩ := by kernel_rfl
theorem ok_qLeast : SpecOK Tryz.prog 67 (rdS spQLeast) := by
  refine rd_run (env_cons ok_nDiv (env_nil _)) mixed tr67 ?_ ?_
  · intro args h h' v hle e
    unfold spQLeast at e ⊢
    split at e
    · split at e
      · rename_i b1
        simp only [hle _ _ b1]; exact e
      · cases e
    · cases e
  intro args v h N hG hN
  unfold spQLeast at hG
  split at hG
  case h_2 => cases hG
  rename_i l k
  split at hG
  case h_2 => cases hG
  rename_i e1 z1 x1 m hb1
  split at hG
  case isFalse => cases hG
  rename_i hl
  obtain ⟨h1, h2, h3⟩ := hl
  have h4 := eq_false h3
  cases hG
  refine ⟨rfl, by simp, ?_⟩
  simp only [c67, G0, Nat.reduceAdd]
  simp only [↓R0, R1, simprocAttr, -Int.reduceAbs, hb1, spNDiv, h1, h2, h4, Fin, isEnd, resL, res1, iE, rE]
  exact ⟨_, rfl, rfl, fun k hk => by simp only [ne_nb hk, if_false]⟩
def spQMake : List Value → Option Value
  | [.agg ⟨[.bool s, .string ⟨⟨l⟩⟩]⟩, .agg ⟨[.bool t, .string ⟨⟨m⟩⟩]⟩] => if l.length ≤ 34359738368 ∧ m.length ≤ 34359738368 then
      (if nl m = 0 then some (.tuple ⟨[.agg ⟨[.bool false, .string ⟨⟨[]⟩⟩, .string ⟨⟨[]⟩⟩]⟩, .bool false]⟩) else
        some (.tuple ⟨[.agg ⟨rE (Rat.divInt (sv s l) (sv t m))⟩, .bool true]⟩)) else none
  | _ => none
def c25 : ICode :=
  (.seq (.reg [qq 2 (.box 23 2 (.t 0)), qq 3 (.box 23 2 (.t 1)), qq 4 (.alloc 47 3 [(.bool false), e0, e0]), qq 5 (.mv (.c (.bool false)))]) (.seq (.seq (.reg [qq 9 (.load true 2 (.t 3)), qq 10 (.call 65 [(.t 9)]), qq 11 (.bin .eql (.t 10) (ci 0))]) (.cond (.t 11) (.seq (.reg [qq 12 (.build [(.bool false), e0, e0] []), qn (.store 3 (.t 4) (.t 12)), qq 5 (.mv (.c (.bool false)))]) .ret) .skip)) (.seq (.seq (.reg [qq 13 (.load true 2 (.t 2)), qq 14 (.call 65 [(.t 13)]), qq 15 (.bin .eql (.t 14) (ci 0))]) (.cond (.t 15) (.seq (.reg [qq 16 (.build [(.bool false), e0, e0] []), qn (.store 3 (.t 4) (.t 16)), qq 5 (.mv (.c (.bool true)))]) .ret) .skip)) (.seq (.reg [qq 17 (.faddr 1 (.t 2)), qq 18 (.load false 1 (.t 17)), qq 19 (.faddr 1 (.t 3)), qq 20 (.load false 1 (.t 19)), qq 21 (.call 66 [(.t 18), (.t 20)]), qq 6 (.alloc 9 1 [e0]), qn (.store 1 (.t 6) (.t 21))]) (.seq (.reg [qq 22 (.mkfn 67 [(.t 6)]), qq 7 (.mv (.t 22))]) (.seq (.dreg [qu 23 (.faddr 0 (.t 2)), qu 24 (.load false 1 (.t 23)), qu 25 (.faddr 0 (.t 3)), qu 26 (.load false 1 (.t 25)), qu 27 (.eqb true (.t 24) (.t 26)), qu 28 (.mv (.t 7)), qu 29 (.faddr 1 (.t 2)), qu 30 (.load false 1 (.t 29)), qu 31 (.callv (.t 28) [(.t 30)]), qu 32 (.mv (.t 7)), qu 33 (.faddr 1 (.t 3)), qv 34 [8] (.load false 1 (.t 33)), qu 35 (.callv (.t 32) [(.t 34)]), qu 36 (.build [(.bool false), e0, e0] [(0, 1, (.t 27)), (1, 1, (.t 31)), (2, 1, (.t 35))]), qu 8 (.alloc 47 3 [(.bool false), e0, e0]), qm (.store 3 (.t 8) (.t 36))]) (.seq (.seq (.reg [qq 37 (.faddr 2 (.t 8)), qq 38 (.load false 1 (.t 37)), qq 39 (.bin .eql (.t 38) (.c (.string ⟨⟨[1]⟩⟩)))]) (.cond (.t 39) (.reg [qq 40 (.faddr 2 (.t 8)), qn (.store 1 (.t 40) (.c e0))]) .skip)) (.seq (.reg [qq 41 (.load true 3 (.t 8)), qn (.store 3 (.t 4) (.t 41)), qq 5 (.mv (.c (.bool true)))]) .ret))))))))
theorem tr25 : trFun Tryz.prog 25 = some ⟨42, [.cell 4 true 3, .t 5], c25⟩ := by kernel_rfl
theorem sv_neg_iff {s : Bool} {l : List UInt8} (h : nl l ≠ 0) : decide (sv s l < 0) = s := by
  unfold sv; cases s <;> simp <;> omega
set_option maxHeartbeats 1000000 in
theorem ok_qMake : SpecOK Tryz.prog 25 (flat spQMake) := by
  refine flat_run (env_cons ok_iSign (env_cons ok_nGcd (env_cons ok_qLeast (env_nil _)))) mixed tr25 ?_
  intro args v h N hG
  unfold spQMake at hG
  split at hG
  case h_2 => cases hG
  rename_i s l t m
  split at hG
  case isFalse => cases hG
  rename_i hl
  obtain ⟨hl, hm⟩ := hl
  have l2 : l.length ≤ 1099511627776 := by omega
  have m2 : m.length ≤ 1099511627776 := by omega
  split at hG
  · rename_i h0
    have e0 : sv t m = 0 := (sv_eq_zero t m).2 h0
    cases hG
    refine ⟨rfl, by simp, ?_⟩
    simp only [c25, G0, Nat.reduceAdd]
    simp only [↓R0, R1, simprocAttr, -Int.reduceAbs, spISign, l2, m2, e0, Int.sign_zero, Fin, isEnd, resL, res1, iE, rE]
    exact ⟨_, rfl, rfl, fun k hk => by simp only [ne_nb hk, if_false]⟩
  rename_i h0
  have hD : sv t m ≠ 0 := fun e => h0 ((sv_eq_zero t m).1 e)
  have hD' : ((sv t m).sign = 0) = False := eq_false (fun e => hD (Int.sign_eq_zero_iff_zero.1 e))
  by_cases hn : nl l = 0
  · have e0 : sv s l = 0 := (sv_eq_zero s l).2 hn
    have rz : rE 0 = [.bool false, .string ⟨⟨[]⟩⟩, .string ⟨⟨[]⟩⟩] := by simp [rE, bl_zero]
    rw [e0, Rat.zero_divInt, rz] at hG
    cases hG
    refine ⟨rfl, by simp, ?_⟩
    simp only [c25, G0, Nat.reduceAdd]
    simp only [↓R0, R1, simprocAttr, -Int.reduceAbs, spISign, l2, m2, e0, hD', Int.sign_zero, Fin, isEnd, resL, res1, iE, rE]
    exact ⟨_, rfl, rfl, fun k hk => by simp only [ne_nb hk, if_false]⟩
  have hN : sv s l ≠ 0 := fun e => hn ((sv_eq_zero s l).1 e)
  have hN' : ((sv s l).sign = 0) = False := eq_false (fun e => hN (Int.sign_eq_zero_iff_zero.1 e))
  cases hG
  refine ⟨rfl, by simp, ?_⟩
  obtain ⟨d1, d2, d3⟩ := divInt_cells (N := sv s l) hD
  rw [sv_natAbs, sv_natAbs] at d1 d2
  have hst : decide ((Rat.divInt (sv s l) (sv t m)).num < 0) = decide (s ≠ t) := by
    rw [Bool.eq_iff_iff]
    simp only [decide_eq_true_eq, d3, sv_neg_iff hn, sv_neg_iff h0, and_iff_left hN]
  unfold rE
  rw [hst, d1, d2]
  clear hst d1 d2 d3
  have hG0 : 0 < (nl l).gcd (nl m) := Nat.gcd_pos_of_pos_right _ (by omega)
  have lG : (bl ((nl l).gcd (nl m))).length ≤ 34359738368 := Nat.le_trans (bl_length_mono (Nat.gcd_le_right _ (by omega))) (Nat.le_trans (bl_length_nl m) hm)
  generalize hGG : (nl l).gcd (nl m) = G at *
  have f2 : ¬ (G = 0) := by omega
  have f10 : (bl (nl m / G) = [1]) = (nl m / G = 1) := propext ⟨fun e => bl_inj (e.trans (by decide +kernel : ([1] : List UInt8) = bl 1)), fun e => by rw [e]; decide +kernel⟩
  simp only [c25, G0, Nat.reduceAdd]
  simp only [↓R0, R1, simprocAttr, -Int.reduceAbs, spISign, l2, m2, hD', hN', spNGcd, hl, hm, hGG, rdS, callF, spQLeast, nl_bl, lG, f2, f10]
  by_cases c3 : nl m / G = 1
  · simp only [↓R0, R1, simprocAttr, -Int.reduceAbs, c3, Fin, isEnd, resL, res1, iE, rE]
    exact ⟨_, rfl, rfl, fun k hk => by simp only [ne_nb hk, if_false]⟩
  · simp only [↓R0, R1, simprocAttr, -Int.reduceAbs, c3, Fin, isEnd, resL, res1, iE, rE]
    exact ⟨_, rfl, rfl, fun k hk => by simp only [ne_nb hk, if_false]⟩
def c116 : ICode :=
  (.seq (.reg [qq 2 (.box 23 2 (.t 0)), qq 3 (.box 23 2 (.t 1)), qq 4 (.alloc 47 3 [(.bool false), e0, e0])]) (.seq (.reg [qq 8 (.load true 2 (.t 2)), qq 9 (.load true 2 (.t 3)), qq 10 (.call 25 [(.t 8), (.t 9)]), qq 7 (.mv (.t 10)), qq 11 (.ext (.t 7) 0), qq 12 (.ext (.t 7) 1), qq 5 (.alloc 47 3 [(.bool false), e0, e0]), qn (.store 3 (.t 5) (.t 11)), qq 6 (.mv (.t 12))]) (.seq (.reg [qq 13 (.load true 3 (.t 5)), qn (.store 3 (.t 4) (.t 13))]) .ret)))
theorem tr116 : trFun Tryz.prog 116 = some ⟨14, [.cell 4 true 3], c116⟩ := by kernel_rfl
def spQMade : List Value → Option Value
  | [.agg ⟨[.bool s, .string ⟨⟨l⟩⟩]⟩, .agg ⟨[.bool t, .string ⟨⟨m⟩⟩]⟩] => if l.length ≤ 34359738368 ∧ m.length ≤ 34359738368 ∧ nl m ≠ 0 then
      some (.agg ⟨rE (Rat.divInt (sv s l) (sv t m))⟩) else none
  | _ => none
theorem ok_qMade : SpecOK Tryz.prog 116 (flat spQMade) := by
  refine flat_run (env_cons ok_qMake (env_nil _)) mixed tr116 ?_
  intro args v h N hG
  unfold spQMade at hG
  split at hG
  case h_2 => cases hG
  rename_i s l t m
  split at hG
  case isFalse => cases hG
  rename_i hl
  obtain ⟨h1, h2, h3⟩ := hl
  have h4 := eq_false h3
  cases hG
  refine ⟨rfl, by simp, ?_⟩
  simp only [c116, G0, Nat.reduceAdd]
  simp only [↓R0, R1, simprocAttr, -Int.reduceAbs, spQMake, h1, h2, h4, Fin, isEnd, resL, res1, iE, rE]
  exact ⟨_, rfl, rfl, fun k hk => by simp only [ne_nb hk, if_false]⟩
def spQNorm : List Value → Option Value
  | [.agg ⟨[.bool s, .string ⟨⟨n⟩⟩, .string ⟨⟨d⟩⟩]⟩] => if n.length ≤ 17179869184 ∧ d.length ≤ 17179869184 then some (.agg ⟨rE (rv s n d)⟩) else none
  | _ => none
def c146 : ICode :=
  (.seq (.reg [qq 1 (.box 47 3 (.t 0)), qq 2 (.alloc 47 3 [(.bool false), e0, e0])]) (.seq (.reg [qq 3 (.load true 3 (.t 1)), qq 4 (.call 115 [(.t 3)]), qq 5 (.ext (.t 4) 0), qq 6 (.ext (.t 4) 1), qq 7 (.call 116 [(.t 5), (.t 6)]), qn (.store 3 (.t 2) (.t 7))]) .ret))
theorem tr146 : trFun Tryz.prog 146 = some ⟨8, [.cell 2 true 3], c146⟩ := by kernel_rfl
theorem ok_qNorm : SpecOK Tryz.prog 146 (flat spQNorm) := by
  refine flat_run (env_cons ok_qParts (env_cons ok_qMade (env_nil _))) mixed tr146 ?_
  intro args v h N hG
  unfold spQNorm at hG
  split at hG
  case h_2 => cases hG
  rename_i s n d
  split at hG
  case isFalse => cases hG
  rename_i hl
  obtain ⟨h1, h2⟩ := hl
  cases hG
  refine ⟨rfl, by simp, ?_⟩
  have n2 : n.length ≤ 1099511627776 := by omega
  have d2 : d.length ≤ 1099511627776 := by omega
  have n3 : (bl (sv s n).natAbs).length ≤ 34359738368 := by rw [sv_natAbs]; exact Nat.le_trans (bl_length_nl n) (by omega)
  have d3 : (bl (dv d).natAbs).length ≤ 34359738368 := Nat.le_trans (bl_dv d) (by omega)
  have d4 := dv_nl d
  unfold rv
  simp only [c146, G0, Nat.reduceAdd]
  simp only [↓R0, R1, simprocAttr, -Int.reduceAbs, spQParts, n2, d2, spQMade, n3, d3, d4, nl_bl, Fin, isEnd, resL, res1, iE, rE]
  exact ⟨_, rfl, rfl, fun k hk => by simp only [ne_nb hk, if_false]⟩
end Go.Eng
end
section
set_option linter.unusedVariables false
set_option linter.unusedSimpArgs false
set_option linter.unusedSectionVars false
set_option maxRecDepth 8000
namespace Go.Eng
open Go Go.Proofs Go.IntWalk
theorem sv_one' : sv false (bl (Int.natAbs 1)) = 1 := by rw [sv_false, nl_bl]; rfl
def spQNeg : List Value → Option Value
  | [.agg ⟨[.bool s, .string ⟨⟨n⟩⟩, .string ⟨⟨d⟩⟩]⟩] => if n.length ≤ 17179869184 ∧ d.length ≤ 17179869184 then some (.agg ⟨rE (- rv s n d)⟩) else none
  | _ => none
def c118 : ICode :=
  (.seq (.reg [qq 1 (.box 47 3 (.t 0)), qq 2 (.alloc 47 3 [(.bool false), e0, e0])]) (.seq (.reg [qq 6 (.load true 3 (.t 1)), qq 7 (.call 115 [(.t 6)]), qq 5 (.mv (.t 7)), qq 8 (.ext (.t 5) 0), qq 9 (.ext (.t 5) 1), qq 3 (.alloc 23 2 [(.bool false), e0]), qq 4 (.alloc 23 2 [(.bool false), e0]), qn (.store 2 (.t 3) (.t 8)), qn (.store 2 (.t 4) (.t 9))]) (.seq (.dreg [qu 10 (.load true 2 (.t 3)), qu 11 (.call 97 [(.t 10)]), qv 12 [1] (.load true 2 (.t 4)), qu 13 (.call 116 [(.t 11), (.t 12)]), qm (.store 3 (.t 2) (.t 13))]) .ret)))
theorem tr118 : trFun Tryz.prog 118 = some ⟨14, [.cell 2 true 3], c118⟩ := by kernel_rfl
theorem ok_qNeg : SpecOK Tryz.prog 118 (flat spQNeg) := by
  refine flat_run (env_cons ok_qParts (env_cons ok_iNeg (env_cons ok_qMade (env_nil _)))) mixed tr118 ?_
  intro args v h N hG
  unfold spQNeg at hG
  split at hG
  case h_2 => cases hG
  rename_i s n d
  split at hG
  case isFalse => cases hG
  rename_i hl
  obtain ⟨h1, h2⟩ := hl
  cases hG
  refine ⟨rfl, by simp, ?_⟩
  have n2 : n.length ≤ 1099511627776 := by omega
  have d2 : d.length ≤ 1099511627776 := by omega
  have n3 : (bl (sv s n).natAbs).length ≤ 1099511627776 := by rw [sv_natAbs]; exact Nat.le_trans (bl_length_nl n) (by omega)
  have n4 : (bl (-sv s n).natAbs).length ≤ 34359738368 := by rw [Int.natAbs_neg, sv_natAbs]; exact Nat.le_trans (bl_length_nl n) (by omega)
  have d3 : (bl (dv d).natAbs).length ≤ 34359738368 := Nat.le_trans (bl_dv d) (by omega)
  have d4 := dv_nl d
  unfold rv
  rw [Rat.neg_divInt]
  simp only [c118, G0, Nat.reduceAdd]
  simp only [↓R0, R1, simprocAttr, -Int.reduceAbs, spQParts, spINeg, spQMade, n2, d2, n3, n4, d3, d4, iE, nl_bl, Fin, isEnd, resL, res1, iE, rE]
  exact ⟨_, rfl, rfl, fun k hk => by simp only [ne_nb hk, if_false]⟩
def spQAdd : List Value → Option Value
  | [.agg ⟨[.bool s, .string ⟨⟨n⟩⟩, .string ⟨⟨d⟩⟩]⟩, .agg ⟨[.bool t, .string ⟨⟨m⟩⟩, .string ⟨⟨e⟩⟩]⟩] => if n.length ≤ 8589934592 ∧ d.length ≤ 8589934592 ∧ m.length ≤ 8589934592 ∧ e.length ≤ 8589934592 then some (.agg ⟨rE (rv s n d + rv t m e)⟩) else none
  | _ => none
def c117 : ICode :=
  (.seq (.reg [qq 2 (.box 47 3 (.t 0)), qq 3 (.box 47 3 (.t 1)), qq 4 (.alloc 47 3 [(.bool false), e0, e0])]) (.seq (.reg [qq 10 (.load true 3 (.t 2)), qq 11 (.call 115 [(.t 10)]), qq 9 (.mv (.t 11)), qq 12 (.ext (.t 9) 0), qq 13 (.ext (.t 9) 1), qq 5 (.alloc 23 2 [(.bool false), e0]), qq 6 (.alloc 23 2 [(.bool false), e0]), qn (.store 2 (.t 5) (.t 12)), qn (.store 2 (.t 6) (.t 13))]) (.seq (.reg [qq 15 (.load true 3 (.t 3)), qq 16 (.call 115 [(.t 15)]), qq 14 (.mv (.t 16)), qq 17 (.ext (.t 14) 0), qq 18 (.ext (.t 14) 1), qq 7 (.alloc 23 2 [(.bool false), e0]), qq 8 (.alloc 23 2 [(.bool false), e0]), qn (.store 2 (.t 7) (.t 17)), qn (.store 2 (.t 8) (.t 18))]) (.seq (.dreg [qu 19 (.load true 2 (.t 5)), qu 20 (.load true 2 (.t 8)), qu 21 (.call 35 [(.t 19), (.t 20)]), qv 22 [2] (.load true 2 (.t 7)), qv 23 [2] (.load true 2 (.t 6)), qu 24 (.call 35 [(.t 22), (.t 23)]), qu 25 (.call 34 [(.t 21), (.t 24)]), qv 26 [2, 5, 6] (.load true 2 (.t 6)), qv 27 [2, 5, 6] (.load true 2 (.t 8)), qu 28 (.call 35 [(.t 26), (.t 27)]), qu 29 (.call 116 [(.t 25), (.t 28)]), qm (.store 3 (.t 4) (.t 29))]) .ret))))
theorem tr117 : trFun Tryz.prog 117 = some ⟨30, [.cell 4 true 3], c117⟩ := by kernel_rfl
theorem ok_qAdd : SpecOK Tryz.prog 117 (flat spQAdd) := by
  refine flat_run (env_cons ok_qParts (env_cons ok_iMul (env_cons ok_iAdd (env_cons ok_qMade (env_nil _))))) mixed tr117 ?_
  intro args v h N hG
  unfold spQAdd at hG
  split at hG
  case h_2 => cases hG
  rename_i s n d t m e
  split at hG
  case isFalse => cases hG
  rename_i hl
  obtain ⟨h1, h2, h3, h4⟩ := hl
  have n2 : n.length ≤ 1099511627776 := by omega
  have d2 : d.length ≤ 1099511627776 := by omega
  have m2 : m.length ≤ 1099511627776 := by omega
  have e2 : e.length ≤ 1099511627776 := by omega
  have n3 := len_sv (s := s) h1
  have m3 := len_sv (s := t) h3
  have d3 : (bl (dv d).natAbs).length ≤ 8589934593 := len_dv (by omega)
  have e3 : (bl (dv e).natAbs).length ≤ 8589934593 := len_dv (by omega)
  have n4 := Nat.le_trans n3 (by omega : 8589934592 ≤ 34359738368)
  have m4 := Nat.le_trans m3 (by omega : 8589934592 ≤ 34359738368)
  have d4 := Nat.le_trans d3 (by omega : 8589934593 ≤ 34359738368)
  have e4 := Nat.le_trans e3 (by omega : 8589934593 ≤ 34359738368)
  have q1 := len_mul n3 e3
  have q2 := len_mul m3 d3
  have q3 : (bl (dv d * dv e).natAbs).length ≤ 34359738368 := Nat.le_trans (len_mul d3 e3) (by omega)
  have q4 : ¬ (dv d * dv e).natAbs = 0 := by have := Int.mul_pos (dv_pos d) (dv_pos e); omega
  have q5 : (bl (sv s n * dv e + sv t m * dv d).natAbs).length ≤ 34359738368 := Nat.le_trans (len_add q1 q2) (by omega)
  have q6 : (bl (sv s n * dv e).natAbs).length ≤ 68719476736 := Nat.le_trans q1 (by omega)
  have q7 : (bl (sv t m * dv d).natAbs).length ≤ 68719476736 := Nat.le_trans q2 (by omega)
  unfold rv at hG
  rw [Rat.divInt_add_divInt _ _ (by have := dv_pos d; omega) (by have := dv_pos e; omega)] at hG
  cases hG
  refine ⟨rfl, by simp, ?_⟩
  simp only [c117, G0, Nat.reduceAdd]
  simp only [↓R0, R1, simprocAttr, -Int.reduceAbs, spQParts, spIMul, spIAdd, spQMade, n2, d2, m2, e2, n4, m4, d4, e4, q3, q4, q5, q6, q7, nl_bl, Fin, isEnd, resL, res1, iE, rE]
  exact ⟨_, rfl, rfl, fun k hk => by simp only [ne_nb hk, if_false]⟩
def spQMul : List Value → Option Value
  | [.agg ⟨[.bool s, .string ⟨⟨n⟩⟩, .string ⟨⟨d⟩⟩]⟩, .agg ⟨[.bool t, .string ⟨⟨m⟩⟩, .string ⟨⟨e⟩⟩]⟩] => if n.length ≤ 8589934592 ∧ d.length ≤ 8589934592 ∧ m.length ≤ 8589934592 ∧ e.length ≤ 8589934592 then some (.agg ⟨rE (rv s n d * rv t m e)⟩) else none
  | _ => none
def c72 : ICode :=
  (.seq (.reg [qq 2 (.box 47 3 (.t 0)), qq 3 (.box 47 3 (.t 1)), qq 4 (.alloc 47 3 [(.bool false), e0, e0])]) (.seq (.reg [qq 10 (.load true 3 (.t 2)), qq 11 (.call 115 [(.t 10)]), qq 9 (.mv (.t 11)), qq 12 (.ext (.t 9) 0), qq 13 (.ext (.t 9) 1), qq 5 (.alloc 23 2 [(.bool false), e0]), qq 6 (.alloc 23 2 [(.bool false), e0]), qn (.store 2 (.t 5) (.t 12)), qn (.store 2 (.t 6) (.t 13))]) (.seq (.reg [qq 15 (.load true 3 (.t 3)), qq 16 (.call 115 [(.t 15)]), qq 14 (.mv (.t 16)), qq 17 (.ext (.t 14) 0), qq 18 (.ext (.t 14) 1), qq 7 (.alloc 23 2 [(.bool false), e0]), qq 8 (.alloc 23 2 [(.bool false), e0]), qn (.store 2 (.t 7) (.t 17)), qn (.store 2 (.t 8) (.t 18))]) (.seq (.dreg [qu 19 (.load true 2 (.t 5)), qu 20 (.load true 2 (.t 7)), qu 21 (.call 35 [(.t 19), (.t 20)]), qv 22 [2] (.load true 2 (.t 6)), qv 23 [2] (.load true 2 (.t 8)), qu 24 (.call 35 [(.t 22), (.t 23)]), qu 25 (.call 116 [(.t 21), (.t 24)]), qm (.store 3 (.t 4) (.t 25))]) .ret))))
theorem tr72 : trFun Tryz.prog 72 = some ⟨26, [.cell 4 true 3], c72⟩ := by kernel_rfl
theorem ok_qMul : SpecOK Tryz.prog 72 (flat spQMul) := by
  refine flat_run (env_cons ok_qParts (env_cons ok_iMul (env_cons ok_qMade (env_nil _)))) mixed tr72 ?_
  intro args v h N hG
  unfold spQMul at hG
  split at hG
  case h_2 => cases hG
  rename_i s n d t m e
  split at hG
  case isFalse => cases hG
  rename_i hl
  obtain ⟨h1, h2, h3, h4⟩ := hl
  have n2 : n.length ≤ 1099511627776 := by omega
  have d2 : d.length ≤ 1099511627776 := by omega
  have m2 : m.length ≤ 1099511627776 := by omega
  have e2 : e.length ≤ 1099511627776 := by omega
  have n3 := len_sv (s := s) h1
  have m3 := len_sv (s := t) h3
  have d3 : (bl (dv d).natAbs).length ≤ 8589934593 := len_dv (by omega)
  have e3 : (bl (dv e).natAbs).length ≤ 8589934593 := len_dv (by omega)
  have n4 := Nat.le_trans n3 (by omega : 8589934592 ≤ 34359738368)
  have m4 := Nat.le_trans m3 (by omega : 8589934592 ≤ 34359738368)
  have d4 := Nat.le_trans d3 (by omega : 8589934593 ≤ 34359738368)
  have e4 := Nat.le_trans e3 (by omega : 8589934593 ≤ 34359738368)
  have q1 : (bl (sv s n * sv t m).natAbs).length ≤ 34359738368 := Nat.le_trans (len_mul n3 m3) (by omega)
  have q3 : (bl (dv d * dv e).natAbs).length ≤ 34359738368 := Nat.le_trans (len_mul d3 e3) (by omega)
  have q4 : ¬ (dv d * dv e).natAbs = 0 := by have := Int.mul_pos (dv_pos d) (dv_pos e); omega
  unfold rv at hG
  rw [Rat.divInt_mul_divInt] at hG
  cases hG
  refine ⟨rfl, by simp, ?_⟩
  simp only [c72, G0, Nat.reduceAdd]
  simp only [↓R0, R1, simprocAttr, -Int.reduceAbs, spQParts, spIMul, spQMade, n2, d2, m2, e2, n4, m4, d4, e4, q1, q3, q4, nl_bl, Fin, isEnd, resL, res1, iE, rE]
  exact ⟨_, rfl, rfl, fun k hk => by simp only [ne_nb hk, if_false]⟩
def spQSub : List Value → Option Value
  | [.agg ⟨[.bool s, .string ⟨⟨n⟩⟩, .string ⟨⟨d⟩⟩]⟩, .agg ⟨[.bool t, .string ⟨⟨m⟩⟩, .string ⟨⟨e⟩⟩]⟩] => if n.length ≤ 8589934592 ∧ d.length ≤ 8589934592 ∧ m.length ≤ 8589934592 ∧ e.length + 1 ≤ 8589934592 then some (.agg ⟨rE (rv s n d - rv t m e)⟩) else none
  | _ => none
def c73 : ICode :=
  (.seq (.reg [qq 2 (.box 47 3 (.t 0)), qq 3 (.box 47 3 (.t 1)), qq 4 (.alloc 47 3 [(.bool false), e0, e0])]) (.seq (.dreg [qu 5 (.load true 3 (.t 2)), qu 6 (.load true 3 (.t 3)), qu 7 (.call 118 [(.t 6)]), qu 8 (.call 117 [(.t 5), (.t 7)]), qm (.store 3 (.t 4) (.t 8))]) .ret))
theorem tr73 : trFun Tryz.prog 73 = some ⟨9, [.cell 4 true 3], c73⟩ := by kernel_rfl
theorem ok_qSub : SpecOK Tryz.prog 73 (flat spQSub) := by
  refine flat_run (env_cons ok_qNeg (env_cons ok_qAdd (env_nil _))) mixed tr73 ?_
  intro args v h N hG
  unfold spQSub at hG
  split at hG
  case h_2 => cases hG
  rename_i s n d t m e
  split at hG
  case isFalse => cases hG
  rename_i hl
  obtain ⟨h1, h2, h3, h4⟩ := hl
  cases hG
  refine ⟨rfl, by simp, ?_⟩
  have m2 : m.length ≤ 17179869184 := by omega
  have e2 : e.length ≤ 17179869184 := by omega
  obtain ⟨g1, g2⟩ := divInt_le (N := sv t m) (dv_pos e)
  have m3 : (bl (-rv t m e).num.natAbs).length ≤ 8589934592 := by
    rw [(len_rneg _).1]; exact Nat.le_trans (bl_length_mono g1) (len_sv h3)
  have e3 : (if (-rv t m e).den = 1 then ([] : List UInt8) else bl (-rv t m e).den).length ≤ 8589934592 := by
    refine len_den _ ?_
    rw [(len_rneg _).2]; exact Nat.le_trans (bl_length_mono g2) (Nat.le_trans (bl_dv e) h4)
  rw [Rat.sub_eq_add_neg]
  simp only [c73, G0, Nat.reduceAdd]
  simp only [↓R0, R1, simprocAttr, -Int.reduceAbs, spQNeg, spQAdd, h1, h2, m2, e2, m3, e3, rE, rv_can, Fin, isEnd, resL, res1, iE, rE]
  exact ⟨_, rfl, rfl, fun k hk => by simp only [ne_nb hk, if_false]⟩
def spQNumDen : List Value → Option Value
  | [.agg ⟨[.bool s, .string ⟨⟨n⟩⟩, .string ⟨⟨d⟩⟩]⟩] => if n.length ≤ 17179869184 ∧ d.length + 1 ≤ 17179869184 then some (.tuple ⟨[.agg ⟨iE (rv s n d).num⟩, .agg ⟨iE ((rv s n d).den : Int)⟩]⟩) else none
  | _ => none
def c139 : ICode :=
  (.seq (.reg [qq 1 (.box 47 3 (.t 0)), qq 2 (.alloc 23 2 [(.bool false), e0]), qq 3 (.alloc 23 2 [(.bool false), e0])]) (.seq (.reg [qq 4 (.load true 3 (.t 1)), qq 5 (.call 146 [(.t 4)]), qq 6 (.call 115 [(.t 5)]), qq 7 (.ext (.t 6) 0), qq 8 (.ext (.t 6) 1), qn (.store 2 (.t 2) (.t 7)), qn (.store 2 (.t 3) (.t 8))]) .ret))
theorem tr139 : trFun Tryz.prog 139 = some ⟨9, [.cell 2 true 2, .cell 3 true 2], c139⟩ := by kernel_rfl
theorem ok_qNumDen : SpecOK Tryz.prog 139 (flat spQNumDen) := by
  refine flat_run (env_cons ok_qNorm (env_cons ok_qParts (env_nil _))) mixed tr139 ?_
  intro args v h N hG
  unfold spQNumDen at hG
  split at hG
  case h_2 => cases hG
  rename_i s n d
  split at hG
  case isFalse => cases hG
  rename_i hl
  obtain ⟨h1, h2⟩ := hl
  have h3 : d.length ≤ 17179869184 := by omega
  obtain ⟨g1, g2⟩ := divInt_le (N := sv s n) (dv_pos d)
  have m3 : (bl (rv s n d).num.natAbs).length ≤ 1099511627776 := Nat.le_trans (bl_length_mono g1) (Nat.le_trans (len_sv h1) (by omega))
  have e3 : (if (rv s n d).den = 1 then ([] : List UInt8) else bl (rv s n d).den).length ≤ 1099511627776 :=
    len_den _ (Nat.le_trans (bl_length_mono g2) (Nat.le_trans (bl_dv d) (by omega)))
  cases hG
  refine ⟨rfl, by simp, ?_⟩
  simp only [c139, G0, Nat.reduceAdd]
  simp only [↓R0, R1, simprocAttr, -Int.reduceAbs, spQNorm, h1, h3, spQParts, m3, e3, rE, sv_can, dv_can, Fin, isEnd, resL, res1, iE, rE]
  exact ⟨_, rfl, rfl, fun k hk => by simp only [ne_nb hk, if_false]⟩
end Go.Eng
end
section
set_option linter.unusedVariables false
set_option linter.unusedSimpArgs false
set_option linter.unusedSectionVars false
set_option maxRecDepth 20000
namespace Go.Eng
open Go Go.Proofs Go.IntWalk
def spPCoords : List Value → Option Value
  | [.agg ⟨[.bool s1, .string ⟨⟨l1⟩⟩, .bool s2, .string ⟨⟨l2⟩⟩, .bool s3, .string ⟨⟨l3⟩⟩, .bool s4, .string ⟨⟨l4⟩⟩]⟩] =>
    if l1.length ≤ 34359738368 ∧ l2.length ≤ 34359738368 ∧ l3.length ≤ 34359738368 ∧ l4.length ≤ 34359738368 then some (.agg ⟨r3E (Rat.divInt (sv s1 l1) (pW (sv s4 l4))) (Rat.divInt (sv s2 l2) (pW (sv s4 l4))) (Rat.divInt (sv s3 l3) (pW (sv s4 l4)))⟩) else none
  | _ => none
def c71 : ICode :=
  (.seq (.reg [qq 1 (.box 30 8 (.t 0)), qq 2 (.alloc 67 9 [(.bool false), e0, e0, (.bool false), e0, e0, (.bool false), e0, e0])]) (.seq (.reg [qq 6 (.load true 8 (.t 1)), qq 7 (.call 75 [(.t 6)]), qn (.store 8 (.t 1) (.t 7))]) (.seq (.reg [qq 3 (.alloc 67 9 [(.bool false), e0, e0, (.bool false), e0, e0, (.bool false), e0, e0])]) (.seq (.seq (.reg [qq 8 (.faddr 0 (.t 1)), qq 9 (.load true 2 (.t 8)), qq 10 (.faddr 2 (.t 1)), qq 11 (.load true 2 (.t 10)), qq 12 (.faddr 4 (.t 1)), qq 13 (.load true 2 (.t 12)), qq 14 (.build [(.bool false), e0, (.bool false), e0, (.bool false), e0] [(0, 2, (.t 9)), (2, 2, (.t 11)), (4, 2, (.t 13))]), qq 15 (.mv (ci 0))]) (.block 0 (.loop (.seq (.reg [qq 16 (.bin .lss (.t 15) (ci 3))]) (.seq (.cond (.t 16) .skip (.exit 0)) (.seq (.block 1 (.seq (.reg [qq 17 (.mv (.t 15)), qq 18 (.idarr 3 true 2 (.t 14) (.t 15)), qq 5 (.alloc 23 2 [(.bool false), e0]), qq 4 (.mv (.t 17)), qn (.store 2 (.t 5) (.t 18))]) (.reg [qq 20 (.mv (.t 4)), qq 21 (.load true 2 (.t 5)), qq 22 (.faddr 6 (.t 1)), qq 23 (.load true 2 (.t 22)), qq 24 (.call 25 [(.t 21), (.t 23)]), qq 19 (.mv (.t 24)), qq 25 (.ext (.t 19) 0), qq 26 (.ext (.t 19) 1), qq 27 (.ixarr 3 3 (.t 3) (.t 20)), qn (.store 3 (.t 27) (.t 25))]))) (.reg [qq 28 (.bin .add (.t 15) (ci 1)), qq 15 (.mv (.t 28))]))))))) (.seq (.reg [qq 29 (.load true 9 (.t 3)), qn (.store 9 (.t 2) (.t 29))]) .ret)))))
theorem tr71 : trFun Tryz.prog 71 = some ⟨30, [.cell 2 true 9], c71⟩ := by kernel_rfl
set_option maxHeartbeats 4000000 in
theorem ok_pCoords : SpecOK Tryz.prog 71 (flat spPCoords) := by
  refine flat_run (env_cons ok_pNorm (env_cons ok_qMake (env_nil _))) mixed tr71 ?_
  intro args v h N hG
  unfold spPCoords at hG
  split at hG
  case h_2 => cases hG
  rename_i s1 l1 s2 l2 s3 l3 s4 l4
  split at hG
  case isFalse => cases hG
  rename_i hl
  obtain ⟨h1, h2, h3, h4⟩ := hl
  cases hG
  refine ⟨rfl, by simp, ?_⟩
  have n1 := len_sv (s := s1) h1
  have n2 := len_sv (s := s2) h2
  have n3 := len_sv (s := s3) h3
  have n4 := pW_len (len_sv (s := s4) h4) (by omega)
  generalize ex : sv s1 l1 = x at *
  generalize ey : sv s2 l2 = y at *
  generalize ez : sv s3 l3 = z at *
  generalize ew : sv s4 l4 = w at *
  have q1 := pQ_len (x := x) (y := y) (z := z) (w := w) n1
  have q2 := pQ_len (x := x) (y := y) (z := z) (w := w) n2
  have q3 := pQ_len (x := x) (y := y) (z := z) (w := w) n3
  have q4 := pQ_len (x := x) (y := y) (z := z) (w := w) n4
  have d1 := pQ_div (pG_dvd_x x y z w)
  have d2 := pQ_div (pG_dvd_y x y z w)
  have d3 := pQ_div (pG_dvd_z x y z w)
  have ne : ¬ ((pQ x y z w (pW w)).natAbs = 0) := by have := pQ_pos x y z w; omega
  simp only [c71, G0, Nat.reduceAdd]
  simp only [↓R0, R1, simprocAttr, -Int.reduceAbs, spPNorm, h1, h2, h3, h4, ex, ey, ez, ew, pE, iE]
  refine lp_step ?_
  simp only [↓R0, R1, simprocAttr, -Int.reduceAbs, spQMake, q1, q2, q3, q4, nl_bl, ne, d1, rE]
  refine lp_step ?_
  simp only [↓R0, R1, simprocAttr, -Int.reduceAbs, spQMake, q1, q2, q3, q4, nl_bl, ne, d2, rE]
  refine lp_step ?_
  simp only [↓R0, R1, simprocAttr, -Int.reduceAbs, spQMake, q1, q2, q3, q4, nl_bl, ne, d3, rE]
  refine lp_step ?_
  simp only [↓R0, R1, simprocAttr, -Int.reduceAbs, r3E, Fin, isEnd, resL, res1, iE, rE]
  exact ⟨_, rfl, rfl, fun k hk => by simp only [ne_nb hk, if_false]⟩
def spPFrom : List Value → Option Value
  | [.agg ⟨[.bool s1, .string ⟨⟨n1⟩⟩, .string ⟨⟨d1⟩⟩, .bool s2, .string ⟨⟨n2⟩⟩, .string ⟨⟨d2⟩⟩, .bool s3, .string ⟨⟨n3⟩⟩, .string ⟨⟨d3⟩⟩]⟩] =>
    if n1.length ≤ 2147483648 ∧ d1.length ≤ 2147483648 ∧ n2.length ≤ 2147483648 ∧ d2.length ≤ 2147483648 ∧ n3.length ≤ 2147483648 ∧ d3.length ≤ 2147483648 then some (.agg ⟨mkE (rv s1 n1 d1) (rv s2 n2 d2) (rv s3 n3 d3)⟩) else none
  | _ => none
def c119 : ICode :=
  (.seq (.reg [qq 1 (.box 67 9 (.t 0)), qq 2 (.alloc 30 8 [(.bool false), e0, (.bool false), e0, (.bool false), e0, (.bool false), e0])]) (.seq (.reg [qq 3 (.alloc 59 6 [(.bool false), e0, (.bool false), e0, (.bool false), e0]), qq 4 (.alloc 59 6 [(.bool false), e0, (.bool false), e0, (.bool false), e0])]) (.seq (.reg [qq 13 (.call 26 [(ci 1)]), qq 5 (.alloc 23 2 [(.bool false), e0]), qn (.store 2 (.t 5) (.t 13))]) (.seq (.seq (.reg [qq 14 (.load true 9 (.t 1)), qq 15 (.mv (ci 0))]) (.block 0 (.loop (.seq (.reg [qq 16 (.bin .lss (.t 15) (ci 3))]) (.seq (.cond (.t 16) .skip (.exit 0)) (.seq (.block 1 (.seq (.reg [qq 17 (.mv (.t 15)), qq 18 (.idarr 3 true 3 (.t 14) (.t 15)), qq 7 (.alloc 47 3 [(.bool false), e0, e0]), qq 6 (.mv (.t 17)), qn (.store 3 (.t 7) (.t 18))]) (.seq (.reg [qq 20 (.mv (.t 6)), qq 21 (.mv (.t 6)), qq 22 (.load true 3 (.t 7)), qq 23 (.call 139 [(.t 22)]), qq 19 (.mv (.t 23)), qq 24 (.ext (.t 19) 0), qq 25 (.ext (.t 19) 1), qq 26 (.ixarr 3 2 (.t 3) (.t 20)), qn (.store 2 (.t 26) (.t 24)), qq 27 (.ixarr 3 2 (.t 4) (.t 21)), qn (.store 2 (.t 27) (.t 25))]) (.dreg [qu 28 (.load true 2 (.t 5)), qu 29 (.mv (.t 6)), qu 30 (.ixarr 3 2 (.t 4) (.t 29)), qu 31 (.load true 2 (.t 30)), qu 32 (.call 35 [(.t 28), (.t 31)]), qm (.store 2 (.t 5) (.t 32))])))) (.reg [qq 33 (.bin .add (.t 15) (ci 1)), qq 15 (.mv (.t 33))]))))))) (.seq (.reg [qq 8 (.alloc 59 6 [(.bool false), e0, (.bool false), e0, (.bool false), e0])]) (.seq (.seq (.reg [qq 34 (.mv (ci 0))]) (.block 2 (.loop (.seq (.reg [qq 35 (.bin .lss (.t 34) (ci 3))]) (.seq (.cond (.t 35) .skip (.exit 2)) (.seq (.block 3 (.seq (.reg [qq 36 (.mv (.t 34)), qq 9 (.mv (.t 36))]) (.seq (.dreg [qu 38 (.load true 2 (.t 5)), qu 39 (.mv (.t 9)), qu 40 (.ixarr 3 2 (.t 4) (.t 39)), qu 41 (.load true 2 (.t 40)), qu 42 (.call 121 [(.t 38), (.t 41)]), qu 37 (.mv (.t 42)), qu 43 (.ext (.t 37) 0), qu 44 (.ext (.t 37) 1), qu 45 (.ext (.t 37) 2), qu 10 (.alloc 23 2 [(.bool false), e0]), qu 11 (.alloc 23 2 [(.bool false), e0]), qm (.store 2 (.t 10) (.t 43)), qm (.store 2 (.t 11) (.t 44)), qu 12 (.mv (.t 45))]) (.dreg [qu 46 (.mv (.t 9)), qu 47 (.mv (.t 9)), qu 48 (.ixarr 3 2 (.t 3) (.t 47)), qu 49 (.load true 2 (.t 48)), qu 50 (.load true 2 (.t 10)), qu 51 (.call 35 [(.t 49), (.t 50)]), qu 52 (.ixarr 3 2 (.t 8) (.t 46)), qm (.store 2 (.t 52) (.t 51))])))) (.reg [qq 53 (.bin .add (.t 34) (ci 1)), qq 34 (.mv (.t 53))]))))))) (.seq (.reg [qq 54 (.ixarr 3 2 (.t 8) (ci 0)), qq 55 (.load true 2 (.t 54)), qq 56 (.ixarr 3 2 (.t 8) (ci 1)), qq 57 (.load true 2 (.t 56)), qq 58 (.ixarr 3 2 (.t 8) (ci 2)), qq 59 (.load true 2 (.t 58)), qq 60 (.load true 2 (.t 5)), qq 61 (.build [(.bool false), e0, (.bool false), e0, (.bool false), e0, (.bool false), e0] [(0, 2, (.t 55)), (2, 2, (.t 57)), (4, 2, (.t 59)), (6, 2, (.t 60))]), qq 62 (.call 75 [(.t 61)]), qn (.store 8 (.t 2) (.t 62))]) .ret)))))))
theorem tr119 : trFun Tryz.prog 119 = some ⟨63, [.cell 2 true 8], c119⟩ := by kernel_rfl
set_option maxHeartbeats 4000000 in
theorem ok_pFrom : SpecOK Tryz.prog 119 (flat spPFrom) := by
  refine flat_run (env_cons ok_iFrom (env_cons ok_qNumDen (env_cons ok_iMul (env_cons ok_iDiv (env_cons ok_pNorm (env_nil _)))))) mixed tr119 ?_
  intro args v h N hG
  unfold spPFrom at hG
  split at hG
  case h_2 => cases hG
  rename_i s1 n1 d1 s2 n2 d2 s3 n3 d3
  split at hG
  case isFalse => cases hG
  rename_i hl
  obtain ⟨hn1, hd1, hn2, hd2, hn3, hd3⟩ := hl
  cases hG
  refine ⟨rfl, by simp, ?_⟩
  have mn1 : n1.length ≤ 17179869184 := by omega
  have md1 : d1.length + 1 ≤ 17179869184 := by omega
  have b1 := RB.raw (s := s1) hn1 hd1
  obtain ⟨q1, e1⟩ : ∃ q, rv s1 n1 d1 = q := ⟨_, rfl⟩
  rw [e1] at b1
  rw [e1]
  have zn1 := b1.1
  have zd1 : (bl (q1.den : Int).natAbs).length ≤ 2147483649 := b1.2
  have nz1 : (q1.den : Int) ≠ 0 := by have := q1.den_nz; omega
  have mn2 : n2.length ≤ 17179869184 := by omega
  have md2 : d2.length + 1 ≤ 17179869184 := by omega
  have b2 := RB.raw (s := s2) hn2 hd2
  obtain ⟨q2, e2⟩ : ∃ q, rv s2 n2 d2 = q := ⟨_, rfl⟩
  rw [e2] at b2
  rw [e2]
  have zn2 := b2.1
  have zd2 : (bl (q2.den : Int).natAbs).length ≤ 2147483649 := b2.2
  have nz2 : (q2.den : Int) ≠ 0 := by have := q2.den_nz; omega
  have mn3 : n3.length ≤ 17179869184 := by omega
  have md3 : d3.length + 1 ≤ 17179869184 := by omega
  have b3 := RB.raw (s := s3) hn3 hd3
  obtain ⟨q3, e3⟩ : ∃ q, rv s3 n3 d3 = q := ⟨_, rfl⟩
  rw [e3] at b3
  rw [e3]
  have zn3 := b3.1
  have zd3 : (bl (q3.den : Int).natAbs).length ≤ 2147483649 := b3.2
  have nz3 : (q3.den : Int) ≠ 0 := by have := q3.den_nz; omega
  unfold mkE
  obtain ⟨D1, eD1⟩ : ∃ z : Int, (q1.den : Int) = z := ⟨_, rfl⟩
  rw [eD1] at zd1 nz1
  obtain ⟨D2, eD2⟩ : ∃ z : Int, (q2.den : Int) = z := ⟨_, rfl⟩
  rw [eD2] at zd2 nz2
  obtain ⟨D3, eD3⟩ : ∃ z : Int, (q3.den : Int) = z := ⟨_, rfl⟩
  rw [eD3] at zd3 nz3
  rw [eD1, eD2, eD3]
  have f1 : D1 * D2 * D3 / D1 = D2 * D3 := by rw [Int.mul_assoc, Int.mul_ediv_cancel_left _ nz1]
  have f2 : D1 * D2 * D3 / D2 = D1 * D3 := by rw [show D1 * D2 * D3 = D2 * (D1 * D3) by grind, Int.mul_ediv_cancel_left _ nz2]
  have f3 : D1 * D2 * D3 / D3 = D1 * D2 := by rw [Int.mul_ediv_cancel _ nz3]
  have y12 := Lmul zd1 zd2
  have y23 := Lmul zd2 zd3
  have y13 := Lmul zd1 zd3
  have y123 := Lmul y12 zd3
  have x1 := Lmul zn1 y23
  have x2 := Lmul zn2 y13
  have x3 := Lmul zn3 y12
  have o1 : (bl (Int.natAbs 1)).length ≤ 34359738368 := Nat.le_trans (bl_length_le (k := 1).2 (by decide)) (by omega)
  have Ly12 : (bl (D1 * D2).natAbs).length ≤ 34359738368 := Nat.le_trans y12 (by omega)
  have Ly23 : (bl (D2 * D3).natAbs).length ≤ 34359738368 := Nat.le_trans y23 (by omega)
  have Ly13 : (bl (D1 * D3).natAbs).length ≤ 34359738368 := Nat.le_trans y13 (by omega)
  have Ly123 : (bl (D1 * D2 * D3).natAbs).length ≤ 34359738368 := Nat.le_trans y123 (by omega)
  have Lx1 : (bl (q1.num * (D2 * D3)).natAbs).length ≤ 34359738368 := Nat.le_trans x1 (by omega)
  have Lx2 : (bl (q2.num * (D1 * D3)).natAbs).length ≤ 34359738368 := Nat.le_trans x2 (by omega)
  have Lx3 : (bl (q3.num * (D1 * D2)).natAbs).length ≤ 34359738368 := Nat.le_trans x3 (by omega)
  have Ln1 : (bl q1.num.natAbs).length ≤ 34359738368 := Nat.le_trans zn1 (by omega)
  have Ld1 : (bl D1.natAbs).length ≤ 34359738368 := Nat.le_trans zd1 (by omega)
  have Ln2 : (bl q2.num.natAbs).length ≤ 34359738368 := Nat.le_trans zn2 (by omega)
  have Ld2 : (bl D2.natAbs).length ≤ 34359738368 := Nat.le_trans zd2 (by omega)
  have Ln3 : (bl q3.num.natAbs).length ≤ 34359738368 := Nat.le_trans zn3 (by omega)
  have Ld3 : (bl D3.natAbs).length ≤ 34359738368 := Nat.le_trans zd3 (by omega)
  have sv1 : sv false (bl (Int.natAbs 1)) = 1 := sv_one'
  simp only [c119, G0, Nat.reduceAdd]
  simp only [↓R0, R1, simprocAttr, -Int.reduceAbs, spIFrom, iE]
  refine lp_step ?_
  simp only [↓R0, R1, simprocAttr, -Int.reduceAbs, spQNumDen, spIMul, iE, o1, sv1, Int.one_mul, mn1, md1, e1, mn2, md2, e2, mn3, md3, e3, Ly12, Ly23, Ly13, Ly123, Lx1, Lx2, Lx3, Ln1, Ld1, nz1, eD1, Ln2, Ld2, nz2, eD2, Ln3, Ld3, nz3, eD3]
  refine lp_step ?_
  simp only [↓R0, R1, simprocAttr, -Int.reduceAbs, spQNumDen, spIMul, iE, o1, sv1, Int.one_mul, mn1, md1, e1, mn2, md2, e2, mn3, md3, e3, Ly12, Ly23, Ly13, Ly123, Lx1, Lx2, Lx3, Ln1, Ld1, nz1, eD1, Ln2, Ld2, nz2, eD2, Ln3, Ld3, nz3, eD3]
  refine lp_step ?_
  simp only [↓R0, R1, simprocAttr, -Int.reduceAbs, spQNumDen, spIMul, iE, o1, sv1, Int.one_mul, mn1, md1, e1, mn2, md2, e2, mn3, md3, e3, Ly12, Ly23, Ly13, Ly123, Lx1, Lx2, Lx3, Ln1, Ld1, nz1, eD1, Ln2, Ld2, nz2, eD2, Ln3, Ld3, nz3, eD3]
  refine lp_step ?_
  simp only [↓R0, R1, simprocAttr, -Int.reduceAbs]
  refine lp_step ?_
  simp only [↓R0, R1, simprocAttr, -Int.reduceAbs, spIDiv, spIMul, iE, f1, f2, f3, mn1, md1, e1, mn2, md2, e2, mn3, md3, e3, Ly12, Ly23, Ly13, Ly123, Lx1, Lx2, Lx3, Ln1, Ld1, nz1, eD1, Ln2, Ld2, nz2, eD2, Ln3, Ld3, nz3, eD3]
  refine lp_step ?_
  simp only [↓R0, R1, simprocAttr, -Int.reduceAbs, spIDiv, spIMul, iE, f1, f2, f3, mn1, md1, e1, mn2, md2, e2, mn3, md3, e3, Ly12, Ly23, Ly13, Ly123, Lx1, Lx2, Lx3, Ln1, Ld1, nz1, eD1, Ln2, Ld2, nz2, eD2, Ln3, Ld3, nz3, eD3]
  refine lp_step ?_
  simp only [↓R0, R1, simprocAttr, -Int.reduceAbs, spIDiv, spIMul, iE, f1, f2, f3, mn1, md1, e1, mn2, md2, e2, mn3, md3, e3, Ly12, Ly23, Ly13, Ly123, Lx1, Lx2, Lx3, Ln1, Ld1, nz1, eD1, Ln2, Ld2, nz2, eD2, Ln3, Ld3, nz3, eD3]
  refine lp_step ?_
  simp only [↓R0, R1, simprocAttr, -Int.reduceAbs, spPNorm, pE, mn1, md1, e1, mn2, md2, e2, mn3, md3, e3, Ly12, Ly23, Ly13, Ly123, Lx1, Lx2, Lx3, Ln1, Ld1, nz1, eD1, Ln2, Ld2, nz2, eD2, Ln3, Ld3, nz3, eD3, Fin, isEnd, resL, res1, iE, rE]
  exact ⟨_, rfl, rfl, fun k hk => by simp only [ne_nb hk, if_false]⟩
def spPAdd : List Value → Option Value
  | [.agg ⟨[.bool s1, .string ⟨⟨l1⟩⟩, .bool s2, .string ⟨⟨l2⟩⟩, .bool s3, .string ⟨⟨l3⟩⟩, .bool s4, .string ⟨⟨l4⟩⟩]⟩, .agg ⟨[.bool t1, .string ⟨⟨n1⟩⟩, .string ⟨⟨d1⟩⟩, .bool t2, .string ⟨⟨n2⟩⟩, .string ⟨⟨d2⟩⟩, .bool t3, .string ⟨⟨n3⟩⟩, .string ⟨⟨d3⟩⟩]⟩] =>
    if (l1.length ≤ 536870912 ∧ l2.length ≤ 536870912 ∧ l3.length ≤ 536870912 ∧ l4.length ≤ 536870912) ∧ (n1.length ≤ 536870912 ∧ d1.length ≤ 536870912 ∧ n2.length ≤ 536870912 ∧ d2.length ≤ 536870912 ∧ n3.length ≤ 536870912 ∧ d3.length ≤ 536870912) then some (.agg ⟨mkE ((Rat.divInt (sv s1 l1) (pW (sv s4 l4))) + (rv t1 n1 d1)) ((Rat.divInt (sv s2 l2) (pW (sv s4 l4))) + (rv t2 n2 d2)) ((Rat.divInt (sv s3 l3) (pW (sv s4 l4))) + (rv t3 n3 d3))⟩) else none
  | _ => none
def c74 : ICode :=
  (.seq (.reg [qq 2 (.box 30 8 (.t 0)), qq 3 (.box 67 9 (.t 1)), qq 4 (.alloc 30 8 [(.bool false), e0, (.bool false), e0, (.bool false), e0, (.bool false), e0])]) (.seq (.reg [qq 7 (.load true 8 (.t 2)), qq 8 (.call 71 [(.t 7)]), qq 5 (.alloc 67 9 [(.bool false), e0, e0, (.bool false), e0, e0, (.bool false), e0, e0]), qn (.store 9 (.t 5) (.t 8))]) (.seq (.seq (.reg [qq 9 (.mv (ci 0))]) (.block 0 (.loop (.seq (.reg [qq 10 (.bin .lss (.t 9) (ci 3))]) (.seq (.cond (.t 10) .skip (.exit 0)) (.seq (.block 1 (.seq (.reg [qq 11 (.mv (.t 9)), qq 6 (.mv (.t 11))]) (.dreg [qu 12 (.mv (.t 6)), qu 13 (.mv (.t 6)), qu 14 (.ixarr 3 3 (.t 5) (.t 13)), qu 15 (.load true 3 (.t 14)), qu 16 (.mv (.t 6)), qu 17 (.ixarr 3 3 (.t 3) (.t 16)), qu 18 (.load true 3 (.t 17)), qu 19 (.call 117 [(.t 15), (.t 18)]), qu 20 (.ixarr 3 3 (.t 5) (.t 12)), qm (.store 3 (.t 20) (.t 19))]))) (.reg [qq 21 (.bin .add (.t 9) (ci 1)), qq 9 (.mv (.t 21))]))))))) (.seq (.reg [qq 22 (.load true 9 (.t 5)), qq 23 (.call 119 [(.t 22)]), qn (.store 8 (.t 4) (.t 23))]) .ret))))
theorem tr74 : trFun Tryz.prog 74 = some ⟨24, [.cell 4 true 8], c74⟩ := by kernel_rfl
set_option maxHeartbeats 4000000 in
theorem ok_pAdd : SpecOK Tryz.prog 74 (flat spPAdd) := by
  refine flat_run (env_cons ok_pCoords (env_cons ok_qAdd (env_cons ok_pFrom (env_nil _)))) mixed tr74 ?_
  intro args v h N hG
  unfold spPAdd at hG
  split at hG
  case h_2 => cases hG
  rename_i s1 l1 s2 l2 s3 l3 s4 l4 t1 n1 d1 t2 n2 d2 t3 n3 d3
  split at hG
  case isFalse => cases hG
  rename_i hl
  obtain ⟨⟨h1, h2, h3, h4⟩, hn1, hd1, hn2, hd2, hn3, hd3⟩ := hl
  cases hG
  refine ⟨rfl, by simp, ?_⟩
  have n4 := pW_len (len_sv (s := s4) h4) (by omega)
  have w0 := pW_ne (sv s4 l4)
  have g1 : l1.length ≤ 34359738368 := by omega
  have g2 : l2.length ≤ 34359738368 := by omega
  have g3 : l3.length ≤ 34359738368 := by omega
  have g4 : l4.length ≤ 34359738368 := by omega
  have a1 := divInt_RB w0 (len_sv (s := s1) h1) n4
  have b1 := RB.raw (s := t1) hn1 hd1
  have mn1 : n1.length ≤ 8589934592 := by omega
  have md1 : d1.length ≤ 8589934592 := by omega
  generalize ex1 : Rat.divInt (sv s1 l1) (pW (sv s4 l4)) = x1 at *
  generalize ey1 : rv t1 n1 d1 = y1 at *
  have c1 := a1.add b1 (k := 2147483648) (by omega)
  have an1 := a1.num (k := 8589934592) (by omega)
  have ad1 := a1.den (k := 8589934592) (by omega)
  have cn1 := c1.num (Nat.le_refl _)
  have cd1 := c1.den (Nat.le_refl _)
  clear a1 b1 c1
  have a2 := divInt_RB w0 (len_sv (s := s2) h2) n4
  have b2 := RB.raw (s := t2) hn2 hd2
  have mn2 : n2.length ≤ 8589934592 := by omega
  have md2 : d2.length ≤ 8589934592 := by omega
  generalize ex2 : Rat.divInt (sv s2 l2) (pW (sv s4 l4)) = x2 at *
  generalize ey2 : rv t2 n2 d2 = y2 at *
  have c2 := a2.add b2 (k := 2147483648) (by omega)
  have an2 := a2.num (k := 8589934592) (by omega)
  have ad2 := a2.den (k := 8589934592) (by omega)
  have cn2 := c2.num (Nat.le_refl _)
  have cd2 := c2.den (Nat.le_refl _)
  clear a2 b2 c2
  have a3 := divInt_RB w0 (len_sv (s := s3) h3) n4
  have b3 := RB.raw (s := t3) hn3 hd3
  have mn3 : n3.length ≤ 8589934592 := by omega
  have md3 : d3.length ≤ 8589934592 := by omega
  generalize ex3 : Rat.divInt (sv s3 l3) (pW (sv s4 l4)) = x3 at *
  generalize ey3 : rv t3 n3 d3 = y3 at *
  have c3 := a3.add b3 (k := 2147483648) (by omega)
  have an3 := a3.num (k := 8589934592) (by omega)
  have ad3 := a3.den (k := 8589934592) (by omega)
  have cn3 := c3.num (Nat.le_refl _)
  have cd3 := c3.den (Nat.le_refl _)
  clear a3 b3 c3
  simp only [c74, G0, Nat.reduceAdd]
  simp only [↓R0, R1, simprocAttr, -Int.reduceAbs, spPCoords, r3E, rE, g1, g2, g3, g4, mn1, md1, ex1, ey1, an1, ad1, cn1, cd1, mn2, md2, ex2, ey2, an2, ad2, cn2, cd2, mn3, md3, ex3, ey3, an3, ad3, cn3, cd3]
  refine lp_step ?_
  simp only [↓R0, R1, simprocAttr, -Int.reduceAbs, spQAdd, rv_can, rE, g1, g2, g3, g4, mn1, md1, ex1, ey1, an1, ad1, cn1, cd1, mn2, md2, ex2, ey2, an2, ad2, cn2, cd2, mn3, md3, ex3, ey3, an3, ad3, cn3, cd3]
  refine lp_step ?_
  simp only [↓R0, R1, simprocAttr, -Int.reduceAbs, spQAdd, rv_can, rE, g1, g2, g3, g4, mn1, md1, ex1, ey1, an1, ad1, cn1, cd1, mn2, md2, ex2, ey2, an2, ad2, cn2, cd2, mn3, md3, ex3, ey3, an3, ad3, cn3, cd3]
  refine lp_step ?_
  simp only [↓R0, R1, simprocAttr, -Int.reduceAbs, spQAdd, rv_can, rE, g1, g2, g3, g4, mn1, md1, ex1, ey1, an1, ad1, cn1, cd1, mn2, md2, ex2, ey2, an2, ad2, cn2, cd2, mn3, md3, ex3, ey3, an3, ad3, cn3, cd3]
  refine lp_step ?_
  simp only [↓R0, R1, simprocAttr, -Int.reduceAbs, spPFrom, mkE, pE, rv_can, g1, g2, g3, g4, mn1, md1, ex1, ey1, an1, ad1, cn1, cd1, mn2, md2, ex2, ey2, an2, ad2, cn2, cd2, mn3, md3, ex3, ey3, an3, ad3, cn3, cd3, Fin, isEnd, resL, res1, iE, rE]
  exact ⟨_, rfl, rfl, fun k hk => by simp only [ne_nb hk, if_false]⟩
def spPLerp : List Value → Option Value
  | [.agg ⟨[.bool s1, .string ⟨⟨l1⟩⟩, .bool s2, .string ⟨⟨l2⟩⟩, .bool s3, .string ⟨⟨l3⟩⟩, .bool s4, .string ⟨⟨l4⟩⟩]⟩, .agg ⟨[.bool t1, .string ⟨⟨m1⟩⟩, .bool t2, .string ⟨⟨m2⟩⟩, .bool t3, .string ⟨⟨m3⟩⟩, .bool t4, .string ⟨⟨m4⟩⟩]⟩, .agg ⟨[.bool u, .string ⟨⟨nu⟩⟩, .string ⟨⟨du⟩⟩]⟩] =>
    if (l1.length ≤ 67108864 ∧ l2.length ≤ 67108864 ∧ l3.length ≤ 67108864 ∧ l4.length ≤ 67108864) ∧ (m1.length ≤ 67108864 ∧ m2.length ≤ 67108864 ∧ m3.length ≤ 67108864 ∧ m4.length ≤ 67108864) ∧ nu.length ≤ 67108864 ∧ du.length ≤ 67108864 then some (.agg ⟨mkE ((Rat.divInt (sv s1 l1) (pW (sv s4 l4))) + rv u nu du * ((Rat.divInt (sv t1 m1) (pW (sv t4 m4))) - (Rat.divInt (sv s1 l1) (pW (sv s4 l4))))) ((Rat.divInt (sv s2 l2) (pW (sv s4 l4))) + rv u nu du * ((Rat.divInt (sv t2 m2) (pW (sv t4 m4))) - (Rat.divInt (sv s2 l2) (pW (sv s4 l4))))) ((Rat.divInt (sv s3 l3) (pW (sv s4 l4))) + rv u nu du * ((Rat.divInt (sv t3 m3) (pW (sv t4 m4))) - (Rat.divInt (sv s3 l3) (pW (sv s4 l4)))))⟩) else none
  | _ => none
def c27 : ICode :=
  (.seq (.reg [qq 3 (.box 30 8 (.t 0)), qq 4 (.box 30 8 (.t 1)), qq 5 (.box 47 3 (.t 2)), qq 6 (.alloc 30 8 [(.bool false), e0, (.bool false), e0, (.bool false), e0, (.bool false), e0])]) (.seq (.dreg [qu 10 (.load true 8 (.t 3)), qu 11 (.call 71 [(.t 10)]), qv 12 [1] (.load true 8 (.t 4)), qu 13 (.call 71 [(.t 12)]), qu 7 (.alloc 67 9 [(.bool false), e0, e0, (.bool false), e0, e0, (.bool false), e0, e0]), qu 8 (.alloc 67 9 [(.bool false), e0, e0, (.bool false), e0, e0, (.bool false), e0, e0]), qm (.store 9 (.t 7) (.t 11)), qm (.store 9 (.t 8) (.t 13))]) (.seq (.seq (.reg [qq 14 (.mv (ci 0))]) (.block 0 (.loop (.seq (.reg [qq 15 (.bin .lss (.t 14) (ci 3))]) (.seq (.cond (.t 15) .skip (.exit 0)) (.seq (.block 1 (.seq (.reg [qq 16 (.mv (.t 14)), qq 9 (.mv (.t 16))]) (.dreg [qu 17 (.mv (.t 9)), qu 18 (.load true 3 (.t 5)), qu 19 (.mv (.t 9)), qu 20 (.ixarr 3 3 (.t 8) (.t 19)), qu 21 (.load true 3 (.t 20)), qu 22 (.mv (.t 9)), qu 23 (.ixarr 3 3 (.t 7) (.t 22)), qu 24 (.load true 3 (.t 23)), qu 25 (.call 73 [(.t 21), (.t 24)]), qu 26 (.call 72 [(.t 18), (.t 25)]), qu 27 (.ixarr 3 3 (.t 8) (.t 17)), qm (.store 3 (.t 27) (.t 26))]))) (.reg [qq 28 (.bin .add (.t 14) (ci 1)), qq 14 (.mv (.t 28))]))))))) (.seq (.reg [qq 29 (.load true 8 (.t 3)), qq 30 (.load true 9 (.t 8)), qq 31 (.call 74 [(.t 29), (.t 30)]), qn (.store 8 (.t 6) (.t 31))]) .ret))))
theorem tr27 : trFun Tryz.prog 27 = some ⟨32, [.cell 6 true 8], c27⟩ := by kernel_rfl
set_option maxHeartbeats 4000000 in
theorem ok_pLerp : SpecOK Tryz.prog 27 (flat spPLerp) := by
  refine flat_run (env_cons ok_pCoords (env_cons ok_qSub (env_cons ok_qMul (env_cons ok_pAdd (env_nil _))))) mixed tr27 ?_
  intro args v h N hG
  unfold spPLerp at hG
  split at hG
  case h_2 => cases hG
  rename_i s1 l1 s2 l2 s3 l3 s4 l4 t1 m1 t2 m2 t3 m3 t4 m4 u nu du
  split at hG
  case isFalse => cases hG
  rename_i hl
  obtain ⟨⟨h1, h2, h3, h4⟩, ⟨k1, k2, k3, k4⟩, hnu, hdu⟩ := hl
  cases hG
  refine ⟨rfl, by simp, ?_⟩
  have n4 := pW_len (len_sv (s := s4) h4) (by omega)
  have w0 := pW_ne (sv s4 l4)
  have m4' := pW_len (len_sv (s := t4) k4) (by omega)
  have w1 := pW_ne (sv t4 m4)
  have bu := RB.raw (s := u) hnu hdu
  have mnu : nu.length ≤ 8589934592 := by omega
  have mdu : du.length ≤ 8589934592 := by omega
  generalize eu : rv u nu du = T at *
  have g1 : l1.length ≤ 34359738368 := by omega
  have j1 : m1.length ≤ 34359738368 := by omega
  have G1 : l1.length ≤ 536870912 := by omega
  have g2 : l2.length ≤ 34359738368 := by omega
  have j2 : m2.length ≤ 34359738368 := by omega
  have G2 : l2.length ≤ 536870912 := by omega
  have g3 : l3.length ≤ 34359738368 := by omega
  have j3 : m3.length ≤ 34359738368 := by omega
  have G3 : l3.length ≤ 536870912 := by omega
  have g4 : l4.length ≤ 34359738368 := by omega
  have j4 : m4.length ≤ 34359738368 := by omega
  have G4 : l4.length ≤ 536870912 := by omega
  have a1 := divInt_RB w0 (len_sv (s := s1) h1) n4
  have b1 := divInt_RB w1 (len_sv (s := t1) k1) m4'
  generalize ex1 : Rat.divInt (sv s1 l1) (pW (sv s4 l4)) = x1 at *
  generalize ey1 : Rat.divInt (sv t1 m1) (pW (sv t4 m4)) = y1 at *
  have c1 := b1.sub a1 (k := 134217729) (by omega)
  have d1 := bu.mul c1 (k := 536870912) (by omega)
  have an1 := a1.num (k := 8589934592) (by omega)
  have ad1 := a1.den' (k := 8589934592) (by omega)
  have bn1 := b1.num (k := 8589934592) (by omega)
  have bd1 := b1.den (k := 8589934592) (by omega)
  have cn1 := c1.num (k := 8589934592) (by omega)
  have cd1 := c1.den (k := 8589934592) (by omega)
  have dn1 := d1.num (Nat.le_refl _)
  have dd1 := d1.den (Nat.le_refl _)
  clear a1 b1 c1 d1
  have a2 := divInt_RB w0 (len_sv (s := s2) h2) n4
  have b2 := divInt_RB w1 (len_sv (s := t2) k2) m4'
  generalize ex2 : Rat.divInt (sv s2 l2) (pW (sv s4 l4)) = x2 at *
  generalize ey2 : Rat.divInt (sv t2 m2) (pW (sv t4 m4)) = y2 at *
  have c2 := b2.sub a2 (k := 134217729) (by omega)
  have d2 := bu.mul c2 (k := 536870912) (by omega)
  have an2 := a2.num (k := 8589934592) (by omega)
  have ad2 := a2.den' (k := 8589934592) (by omega)
  have bn2 := b2.num (k := 8589934592) (by omega)
  have bd2 := b2.den (k := 8589934592) (by omega)
  have cn2 := c2.num (k := 8589934592) (by omega)
  have cd2 := c2.den (k := 8589934592) (by omega)
  have dn2 := d2.num (Nat.le_refl _)
  have dd2 := d2.den (Nat.le_refl _)
  clear a2 b2 c2 d2
  have a3 := divInt_RB w0 (len_sv (s := s3) h3) n4
  have b3 := divInt_RB w1 (len_sv (s := t3) k3) m4'
  generalize ex3 : Rat.divInt (sv s3 l3) (pW (sv s4 l4)) = x3 at *
  generalize ey3 : Rat.divInt (sv t3 m3) (pW (sv t4 m4)) = y3 at *
  have c3 := b3.sub a3 (k := 134217729) (by omega)
  have d3 := bu.mul c3 (k := 536870912) (by omega)
  have an3 := a3.num (k := 8589934592) (by omega)
  have ad3 := a3.den' (k := 8589934592) (by omega)
  have bn3 := b3.num (k := 8589934592) (by omega)
  have bd3 := b3.den (k := 8589934592) (by omega)
  have cn3 := c3.num (k := 8589934592) (by omega)
  have cd3 := c3.den (k := 8589934592) (by omega)
  have dn3 := d3.num (Nat.le_refl _)
  have dd3 := d3.den (Nat.le_refl _)
  clear a3 b3 c3 d3
  simp only [c27, G0, Nat.reduceAdd]
  simp only [↓R0, R1, simprocAttr, -Int.reduceAbs, spPCoords, r3E, rE, mnu, mdu, eu, g1, j1, G1, g2, j2, G2, g3, j3, G3, g4, j4, G4, ex1, ey1, an1, ad1, bn1, bd1, cn1, cd1, dn1, dd1, ex2, ey2, an2, ad2, bn2, bd2, cn2, cd2, dn2, dd2, ex3, ey3, an3, ad3, bn3, bd3, cn3, cd3, dn3, dd3]
  refine lp_step ?_
  simp only [↓R0, R1, simprocAttr, -Int.reduceAbs, spQSub, spQMul, rv_can, rE, mnu, mdu, eu, g1, j1, G1, g2, j2, G2, g3, j3, G3, g4, j4, G4, ex1, ey1, an1, ad1, bn1, bd1, cn1, cd1, dn1, dd1, ex2, ey2, an2, ad2, bn2, bd2, cn2, cd2, dn2, dd2, ex3, ey3, an3, ad3, bn3, bd3, cn3, cd3, dn3, dd3]
  refine lp_step ?_
  simp only [↓R0, R1, simprocAttr, -Int.reduceAbs, spQSub, spQMul, rv_can, rE, mnu, mdu, eu, g1, j1, G1, g2, j2, G2, g3, j3, G3, g4, j4, G4, ex1, ey1, an1, ad1, bn1, bd1, cn1, cd1, dn1, dd1, ex2, ey2, an2, ad2, bn2, bd2, cn2, cd2, dn2, dd2, ex3, ey3, an3, ad3, bn3, bd3, cn3, cd3, dn3, dd3]
  refine lp_step ?_
  simp only [↓R0, R1, simprocAttr, -Int.reduceAbs, spQSub, spQMul, rv_can, rE, mnu, mdu, eu, g1, j1, G1, g2, j2, G2, g3, j3, G3, g4, j4, G4, ex1, ey1, an1, ad1, bn1, bd1, cn1, cd1, dn1, dd1, ex2, ey2, an2, ad2, bn2, bd2, cn2, cd2, dn2, dd2, ex3, ey3, an3, ad3, bn3, bd3, cn3, cd3, dn3, dd3]
  refine lp_step ?_
  simp only [↓R0, R1, simprocAttr, -Int.reduceAbs, spPAdd, mkE, pE, rv_can, mnu, mdu, eu, g1, j1, G1, g2, j2, G2, g3, j3, G3, g4, j4, G4, ex1, ey1, an1, ad1, bn1, bd1, cn1, cd1, dn1, dd1, ex2, ey2, an2, ad2, bn2, bd2, cn2, cd2, dn2, dd2, ex3, ey3, an3, ad3, bn3, bd3, cn3, cd3, dn3, dd3, Fin, isEnd, resL, res1, iE, rE]
  exact ⟨_, rfl, rfl, fun k hk => by simp only [ne_nb hk, if_false]⟩
end Go.Eng
end
section
set_option linter.unusedVariables false
set_option linter.unusedSimpArgs false
set_option linter.unusedSectionVars false
namespace Go.Eng
theorem lex3_scale {u1 u2 u3 v1 v2 v3 P Q : Int} (hP : 0 < P) (hQ : 0 < Q) (h1 : u1 * P = v1 * Q) (h2 : u2 * P = v2 * Q) (h3 : u3 * P = v3 * Q) : lex3 u1 u2 u3 = lex3 v1 v2 v3 := by
  have k : ∀ {u v : Int}, u * P = v * Q → u.sign = v.sign := fun {u v} h => by
    rw [← sign_pos_mul hP, h, sign_pos_mul hQ]
  unfold lex3
  rw [k h1, k h2, k h3]
theorem lerp_int {a a4 b b4 x x4 m k : Int} (ha : 0 < a4) (hb : 0 < b4) (hx : 0 < x4) (hm : 0 < m) (hk : 0 < k) (h : Rat.divInt x x4 = Rat.divInt a a4 + Rat.divInt m (m + k) * (Rat.divInt b b4 - Rat.divInt a a4)) :
    x * (a4 * b4 * (m + k)) = (k * a * b4 + m * b * a4) * x4 := by
  have e : Rat.divInt x x4 = Rat.divInt (k * a * b4 + m * b * a4) (a4 * b4 * (m + k)) := by
    rw [h]
    simp only [Rat.divInt_eq_div]
    have h1 : ((a4 : Int) : Rat) ≠ 0 := fun e => by have := Rat.intCast_inj.1 (e.trans Rat.intCast_zero.symm); omega
    have h2 : ((b4 : Int) : Rat) ≠ 0 := fun e => by have := Rat.intCast_inj.1 (e.trans Rat.intCast_zero.symm); omega
    have h3 : (((m + k : Int)) : Rat) ≠ 0 := fun e => by have := Rat.intCast_inj.1 (e.trans Rat.intCast_zero.symm); omega
    simp only [Rat.intCast_mul, Rat.intCast_add] at h3 ⊢
    generalize ((a : Int) : Rat) = A at *
    generalize ((b : Int) : Rat) = B at *
    generalize ((a4 : Int) : Rat) = C at *
    generalize ((b4 : Int) : Rat) = D at *
    generalize ((m : Int) : Rat) = M at *
    generalize ((k : Int) : Rat) = K at *
    grind
  have hn : a4 * b4 * (m + k) ≠ 0 := Int.ne_of_gt (Int.mul_pos (Int.mul_pos ha hb) (by omega))
  exact (Rat.divInt_eq_divInt_iff (by omega) hn).1 e
namespace Pt
structure Div (a b x : Pt) (m k : Int) : Prop where
  ha : 0 < a.w
  hb : 0 < b.w
  hx : 0 < x.w
  hm : 0 < m
  hk : 0 < k
  ex : x.x * (a.w * b.w * (m + k)) = (k * a.x * b.w + m * b.x * a.w) * x.w
  ey : x.y * (a.w * b.w * (m + k)) = (k * a.y * b.w + m * b.y * a.w) * x.w
  ez : x.z * (a.w * b.w * (m + k)) = (k * a.z * b.w + m * b.z * a.w) * x.w
variable {a b x : Pt} {m k : Int}
theorem Div.ax (d : Div a b x m k) : cmp a x = cmp a b := by
  obtain ⟨ha, hb, hx, hm, hk, ex, ey, ez⟩ := d
  refine lex3_scale (P := b.w * (m + k)) (Q := x.w * m) (Int.mul_pos hb (by omega)) (Int.mul_pos hx hm) ?_ ?_ ?_ <;> grind
theorem Div.xb (d : Div a b x m k) : cmp x b = cmp a b := by
  obtain ⟨ha, hb, hx, hm, hk, ex, ey, ez⟩ := d
  refine lex3_scale (P := a.w * (m + k)) (Q := x.w * k) (Int.mul_pos ha (by omega)) (Int.mul_pos hx hk) ?_ ?_ ?_ <;> grind
theorem dt3_lin {a1 a2 a3 b1 b2 b3 x1 x2 x3 K p q w : Int} (hK : K ≠ 0) (h1 : x1 * K = (p * a1 + q * b1) * w) (h2 : x2 * K = (p * a2 + q * b2) * w) (h3 : x3 * K = (p * a3 + q * b3) * w) :
    dt3 a1 a2 a3 b1 b2 b3 x1 x2 x3 = 0 ∧ dt3 a1 a2 a3 x1 x2 x3 b1 b2 b3 = 0 := by
  have e1 : dt3 a1 a2 a3 b1 b2 b3 x1 x2 x3 * K = 0 := by
    have : dt3 a1 a2 a3 b1 b2 b3 x1 x2 x3 * K = dt3 a1 a2 a3 b1 b2 b3 (x1 * K) (x2 * K) (x3 * K) := by unfold dt3; grind
    rw [this, h1, h2, h3]; unfold dt3; grind
  have e2 : dt3 a1 a2 a3 x1 x2 x3 b1 b2 b3 = -dt3 a1 a2 a3 b1 b2 b3 x1 x2 x3 := by unfold dt3; grind
  have e3 : dt3 a1 a2 a3 b1 b2 b3 x1 x2 x3 = 0 := (Int.mul_eq_zero.1 e1).resolve_right hK
  exact ⟨e3, by rw [e2, e3]; rfl⟩
theorem Div.on (d : Div a b x m k) : on a b x ∧ Pt.on a x b := by
  obtain ⟨ha, hb, hx, hm, hk, ex, ey, ez⟩ := d
  have hK : a.w * b.w * (m + k) ≠ 0 := Int.ne_of_gt (Int.mul_pos (Int.mul_pos ha hb) (by omega))
  have e1 : x.x * (a.w * b.w * (m + k)) = (k * b.w * a.x + m * a.w * b.x) * x.w := by rw [ex]; grind
  have e2 : x.y * (a.w * b.w * (m + k)) = (k * b.w * a.y + m * a.w * b.y) * x.w := by rw [ey]; grind
  have e3 : x.z * (a.w * b.w * (m + k)) = (k * b.w * a.z + m * a.w * b.z) * x.w := by rw [ez]; grind
  have e4 : x.w * (a.w * b.w * (m + k)) = (k * b.w * a.w + m * a.w * b.w) * x.w := by grind
  unfold Pt.on flt
  have r1 := dt3_lin hK e2 e3 e4
  have r2 := dt3_lin hK e3 e1 e4
  have r3 := dt3_lin hK e1 e2 e4
  have r2' := dt3_lin hK e1 e3 e4
  first
    | exact ⟨⟨r1.1, r2.1, r3.1⟩, r1.2, r2.2, r3.2⟩
    | exact ⟨⟨r1.1, r2'.1, r3.1⟩, r1.2, r2'.2, r3.2⟩
theorem on_self (p q : Pt) : on p q q ∧ on p q p ∧ on p p q := by
  unfold on flt dt3
  refine ⟨⟨?_, ?_, ?_⟩, ⟨?_, ?_, ?_⟩, ?_, ?_, ?_⟩ <;> grind
theorem over_whole {s : Int} (hs : s = 1 ∨ s = -1) (h : cmp a b = s) : over a b b a = some (lo a b, hi a b) := by
  have o := on_self a b
  have n := cmp_neg a b
  have q := (on_swap a b a ▸ o.2.1 : on b a a)
  have q2 := (on_swap a b b ▸ o.1 : on b a b)
  have ne : a ≠ b := fun e => by subst e; have := cmp_self a; omega
  unfold over lo hi
  rcases hs with rfl | rfl
  · have h' : cmp b a = -1 := by omega
    simp [h, h', o.1, o.2.1, q, q2, ne, ne.symm, cmp_self]
  · have h' : cmp b a = 1 := by omega
    simp [h, h', o.1, o.2.1, q, q2, ne, ne.symm, cmp_self]
theorem over_part {s : Int} (hs : s = 1 ∨ s = -1) (h : cmp a b = s) (h1 : cmp a x = s) (h2 : cmp x b = s) (ho : on a x b) : over a x a b = some (lo a x, hi a x) ∧ over a x x b = none ∧ cmp (lo a x) (hi a x) = -1 := by
  have n := cmp_neg a b
  have n1 := cmp_neg a x
  have n2 := cmp_neg x b
  have o := on_self a x
  have oo := (on_swap a x b ▸ ho : on x a b)
  have q := (on_swap a x a ▸ o.2.1 : on x a a)
  have q2 := (on_swap a x x ▸ o.1 : on x a x)
  have ne : a ≠ b := fun e => by subst e; have := cmp_self a; omega
  have ne1 : a ≠ x := fun e => by subst e; have := cmp_self a; omega
  have ne2 : x ≠ b := fun e => by subst e; have := cmp_self x; omega
  unfold over lo hi
  rcases hs with rfl | rfl
  · have h' : cmp b a = -1 := by omega
    have h1' : cmp x a = -1 := by omega
    have h2' : cmp b x = -1 := by omega
    simp [h, h', h1, h1', h2, h2', o.1, o.2.1, oo, q, q2, ne, ne.symm, ne1, ne1.symm, ne2, ne2.symm, cmp_self]
  · have h' : cmp b a = 1 := by omega
    have h1' : cmp x a = 1 := by omega
    have h2' : cmp b x = 1 := by omega
    simp [h, h', h1, h1', h2, h2', o.1, o.2.1, ho, q, q2, ne, ne.symm, ne1, ne1.symm, ne2, ne2.symm, cmp_self]
theorem of_coords {p q r : Rat} {i : Nat} (hp : RB p i) (hq : RB q i) (hr : RB r i) (hi : 1 ≤ i) (hB : 3 * i ≤ 65536) : ∃ P : Pt, mkE p q r = P.cells ∧ P.can ∧ P.ok ∧ Rat.divInt P.x P.w = p ∧ Rat.divInt P.y P.w = q ∧ Rat.divInt P.z P.w = r := by
  have hp0 := p.den_nz
  have hq0 := q.den_nz
  have hr0 := r.den_nz
  obtain ⟨X, eX⟩ : ∃ z, p.num * ((q.den : Int) * r.den) = z := ⟨_, rfl⟩
  obtain ⟨Y, eY⟩ : ∃ z, q.num * ((p.den : Int) * r.den) = z := ⟨_, rfl⟩
  obtain ⟨Z, eZ⟩ : ∃ z, r.num * ((p.den : Int) * q.den) = z := ⟨_, rfl⟩
  obtain ⟨W, eW⟩ : ∃ z, (p.den : Int) * q.den * r.den = z := ⟨_, rfl⟩
  have hW : W ≠ 0 := by
    rw [← eW]; exact Int.mul_ne_zero (Int.mul_ne_zero (by omega) (by omega)) (by omega)
  have pd : (bl (p.den : Int).natAbs).length ≤ i := hp.2
  have qd : (bl (q.den : Int).natAbs).length ≤ i := hq.2
  have rd : (bl (r.den : Int).natAbs).length ≤ i := hr.2
  have lX : (bl X.natAbs).length ≤ 65536 := by rw [← eX]; exact Nat.le_trans (Lmul hp.1 (Lmul qd rd)) (by omega)
  have lY : (bl Y.natAbs).length ≤ 65536 := by rw [← eY]; exact Nat.le_trans (Lmul hq.1 (Lmul pd rd)) (by omega)
  have lZ : (bl Z.natAbs).length ≤ 65536 := by rw [← eZ]; exact Nat.le_trans (Lmul hr.1 (Lmul pd qd)) (by omega)
  have lW : (bl W.natAbs).length ≤ 65536 := by rw [← eW]; exact Nat.le_trans (Lmul (Lmul pd qd) rd) (by omega)
  refine ⟨of (pQ X Y Z W X) (pQ X Y Z W Y) (pQ X Y Z W Z) (pQ X Y Z W (pW W)), ?_, can_of X Y Z W, ?_, ?_, ?_, ?_⟩
  · unfold mkE; rw [eX, eY, eZ, eW]; rfl
  · exact ⟨⟨pQ_len lX, pQ_len lY, pQ_len lZ, pQ_len (pW_len lW (by omega))⟩, (can_of X Y Z W).1⟩
  · rw [of_x, of_w, pQ_div (pG_dvd_x X Y Z W), pW_of hW, ← Rat.num_divInt_den p, Rat.divInt_eq_divInt_iff hW (by omega)]
    rw [← eX, ← eW]; grind
  · rw [of_y, of_w, pQ_div (pG_dvd_y X Y Z W), pW_of hW, ← Rat.num_divInt_den q, Rat.divInt_eq_divInt_iff hW (by omega)]
    rw [← eY, ← eW]; grind
  · rw [of_z, of_w, pQ_div (pG_dvd_z X Y Z W), pW_of hW, ← Rat.num_divInt_den r, Rat.divInt_eq_divInt_iff hW (by omega)]
    rw [← eZ, ← eW]; grind
end Pt
end Go.Eng
end
section
set_option linter.unusedVariables false
set_option linter.unusedSimpArgs false
set_option linter.unusedSectionVars false
set_option maxRecDepth 20000
namespace Go.Eng
open Go Go.Proofs Go.IntWalk
theorem r4Norm_p6 {s1 l1 s2 l2 s3 l3 s4 l4} (h1 : List.length l1 ≤ 6) (h2 : List.length l2 ≤ 6) (h3 : List.length l3 ≤ 6) (h4 : List.length l4 ≤ 6) :
    ∃ p : Pt, spR4Norm [.agg ⟨[.bool s1, .string ⟨⟨l1⟩⟩, .bool s2, .string ⟨⟨l2⟩⟩, .bool s3, .string ⟨⟨l3⟩⟩, .bool s4, .string ⟨⟨l4⟩⟩]⟩] = some (.agg ⟨p.cells⟩) ∧ p.can ∧ p.ok ∧ RB (Rat.divInt p.x p.w) 6 ∧ RB (Rat.divInt p.y p.w) 6 ∧ RB (Rat.divInt p.z p.w) 6 := by
  have c := Pt.can_of (sv s1 l1) (sv s2 l2) (sv s3 l3) (sv s4 l4)
  have w0 := c.1
  have t := fun {n : Nat} (h : n ≤ 6) => (Nat.le_trans h (by omega) : n ≤ 65536)
  have e1 := pQ_len (x := sv s1 l1) (y := sv s2 l2) (z := sv s3 l3) (w := sv s4 l4) (len_sv (s := s1) h1)
  have e2 := pQ_len (x := sv s1 l1) (y := sv s2 l2) (z := sv s3 l3) (w := sv s4 l4) (len_sv (s := s2) h2)
  have e3 := pQ_len (x := sv s1 l1) (y := sv s2 l2) (z := sv s3 l3) (w := sv s4 l4) (len_sv (s := s3) h3)
  have e4 := pQ_len (x := sv s1 l1) (y := sv s2 l2) (z := sv s3 l3) (w := sv s4 l4) (pW_len (len_sv (s := s4) h4) (by omega))
  refine ⟨_, ?_, c, ⟨⟨t e1, t e2, t e3, t e4⟩, w0⟩, ?_, ?_, ?_⟩
  · unfold spR4Norm
    simp only
    rw [if_pos ⟨by omega, by omega, by omega, by omega⟩]; rfl
  · rw [Pt.of_w] at w0 ⊢; rw [Pt.of_x]; exact divInt_RB (by omega) e1 e4
  · rw [Pt.of_w] at w0 ⊢; rw [Pt.of_y]; exact divInt_RB (by omega) e2 e4
  · rw [Pt.of_w] at w0 ⊢; rw [Pt.of_z]; exact divInt_RB (by omega) e3 e4
def Pt.btw (a b x : Pt) : Prop := Pt.cmp a x ≠ 0 ∧ Pt.cmp a x = Pt.cmp x b ∧ Pt.on a b x
instance {a b x : Pt} : Decidable (Pt.btw a b x) := by unfold Pt.btw; infer_instance
theorem xBtw_pt {p q r : Pt} (hp : p.ok) (hq : q.ok) (hr : r.ok) : spXBtw [.agg ⟨p.cells⟩, .agg ⟨q.cells⟩, .agg ⟨r.cells⟩] = some (.bool (decide (Pt.btw p q r))) := by
  unfold spXBtw Pt.cells
  simp only
  rw [if_pos ⟨⟨hp.1.1, hp.1.2.1, hp.1.2.2.1, hp.1.2.2.2, hq.1.1, hq.1.2.1, hq.1.2.2.1, hq.1.2.2.2, hr.1.1, hr.1.2.1, hr.1.2.2.1, hr.1.2.2.2⟩, hp.2, hq.2, hr.2⟩]
  congr 2
theorem lerp_pt {a b : Pt} {T : Rat} (ha : a.ok) (hb : b.ok) (hT : RB T 2) (a1 : RB (Rat.divInt a.x a.w) 6) (a2 : RB (Rat.divInt a.y a.w) 6) (a3 : RB (Rat.divInt a.z a.w) 6) (b1 : RB (Rat.divInt b.x b.w) 6) (b2 : RB (Rat.divInt b.y b.w) 6) (b3 : RB (Rat.divInt b.z b.w) 6) :
    ∃ X : Pt, spPLerp [.agg ⟨a.cells⟩, .agg ⟨b.cells⟩, .agg ⟨rE T⟩] = some (.agg ⟨X.cells⟩) ∧ X.can ∧ X.ok ∧
      Rat.divInt X.x X.w = Rat.divInt a.x a.w + T * (Rat.divInt b.x b.w - Rat.divInt a.x a.w) ∧ Rat.divInt X.y X.w = Rat.divInt a.y a.w + T * (Rat.divInt b.y b.w - Rat.divInt a.y a.w) ∧ Rat.divInt X.z X.w = Rat.divInt a.z a.w + T * (Rat.divInt b.z b.w - Rat.divInt a.z a.w) := by
  have r := fun {A B : Rat} (hA : RB A 6) (hB : RB B 6) => hA.add (k := 22) (hT.mul (k := 15) (hB.sub (k := 13) hA (by omega)) (by omega)) (by omega)
  obtain ⟨X, e, c, k, x1, x2, x3⟩ := Pt.of_coords (r a1 b1) (r a2 b2) (r a3 b3) (by omega) (by omega)
  refine ⟨X, ?_, c, k, x1, x2, x3⟩
  rw [← e]
  have w1 : pW a.w = a.w := pW_of (by have := ha.2; omega)
  have w2 : pW b.w = b.w := pW_of (by have := hb.2; omega)
  have t := fun {n : Nat} (h : n ≤ 65536) => (Nat.le_trans h (by omega) : n ≤ 67108864)
  unfold spPLerp Pt.cells rE
  simp only [rv_can]
  rw [if_pos ⟨⟨t ha.1.1, t ha.1.2.1, t ha.1.2.2.1, t ha.1.2.2.2⟩, ⟨t hb.1.1, t hb.1.2.1, t hb.1.2.2.1, t hb.1.2.2.2⟩, hT.num (by omega), hT.den (by omega)⟩]
  rw [show sv a.s4 a.l4 = a.w from rfl, show sv b.s4 b.l4 = b.w from rfl, w1, w2]; rfl
def spLBtw : List Value → Option Value
  | [.agg ⟨[.bool s1, .string ⟨⟨l1⟩⟩, .bool s2, .string ⟨⟨l2⟩⟩, .bool s3, .string ⟨⟨l3⟩⟩, .bool s4, .string ⟨⟨l4⟩⟩]⟩, .agg ⟨[.bool t1, .string ⟨⟨m1⟩⟩, .bool t2, .string ⟨⟨m2⟩⟩, .bool t3, .string ⟨⟨m3⟩⟩, .bool t4, .string ⟨⟨m4⟩⟩]⟩, .agg ⟨[.int .u8 n, .int .u8 d]⟩] => if 0 ≤ n ∧ n ≤ 255 ∧ 0 ≤ d ∧ d ≤ 255 then some (.bool true) else none
  | _ => none
def c7 : ICode :=
  (.seq (.reg [qq 3 (.box 30 8 (.t 0)), qq 4 (.box 30 8 (.t 1)), qq 5 (.box 45 2 (.t 2)), qq 6 (.mv (.c (.bool false)))]) (.seq (.dreg [qu 23 (.ixarr 2 1 (.t 5) (ci 0)), qu 24 (.load false 1 (.t 23)), qu 25 (.ixarr 2 1 (.t 5) (ci 1)), qu 26 (.load false 1 (.t 25)), qu 7 (.mv (.t 24)), qu 8 (.mv (.t 26))]) (.seq (.seq (.reg [qq 27 (.load true 8 (.t 3)), qq 28 (.load true 8 (.t 4)), qq 29 (.bslice 30 8 2 [(.bool false), e0, (.bool false), e0, (.bool false), e0, (.bool false), e0, (.bool false), e0, (.bool false), e0, (.bool false), e0, (.bool false), e0] [(0, 8, (.t 27)), (8, 8, (.t 28))]), qq 30 (.call 13 [(.t 29)]), qq 31 (.bin .gtr (.t 30) (ci 0))]) (.cond (.t 31) (.seq (.reg [qq 32 (.call 9 []), qq 6 (.mv (.t 32))]) .ret) .skip)) (.seq (.dreg [qu 33 (.load true 8 (.t 3)), qu 34 (.call 14 [(.t 33)]), qv 35 [1] (.load true 8 (.t 4)), qu 36 (.call 14 [(.t 35)]), qm (.store 8 (.t 3) (.t 34)), qm (.store 8 (.t 4) (.t 36))]) (.seq (.reg [qq 38 (.mv (.t 7)), qq 39 (.conv .i64 (.t 38)), qq 40 (.bin .add (ci 1) (.t 39)), qq 41 (.call 26 [(.t 40)]), qq 42 (.mv (.t 7)), qq 43 (.conv .i64 (.t 42)), qq 44 (.bin .add (ci 2) (.t 43)), qq 45 (.mv (.t 8)), qq 46 (.conv .i64 (.t 45)), qq 47 (.bin .add (.t 44) (.t 46)), qq 48 (.call 26 [(.t 47)]), qq 49 (.call 25 [(.t 41), (.t 48)]), qq 37 (.mv (.t 49)), qq 50 (.ext (.t 37) 0), qq 51 (.ext (.t 37) 1), qq 9 (.alloc 47 3 [(.bool false), e0, e0]), qn (.store 3 (.t 9) (.t 50)), qq 10 (.mv (.t 51))]) (.seq (.reg [qq 52 (.load true 8 (.t 3)), qq 53 (.load true 8 (.t 4)), qq 54 (.load true 3 (.t 9)), qq 55 (.call 27 [(.t 52), (.t 53), (.t 54)]), qq 11 (.alloc 30 8 [(.bool false), e0, (.bool false), e0, (.bool false), e0, (.bool false), e0]), qn (.store 8 (.t 11) (.t 55))]) (.seq (.seq (.reg [qq 56 (.load true 8 (.t 3)), qq 57 (.load true 8 (.t 4)), qq 58 (.call 28 [(.t 56), (.t 57)]), qq 59 (.bin .eql (.t 58) (ci 0))]) (.cond (.t 59) (.seq (.reg [qq 60 (.call 9 []), qq 61 (.mv (.t 60)), ⟨(some 62), (some (61, true)), (.load true 8 (.t 11))⟩, ⟨(some 63), (some (61, true)), (.load true 8 (.t 3))⟩, ⟨(some 64), (some (61, true)), (.eqa false [.b, .s, .b, .s, .b, .s, .b, .s] (.t 62) (.t 63))⟩, qq 65 (.pick (.t 61) (.t 64) (.c (.bool false))), qq 66 (.mv (.t 65)), ⟨(some 67), (some (66, true)), (.load true 8 (.t 3))⟩, ⟨(some 68), (some (66, true)), (.load true 8 (.t 4))⟩, ⟨(some 69), (some (66, true)), (.load true 8 (.t 11))⟩, ⟨(some 70), (some (66, true)), (.call 21 [(.t 67), (.t 68), (.t 69)])⟩, ⟨(some 71), (some (66, true)), (.un .not (.t 70))⟩, qq 72 (.pick (.t 66) (.t 71) (.c (.bool false))), qq 6 (.mv (.t 72))]) .ret) .skip)) (.seq (.dreg [qu 73 (.load true 8 (.t 3)), qu 74 (.load true 8 (.t 4)), qu 12 (.alloc 30 8 [(.bool false), e0, (.bool false), e0, (.bool false), e0, (.bool false), e0]), qu 13 (.alloc 30 8 [(.bool false), e0, (.bool false), e0, (.bool false), e0, (.bool false), e0]), ⟨none, none, [1001], (.store 8 (.t 12) (.t 73))⟩, qm (.store 8 (.t 13) (.t 74))]) (.seq (.seq (.reg [qq 75 (.load true 8 (.t 3)), qq 76 (.load true 8 (.t 4)), qq 77 (.call 28 [(.t 75), (.t 76)]), qq 78 (.bin .gtr (.t 77) (ci 0))]) (.cond (.t 78) (.dreg [qu 79 (.load true 8 (.t 4)), qu 80 (.load true 8 (.t 3)), ⟨none, none, [1001], (.store 8 (.t 12) (.t 79))⟩, qm (.store 8 (.t 13) (.t 80))]) .skip)) (.seq (.reg [qq 82 (.load true 8 (.t 3)), qq 83 (.load true 8 (.t 4)), qq 84 (.load true 8 (.t 4)), qq 85 (.load true 8 (.t 3)), qq 86 (.call 23 [(.t 82), (.t 83), (.t 84), (.t 85)]), qq 81 (.mv (.t 86)), qq 87 (.ext (.t 81) 0), qq 88 (.ext (.t 81) 1), qq 89 (.ext (.t 81) 2), qq 14 (.alloc 30 8 [(.bool false), e0, (.bool false), e0, (.bool false), e0, (.bool false), e0]), qq 15 (.alloc 30 8 [(.bool false), e0, (.bool false), e0, (.bool false), e0, (.bool false), e0]), qn (.store 8 (.t 14) (.t 87)), qn (.store 8 (.t 15) (.t 88)), qq 16 (.mv (.t 89))]) (.seq (.reg [qq 91 (.load true 8 (.t 3)), qq 92 (.load true 8 (.t 11)), qq 93 (.load true 8 (.t 3)), qq 94 (.load true 8 (.t 4)), qq 95 (.call 23 [(.t 91), (.t 92), (.t 93), (.t 94)]), qq 90 (.mv (.t 95)), qq 96 (.ext (.t 90) 0), qq 97 (.ext (.t 90) 1), qq 98 (.ext (.t 90) 2), qq 17 (.alloc 30 8 [(.bool false), e0, (.bool false), e0, (.bool false), e0, (.bool false), e0]), qq 18 (.alloc 30 8 [(.bool false), e0, (.bool false), e0, (.bool false), e0, (.bool false), e0]), qn (.store 8 (.t 17) (.t 96)), qn (.store 8 (.t 18) (.t 97)), qq 19 (.mv (.t 98))]) (.seq (.reg [qq 100 (.load true 8 (.t 3)), qq 101 (.load true 8 (.t 11)), qq 102 (.load true 8 (.t 11)), qq 103 (.load true 8 (.t 4)), qq 104 (.call 23 [(.t 100), (.t 101), (.t 102), (.t 103)]), qq 99 (.mv (.t 104)), qq 105 (.ext (.t 99) 0), qq 106 (.ext (.t 99) 1), qq 107 (.ext (.t 99) 2), qq 20 (.alloc 30 8 [(.bool false), e0, (.bool false), e0, (.bool false), e0, (.bool false), e0]), qq 21 (.alloc 30 8 [(.bool false), e0, (.bool false), e0, (.bool false), e0, (.bool false), e0]), qn (.store 8 (.t 20) (.t 105)), qn (.store 8 (.t 21) (.t 106)), qq 22 (.mv (.t 107))]) (.seq (.seq (.reg [qq 108 (.load true 8 (.t 17)), qq 109 (.load true 8 (.t 18)), qq 110 (.call 28 [(.t 108), (.t 109)]), qq 111 (.bin .geq (.t 110) (ci 0)), qq 112 (.mv (.t 111)), ⟨(some 113), (some (112, false)), (.load true 8 (.t 17))⟩, ⟨(some 114), (some (112, false)), (.load true 8 (.t 3))⟩, ⟨(some 115), (some (112, false)), (.eqa true [.b, .s, .b, .s, .b, .s, .b, .s] (.t 113) (.t 114))⟩, ⟨(some 116), (some (112, false)), (.mv (.t 115))⟩, ⟨(some 117), (some (116, false)), (.load true 8 (.t 18))⟩, ⟨(some 118), (some (116, false)), (.load true 8 (.t 11))⟩, ⟨(some 119), (some (116, false)), (.eqa true [.b, .s, .b, .s, .b, .s, .b, .s] (.t 117) (.t 118))⟩, ⟨(some 120), (some (112, false)), (.pick (.t 116) (.c (.bool true)) (.t 119))⟩, ⟨(some 121), (some (112, false)), (.mv (.t 120))⟩, ⟨(some 122), (some (121, true)), (.load true 8 (.t 17))⟩, ⟨(some 123), (some (121, true)), (.load true 8 (.t 11))⟩, ⟨(some 124), (some (121, true)), (.eqa true [.b, .s, .b, .s, .b, .s, .b, .s] (.t 122) (.t 123))⟩, ⟨(some 125), (some (121, true)), (.mv (.t 124))⟩, ⟨(some 126), (some (125, false)), (.load true 8 (.t 18))⟩, ⟨(some 127), (some (125, false)), (.load true 8 (.t 3))⟩, ⟨(some 128), (some (125, false)), (.eqa true [.b, .s, .b, .s, .b, .s, .b, .s] (.t 126) (.t 127))⟩, ⟨(some 129), (some (121, true)), (.pick (.t 125) (.c (.bool true)) (.t 128))⟩, ⟨(some 130), (some (112, false)), (.pick (.t 121) (.t 129) (.c (.bool false)))⟩, qq 131 (.pick (.t 112) (.c (.bool true)) (.t 130))]) (.cond (.t 131) (.seq (.reg [qq 6 (.mv (.c (.bool false)))]) .ret) .skip)) (.seq (.reg [qq 132 (.call 9 []), qq 133 (.mv (.t 132)), ⟨(some 134), (some (133, true)), (.load true 8 (.t 3))⟩, ⟨(some 135), (some (133, true)), (.load true 8 (.t 4))⟩, ⟨(some 136), (some (133, true)), (.load true 8 (.t 11))⟩, ⟨(some 137), (some (133, true)), (.call 21 [(.t 134), (.t 135), (.t 136)])⟩, qq 138 (.pick (.t 133) (.t 137) (.c (.bool false))), qq 139 (.mv (.t 138)), ⟨(some 140), (some (139, true)), (.load true 8 (.t 4))⟩, ⟨(some 141), (some (139, true)), (.load true 8 (.t 3))⟩, ⟨(some 142), (some (139, true)), (.load true 8 (.t 11))⟩, ⟨(some 143), (some (139, true)), (.call 21 [(.t 140), (.t 141), (.t 142)])⟩, qq 144 (.pick (.t 139) (.t 143) (.c (.bool false))), qq 145 (.mv (.t 144)), ⟨(some 146), (some (145, true)), (.load true 8 (.t 3))⟩, ⟨(some 147), (some (145, true)), (.load true 8 (.t 11))⟩, ⟨(some 148), (some (145, true)), (.load true 8 (.t 4))⟩, ⟨(some 149), (some (145, true)), (.call 21 [(.t 146), (.t 147), (.t 148)])⟩, ⟨(some 150), (some (145, true)), (.un .not (.t 149))⟩, qq 151 (.pick (.t 145) (.t 150) (.c (.bool false))), qq 152 (.mv (.t 151)), ⟨(some 153), (some (152, true)), (.mv (.t 16))⟩, qq 154 (.pick (.t 152) (.t 153) (.c (.bool false))), qq 155 (.mv (.t 154)), ⟨(some 156), (some (155, true)), (.load true 8 (.t 14))⟩, ⟨(some 157), (some (155, true)), (.load true 8 (.t 12))⟩, ⟨(some 158), (some (155, true)), (.eqa false [.b, .s, .b, .s, .b, .s, .b, .s] (.t 156) (.t 157))⟩, qq 159 (.pick (.t 155) (.t 158) (.c (.bool false))), qq 160 (.mv (.t 159)), ⟨(some 161), (some (160, true)), (.load true 8 (.t 15))⟩, ⟨(some 162), (some (160, true)), (.load true 8 (.t 13))⟩, ⟨(some 163), (some (160, true)), (.eqa false [.b, .s, .b, .s, .b, .s, .b, .s] (.t 161) (.t 162))⟩, qq 164 (.pick (.t 160) (.t 163) (.c (.bool false))), qq 165 (.mv (.t 164)), ⟨(some 166), (some (165, true)), (.mv (.t 19))⟩, qq 167 (.pick (.t 165) (.t 166) (.c (.bool false))), qq 168 (.mv (.t 167)), ⟨(some 169), (some (168, true)), (.mv (.t 22))⟩, ⟨(some 170), (some (168, true)), (.un .not (.t 169))⟩, qq 171 (.pick (.t 168) (.t 170) (.c (.bool false))), qq 6 (.mv (.t 171))]) .ret))))))))))))))
theorem tr7 : trFun Tryz.prog 7 = some ⟨172, [.t 6], c7⟩ := by kernel_rfl
set_option maxHeartbeats 8000000 in
theorem ok_lBtw : SpecOK Tryz.prog 7 (flat spLBtw) := by
  refine flat_run (env_cons ok_lGreat (env_cons ok_lFixed (env_cons ok_r4Norm (env_cons ok_iFrom (env_cons ok_qMake (env_cons ok_pLerp (env_cons ok_pCmp (env_cons ok_xBtw (env_cons ok_xOver (env_nil _)))))))))) mixed tr7 ?_
  intro args v h N hG
  unfold spLBtw at hG
  split at hG
  case h_2 => cases hG
  rename_i s1 l1 s2 l2 s3 l3 s4 l4 t1 m1 t2 m2 t3 m3 t4 m4 n d
  split at hG
  case isFalse => cases hG
  rename_i hl
  obtain ⟨hn0, hn1, hd0, hd1⟩ := hl
  cases hG
  refine ⟨rfl, by simp, ?_⟩
  simp only [c7, G0, Nat.reduceAdd]
  obtain ⟨Gq, eGq⟩ : ∃ g : Prop, g = ((List.all [(s1, l1), (s2, l2), (s3, l3), (s4, l4), (t1, m1), (t2, m2), (t3, m3), (t4, m4)] fun z => decide (z.2.length ≤ 6)) = true) := ⟨_, rfl⟩
  by_cases gq : Gq
  case neg =>
    have gq' : ¬ ((List.all [(s1, l1), (s2, l2), (s3, l3), (s4, l4), (t1, m1), (t2, m2), (t3, m3), (t4, m4)] fun z => decide (z.2.length ≤ 6)) = true) := eGq ▸ gq
    have gl : ∀ e h' b N', b = [.bool s1, .string ⟨⟨l1⟩⟩, .bool s2, .string ⟨⟨l2⟩⟩, .bool s3, .string ⟨⟨l3⟩⟩, .bool s4, .string ⟨⟨l4⟩⟩, .bool t1, .string ⟨⟨m1⟩⟩, .bool t2, .string ⟨⟨m2⟩⟩, .bool t3, .string ⟨⟨m3⟩⟩, .bool t4, .string ⟨⟨m4⟩⟩] → spLGreat [.slice (some ⟨N', 0, none⟩) 2 2] ((N', some ⟨e, 8, true, b⟩) :: h') = some (.int .i64 1) := by
      intro e h' b N' eb
      subst eb
      unfold spLGreat
      simp only [hget, if_true, ints, Option.map_some, Nat.reduceMul, List.length_cons, List.length_nil, List.take_succ_cons, List.take_zero]
      rw [if_pos (by decide)]
      simp only [gq', Bool.false_eq_true, if_false, if_true]
    have gl' := fun e h' N' => gl e h' _ N' rfl
    simp only [↓R0, R1, simprocAttr, -Int.reduceAbs, rdS, gl', spLFixed, Fin, isEnd, resL, res1, iE, rE]
    exact ⟨_, rfl, rfl, fun k hk => by simp only [ne_nb hk, if_false]⟩
  have gq' : (List.all [(s1, l1), (s2, l2), (s3, l3), (s4, l4), (t1, m1), (t2, m2), (t3, m3), (t4, m4)] fun z => decide (z.2.length ≤ 6)) = true := eGq ▸ gq
  have gl' : ∀ e h' N', spLGreat [.slice (some ⟨N', 0, none⟩) 2 2] ((N', some ⟨e, 8, true, [.bool s1, .string ⟨⟨l1⟩⟩, .bool s2, .string ⟨⟨l2⟩⟩, .bool s3, .string ⟨⟨l3⟩⟩, .bool s4, .string ⟨⟨l4⟩⟩, .bool t1, .string ⟨⟨m1⟩⟩, .bool t2, .string ⟨⟨m2⟩⟩, .bool t3, .string ⟨⟨m3⟩⟩, .bool t4, .string ⟨⟨m4⟩⟩]⟩) :: h') = some (.int .i64 0) := by
    have gl : ∀ e h' b N', b = [.bool s1, .string ⟨⟨l1⟩⟩, .bool s2, .string ⟨⟨l2⟩⟩, .bool s3, .string ⟨⟨l3⟩⟩, .bool s4, .string ⟨⟨l4⟩⟩, .bool t1, .string ⟨⟨m1⟩⟩, .bool t2, .string ⟨⟨m2⟩⟩, .bool t3, .string ⟨⟨m3⟩⟩, .bool t4, .string ⟨⟨m4⟩⟩] → spLGreat [.slice (some ⟨N', 0, none⟩) 2 2] ((N', some ⟨e, 8, true, b⟩) :: h') = some (.int .i64 0) := by
      intro e h' b N' eb
      subst eb
      unfold spLGreat
      simp only [hget, if_true, ints, Option.map_some, Nat.reduceMul, List.length_cons, List.length_nil, List.take_succ_cons, List.take_zero]
      rw [if_pos (by decide)]
      simp only [gq', Bool.false_eq_true, if_false, if_true]
    have gl' := fun e h' N' => gl e h' _ N' rfl
    exact gl'
  simp only [List.all_cons, List.all_nil, Bool.and_true, Bool.and_eq_true, decide_eq_true_eq] at gq'
  obtain ⟨ha1, ha2, ha3, ha4, hb1, hb2, hb3, hb4⟩ := gq'
  obtain ⟨a, na, ca, ka, a1, a2, a3⟩ := r4Norm_p6 (s1 := s1) (s2 := s2) (s3 := s3) (s4 := s4) ha1 ha2 ha3 ha4
  obtain ⟨b, nb, cb, kb, b1, b2, b3⟩ := r4Norm_p6 (s1 := t1) (s2 := t2) (s3 := t3) (s4 := t4) hb1 hb2 hb3 hb4
  have w1 : IntKind.i64.wrap n = n := i64_in _ (by omega)
  have w2 : IntKind.i64.wrap (1 + n) = 1 + n := i64_in _ (by omega)
  have w3 : IntKind.i64.wrap (2 + n) = 2 + n := i64_in _ (by omega)
  have w4 : IntKind.i64.wrap d = d := i64_in _ (by omega)
  have w5 : IntKind.i64.wrap (2 + n + d) = 2 + n + d := i64_in _ (by omega)
  have m1 : (bl (1 + n).natAbs).length ≤ 2 := bl_length_le.2 (Nat.lt_of_le_of_lt (by omega : (1 + n).natAbs ≤ 256) (by decide))
  have m2 : (bl (2 + n + d).natAbs).length ≤ 2 := bl_length_le.2 (Nat.lt_of_le_of_lt (by omega : (2 + n + d).natAbs ≤ 512) (by decide))
  have m1' := Nat.le_trans m1 (by omega : 2 ≤ 34359738368)
  have m2' := Nat.le_trans m2 (by omega : 2 ≤ 34359738368)
  have m3 : ((2 + n + d).natAbs = 0) = False := eq_false (by omega)
  have q1 : ((-9223372036854775808 ≤ 1 + n ∧ 1 + n ≤ 9223372036854775807)) = True := eq_true (by omega)
  have q2 : ((-9223372036854775808 ≤ 2 + n + d ∧ 2 + n + d ≤ 9223372036854775807)) = True := eq_true (by omega)
  have hT := divInt_RB (k := 2) (by omega : 2 + n + d ≠ 0) m1 m2
  obtain ⟨T, eT⟩ : ∃ T, Rat.divInt (1 + n) (2 + n + d) = T := ⟨_, rfl⟩
  have eT' : T = Rat.divInt (1 + n) ((1 + n) + (1 + d)) := by rw [← eT]; congr 1; omega
  rw [eT] at hT
  obtain ⟨X, fL, cX, kX, x1, x2, x3⟩ := lerp_pt ka kb hT a1 a2 a3 b1 b2 b3
  have fc := pCmp_pt ka kb
  have lT1 := hT.num (k := 67108864) (by omega)
  by_cases h0 : Pt.cmp a b = 0
  · have eab := Pt.can_eq ca cb h0
    subst eab
    have z : ∀ A : Rat, A + T * (A - A) = A := fun A => by grind
    rw [z] at x1 x2 x3
    have i1 : ∀ {p q u v : Int}, 0 < p → 0 < q → Rat.divInt u p = Rat.divInt v q → u * q = v * p := fun hp hq e => (Rat.divInt_eq_divInt_iff (by omega) (by omega)).1 e
    have eX : X = a := by
      refine Pt.can_eq cX ca ?_
      have u1 := i1 kX.2 ka.2 x1
      have u2 := i1 kX.2 ka.2 x2
      have u3 := i1 kX.2 ka.2 x3
      unfold Pt.cmp cmp4 lex3
      simp [u1, u2, u3]
    subst eX
    have fb := xBtw_pt ka ka ka
    have fd : decide (Pt.btw X X X) = false := decide_eq_false (fun e => e.1 (Pt.cmp_self X))
    rw [fd] at fb
    rw [h0] at fc
    clear cX kX x1 x2 x3 a1 a2 a3 b1 b2 b3 ka kb ca cb z i1 h0 hT fd
    obtain ⟨aa1, aa2, aa3, aa4, aa5, aa6, aa7, aa8⟩ := X
    simp only [Pt.cells, rE] at *
    simp only [↓R0, R1, simprocAttr, -Int.reduceAbs, rdS, gl', na, nb, w1, w2, w3, w4, w5, m1', m2', m3, q1, q2, spIFrom, iE, spQMake, nl_bl, eT, fL, fc, fb, spLFixed, ceq8, decide_true, Bool.not_false, Fin, isEnd, resL, res1, iE, rE]
    exact ⟨_, rfl, rfl, fun k hk => by simp only [ne_nb hk, if_false]⟩
  have hs : Pt.cmp a b = 1 ∨ Pt.cmp a b = -1 := by
    have := cmp4_vals a.x a.y a.z a.w b.x b.y b.z b.w
    have e : Pt.cmp a b = cmp4 a.x a.y a.z a.w b.x b.y b.z b.w := rfl
    omega
  rw [eT'] at x1 x2 x3
  have D : Pt.Div a b X (1 + n) (1 + d) := ⟨ka.2, kb.2, kX.2, by omega, by omega, lerp_int ka.2 kb.2 kX.2 (by omega) (by omega) x1, lerp_int ka.2 kb.2 kX.2 (by omega) (by omega) x2, lerp_int ka.2 kb.2 kX.2 (by omega) (by omega) x3⟩
  have hax := D.ax
  have hxb := D.xb
  have hon := D.on
  have nab := Pt.cmp_neg a b
  have nax := Pt.cmp_neg a X
  have nxb := Pt.cmp_neg X b
  have swab : Pt.on b a X := Pt.on_swap a b X ▸ hon.1
  have o1 := xOver_pt ka kb kb ka
  have o2 := xOver_pt ka kX ka kb
  have o3 := xOver_pt ka kX kX kb
  have ne1 : a ≠ X := fun e => by have := Pt.cmp_self X; rw [e] at hax h0; omega
  have t1 := xBtw_pt ka kb kX
  have t2 := xBtw_pt kb ka kX
  have t3 := xBtw_pt ka kX kb
  have ft1 : decide (Pt.btw a b X) = true := decide_eq_true ⟨by omega, by omega, hon.1⟩
  have ft2 : decide (Pt.btw b a X) = true := decide_eq_true ⟨by omega, by omega, swab⟩
  have ft3 : decide (Pt.btw a X b) = false := decide_eq_false (fun e => by have := e.2.1; omega)
  rw [ft1] at t1
  rw [ft2] at t2
  rw [ft3] at t3
  have ne1' := eq_false ne1
  have ne2' := eq_false ne1.symm
  rcases hs with hs | hs
  · rw [Pt.over_whole (.inl rfl) hs] at o1
    obtain ⟨v2, v3, v4⟩ := Pt.over_part (.inl rfl) hs (hax.trans hs) (hxb.trans hs) hon.2
    rw [v2] at o2
    rw [v3] at o3
    have l1 : Pt.lo a b = b := if_pos (by omega)
    have l2 : Pt.hi a b = a := if_pos (by omega)
    have l3 : Pt.lo a X = X := if_pos (by omega)
    have l4 : Pt.hi a X = a := if_pos (by omega)
    rw [l1, l2] at o1
    rw [l3, l4] at o2 v4
    have fd := pCmp_pt kX ka
    rw [v4] at fd
    rw [hs] at fc
    clear v2 v3 v4 l1 l2 l3 l4 ft1 ft2 ft3 ne1 swab nab nax nxb hon hax hxb D cX ca cb ka kb kX a1 a2 a3 b1 b2 b3 h0 hs x1 x2 x3 hT
    obtain ⟨aa1, aa2, aa3, aa4, aa5, aa6, aa7, aa8⟩ := a
    obtain ⟨bb1, bb2, bb3, bb4, bb5, bb6, bb7, bb8⟩ := b
    obtain ⟨xx1, xx2, xx3, xx4, xx5, xx6, xx7, xx8⟩ := X
    simp only [Pt.cells, rE, ovE] at *
    simp only [↓R0, R1, simprocAttr, -Int.reduceAbs, rdS, gl', na, nb, w1, w2, w3, w4, w5, m1', m2', m3, q1, q2, spIFrom, iE, spQMake, nl_bl, eT, rE, fL, fc, fd, o1, o2, o3, t1, t2, t3, ne1', ne2', spLFixed, ceq8, pZ, decide_true, decide_false, Bool.not_false, Bool.not_true, gt_iff_lt, ge_iff_le, Fin, isEnd, resL, res1, iE, rE]
    exact ⟨_, rfl, rfl, fun k hk => by simp only [ne_nb hk, if_false]⟩
  · rw [Pt.over_whole (.inr rfl) hs] at o1
    obtain ⟨v2, v3, v4⟩ := Pt.over_part (.inr rfl) hs (hax.trans hs) (hxb.trans hs) hon.2
    rw [v2] at o2
    rw [v3] at o3
    have l1 : Pt.lo a b = a := if_neg (by omega)
    have l2 : Pt.hi a b = b := if_neg (by omega)
    have l3 : Pt.lo a X = a := if_neg (by omega)
    have l4 : Pt.hi a X = X := if_neg (by omega)
    rw [l1, l2] at o1
    rw [l3, l4] at o2 v4
    have fd := pCmp_pt ka kX
    rw [v4] at fd
    rw [hs] at fc
    clear v2 v3 v4 l1 l2 l3 l4 ft1 ft2 ft3 ne1 swab nab nax nxb hon hax hxb D cX ca cb ka kb kX a1 a2 a3 b1 b2 b3 h0 hs x1 x2 x3 hT
    obtain ⟨aa1, aa2, aa3, aa4, aa5, aa6, aa7, aa8⟩ := a
    obtain ⟨bb1, bb2, bb3, bb4, bb5, bb6, bb7, bb8⟩ := b
    obtain ⟨xx1, xx2, xx3, xx4, xx5, xx6, xx7, xx8⟩ := X
    simp only [Pt.cells, rE, ovE] at *
    simp only [↓R0, R1, simprocAttr, -Int.reduceAbs, rdS, gl', na, nb, w1, w2, w3, w4, w5, m1', m2', m3, q1, q2, spIFrom, iE, spQMake, nl_bl, eT, rE, fL, fc, fd, o1, o2, o3, t1, t2, t3, ne1', ne2', spLFixed, ceq8, pZ, decide_true, decide_false, Bool.not_false, Bool.not_true, gt_iff_lt, ge_iff_le, Fin, isEnd, resL, res1, iE, rE]
    exact ⟨_, rfl, rfl, fun k hk => by simp only [ne_nb hk, if_false]⟩
end Go.Eng
end
section
set_option linter.unusedVariables false
set_option linter.unusedSimpArgs false
set_option linter.unusedSectionVars false
namespace Go.Eng.K
open Go.Eng
inductive Ki where
  | b | i (k : IntKind) | s
def kiFs (ty : TypeId → Option (List Ki)) (P : Program) : List Field → Nat → Option (List Ki)
  | [], _ => some []
  | f :: r, off =>
    if f.name ≠ "_" ∧ f.offset = off then
      match ty f.type, szOf P f.type with
      | some ks, some n => if ks.length = n then (kiFs ty P r (off + n)).map (ks ++ ·) else none
      | _, _ => none
    else none
def kiTy (P : Program) : Nat → TypeId → Option (List Ki)
  | 0, _ => none
  | d + 1, t =>
    match P.underlying t with
    | some .bool => some [.b]
    | some (.int k) => some [.i k]
    | some .string => some [.s]
    | some (.struct fs) => if P.stoodInHeld t then none else kiFs (kiTy P d) P fs.toList 0
    | some (.array len e) => match kiTy P d e, szOf P e with
      | some ks, some n => if ks.length = n then some (List.replicate len ks).flatten else none
      | _, _ => none
    | _ => none
def kmatch : List Ki → List Value → Prop
  | [], [] => True
  | .b :: ks, .bool _ :: r => kmatch ks r
  | .i k :: ks, .int k' n :: r => (k' = k ∧ (Lit.int k n).wf = true) ∧ kmatch ks r
  | .s :: ks, .string s :: r => s.size ≤ maxLen ∧ kmatch ks r
  | _, _ => False
theorem kmatch_append : ∀ {ks ks' : List Ki} {cs cs' : List Value}, kmatch ks cs → kmatch ks' cs' → kmatch (ks ++ ks') (cs ++ cs')
  | [], _, [], _, _, h => h
  | [], _, _ :: _, _, h, _ => h.elim
  | .b :: ks, ks', cs, cs', h, h' => by
    match cs, h with
    | .bool _ :: r, h => exact kmatch_append (ks := ks) h h'
  | .i k :: ks, ks', cs, cs', h, h' => by
    match cs, h with
    | .int _ _ :: r, h => exact ⟨h.1, kmatch_append (ks := ks) h.2 h'⟩
  | .s :: ks, ks', cs, cs', h, h' => by
    match cs, h with
    | .string _ :: r, h => exact ⟨h.1, kmatch_append (ks := ks) h.2 h'⟩
section
variable {H : Type} {enc : TypeId × Value → H} {P : Program}
theorem cellsOf_sz {t : TypeId} {n : Nat} (h : szOf P t = some n) : P.cellsOf t = n := by
  unfold Program.cellsOf; unfold szOf at h; rw [h]; rfl
def Plain (P : Program) (enc : TypeId × Value → H) (fuel : Nat) (t : TypeId) (ks : List Ki) : Prop :=
  ∀ (w : World) (base : Nat) (spare : Nat → Bool) (held : Bool) (cs : List Value) (x : DataW H × List MemPlace), DataW.trod enc P w base spare held fuel t cs = some x →
    kmatch ks cs ∧ x.2 = [] ∧ ∀ w' base' spare' held', DataW.trod enc P w' base' spare' held' fuel t cs = some x
theorem plain_fields {fuel : Nat} {ty : TypeId → Option (List Ki)} (hty : ∀ t ks n, ty t = some ks → szOf P t = some n → ks.length = n → Plain P enc fuel t ks) :
    ∀ (fs : List Field) (off : Nat) (ks : List Ki), kiFs ty P fs off = some ks → ∀ (w : World) (base : Nat) (spare : Nat → Bool) (held : Bool) (cs : List Value) (xs : List (DataW H × List MemPlace)),
      (fs.mapM fun f => DataW.trod enc P w base spare held fuel f.type ((cs.drop f.offset).take (P.cellsOf f.type))) = some xs → cs.length = off + ks.length →
      kmatch ks (cs.drop off) ∧ xs.flatMap (·.2) = [] ∧ ∀ w' base' spare' held', (fs.mapM fun f => DataW.trod enc P w' base' spare' held' fuel f.type ((cs.drop f.offset).take (P.cellsOf f.type))) = some xs
  | [], off, ks, h, w, base, spare, held, cs, xs, hm, hl => by
    simp only [kiFs, Option.some.injEq] at h
    subst h
    simp only [List.mapM_nil, Option.pure_def, Option.some.injEq] at hm
    subst hm
    simp only [List.length_nil, Nat.add_zero] at hl
    rw [List.drop_eq_nil_of_le (by omega)]
    exact ⟨trivial, rfl, fun _ _ _ _ => rfl⟩
  | f :: r, off, ks, h, w, base, spare, held, cs, xs, hm, hl => by
    simp only [kiFs] at h
    split at h
    case isFalse => cases h
    rename_i hc
    obtain ⟨_, hoff⟩ := hc
    split at h
    case h_2 => cases h
    rename_i ks0 n hk hn
    split at h
    case isFalse => cases h
    rename_i hlen
    rw [Option.map_eq_some_iff] at h
    obtain ⟨ks1, h1, rfl⟩ := h
    have hsz := cellsOf_sz hn
    simp only [List.mapM_cons, Option.bind_eq_bind, Option.bind_eq_some_iff, Option.pure_def, Option.some.injEq] at hm
    obtain ⟨y, hy, ys, hys, rfl⟩ := hm
    have hp := hty f.type ks0 n hk hn hlen w base spare held _ y hy
    obtain ⟨p1, p2, p3⟩ := hp
    simp only [List.length_append] at hl
    obtain ⟨q1, q2, q3⟩ := plain_fields hty r (off + n) ks1 h1 w base spare held cs ys hys (by omega)
    rw [hoff, hsz] at p1
    refine ⟨?_, ?_, ?_⟩
    · have e : cs.drop off = (cs.drop off).take n ++ cs.drop (off + n) := by
        rw [← List.drop_drop, List.take_append_drop]
      rw [e]
      exact kmatch_append p1 q1
    · simp only [List.flatMap_cons, p2, q2, List.nil_append]
    · intro w' base' spare' held'
      simp only [List.mapM_cons, Option.bind_eq_bind, Option.bind_eq_some_iff, Option.pure_def, Option.some.injEq]
      exact ⟨y, p3 w' base' spare' held', ys, q3 w' base' spare' held', rfl⟩
theorem plain_elems {fuel : Nat} {e : TypeId} {ks : List Ki} {n : Nat} (hn : szOf P e = some n) (hl : ks.length = n) (he : Plain P enc fuel e ks) :
    ∀ (m i0 : Nat) (w : World) (base : Nat) (spare : Nat → Bool) (held : Bool) (cs : List Value) (xs : List (DataW H × List MemPlace)),
      ((List.range' i0 m).mapM fun i => DataW.trod enc P w base spare held fuel e ((cs.drop (i * P.cellsOf e)).take (P.cellsOf e))) = some xs → cs.length = (i0 + m) * n →
      kmatch (List.replicate m ks).flatten (cs.drop (i0 * n)) ∧ xs.flatMap (·.2) = [] ∧ ∀ w' base' spare' held', ((List.range' i0 m).mapM fun i => DataW.trod enc P w' base' spare' held' fuel e ((cs.drop (i * P.cellsOf e)).take (P.cellsOf e))) = some xs
  | 0, i0, w, base, spare, held, cs, xs, hm, hlen => by
    simp only [List.range'_zero, List.mapM_nil, Option.pure_def, Option.some.injEq] at hm
    subst hm
    simp only [Nat.add_zero] at hlen
    rw [List.drop_eq_nil_of_le (by omega)]
    exact ⟨trivial, rfl, fun _ _ _ _ => by simp⟩
  | m + 1, i0, w, base, spare, held, cs, xs, hm, hlen => by
    have hsz := cellsOf_sz hn
    simp only [List.range'_succ, List.mapM_cons, Option.bind_eq_bind, Option.bind_eq_some_iff, Option.pure_def, Option.some.injEq] at hm
    obtain ⟨y, hy, ys, hys, rfl⟩ := hm
    obtain ⟨p1, p2, p3⟩ := he w base spare held _ y hy
    obtain ⟨q1, q2, q3⟩ := plain_elems hn hl he m (i0 + 1) w base spare held cs ys hys (by rw [hlen]; congr 1; omega)
    rw [hsz] at p1
    refine ⟨?_, ?_, ?_⟩
    · rw [List.replicate_succ, List.flatten_cons]
      have e : cs.drop (i0 * n) = (cs.drop (i0 * n)).take n ++ cs.drop ((i0 + 1) * n) := by
        rw [Nat.succ_mul, ← List.drop_drop, List.take_append_drop]
      rw [e]
      exact kmatch_append p1 q1
    · simp only [List.flatMap_cons, p2, q2, List.nil_append]
    · intro w' base' spare' held'
      simp only [List.range'_succ, List.mapM_cons, Option.bind_eq_bind, Option.bind_eq_some_iff, Option.pure_def, Option.some.injEq]
      exact ⟨y, p3 w' base' spare' held', ys, q3 w' base' spare' held', rfl⟩
theorem plain_ty : ∀ (fuel d : Nat) (t : TypeId) (ks : List Ki) (n : Nat), kiTy P d t = some ks → szOf P t = some n → ks.length = n → Plain P enc fuel t ks
  | 0, d, t, ks, n, h, hn, hl => by intro w base spare held cs x hx; simp [DataW.trod] at hx
  | fuel + 1, 0, t, ks, n, h, hn, hl => by simp [kiTy] at h
  | fuel + 1, d + 1, t, ks, n, h, hn, hl => by
    intro w base spare held cs x hx
    unfold kiTy at h
    unfold DataW.trod at hx ⊢
    split at h
    · rename_i hu
      cases h
      rw [hu] at hx ⊢
      match cs, hx with
      | [.bool b], hx => simp only [Option.some.injEq] at hx; subst hx; exact ⟨trivial, rfl, fun _ _ _ _ => rfl⟩
    · rename_i k hu
      cases h
      rw [hu] at hx ⊢
      match cs, hx with
      | [.int k' m], hx =>
        simp only at hx
        split at hx
        · rename_i hc
          simp only [Option.some.injEq] at hx; subst hx
          exact ⟨⟨hc, trivial⟩, rfl, fun _ _ _ _ => by simp only; rw [if_pos hc]⟩
        · cases hx
    · rename_i hu
      cases h
      rw [hu] at hx ⊢
      match cs, hx with
      | [.string s], hx =>
        simp only at hx
        split at hx
        · rename_i hc
          simp only [Option.some.injEq] at hx; subst hx
          exact ⟨⟨hc, trivial⟩, rfl, fun _ _ _ _ => by simp only; rw [if_pos hc]⟩
        · cases hx
    · rename_i fs hu
      split at h
      · cases h
      rw [hu] at hx ⊢
      simp only at hx ⊢
      split at hx
      case isFalse => cases hx
      rename_i hlen
      rw [Option.map_eq_some_iff] at hx
      obtain ⟨xs, hxs, rfl⟩ := hx
      rw [cellsOf_sz hn, ← hl] at hlen
      obtain ⟨p1, p2, p3⟩ := plain_fields (fuel := fuel) (fun t ks n h1 h2 h3 => plain_ty fuel d t ks n h1 h2 h3) fs.toList 0 ks h w base spare held cs xs hxs (by omega)
      refine ⟨by simpa using p1, p2, fun w' base' spare' held' => ?_⟩
      rw [if_pos (by rw [cellsOf_sz hn, ← hl, hlen]), p3]; rfl
    · rename_i len e hu
      split at h
      case h_2 => cases h
      rename_i ks0 m hk hm
      split at h
      case isFalse => cases h
      rename_i hlm
      simp only [Option.some.injEq] at h
      subst h
      rw [hu] at hx ⊢
      simp only at hx ⊢
      split at hx
      case isFalse => cases hx
      rename_i hlen
      rw [Option.map_eq_some_iff] at hx
      obtain ⟨xs, hxs, rfl⟩ := hx
      rw [cellsOf_sz hn, ← hl] at hlen
      rw [List.range_eq_range'] at hxs
      have hfl : ((List.replicate len ks0).flatten).length = len * m := by rw [List.length_flatten]; simp [hlm]
      obtain ⟨p1, p2, p3⟩ := plain_elems hm hlm (plain_ty fuel d e ks0 m hk hm hlm) len 0 w base spare held cs xs hxs (by rw [hlen, hfl, Nat.zero_add])
      refine ⟨by simpa using p1, p2, fun w' base' spare' held' => ?_⟩
      rw [if_pos (by rw [cellsOf_sz hn, ← hl, hlen]), List.range_eq_range', p3]; rfl
    · cases h
theorem trod_plain {w : World} {t : TypeId} {v : Value} {d : DataW H} {ps : List MemPlace} {ks : List Ki} {n : Nat} {base : Nat} {spare : Nat → Bool} {held : Bool}
    (hf : kiTy P 20 t = some ks) (hs : szOf P t = some n) (hl : ks.length = n) (h : DataW.Trod enc P w base spare held t v d ps) :
    kmatch ks v.cells.toList ∧ ps = [] ∧ ∀ w' base' spare' held', DataW.Trod enc P w' base' spare' held' t v d ps := by
  obtain ⟨fuel, h⟩ := h
  obtain ⟨p1, p2, p3⟩ := plain_ty fuel 20 t ks n hf hs hl w base spare held _ _ h
  exact ⟨p1, p2, fun w' base' spare' held' => ⟨fuel, p3 w' base' spare' held'⟩⟩
end
theorem agg_of {v : Value} {cs : List Value} (h : v.cells.toList = cs) (h2 : 2 ≤ cs.length) : v = .agg ⟨cs⟩ := by
  rw [vcells_eq] at h
  cases v <;> simp [vcells] at h <;> subst h <;> first | rfl | simp at h2
theorem flat_calls {P : Program} {f : Nat} {G : List Value → Option Value} (hS : SpecOK P f (flat G)) {args : List Value} {v : Value} (hG : G args = some v) (ha : ∀ β, VRs β args args) (hv : isBase v = true) (w : World) :
    Calls P f ⟨args⟩ w fun e w' => e = .returned v ∧ w.keptBut w' (fun _ => False) := by
  have h := hS.ok args [] 0 (v, [], 0) (by simp [flat, hG]) (fun _ => none) w args (ha _)
    ⟨fun k b e => by simp [hget] at e, fun k k' L L' e => by simp [hget] at e, fun k L e => by cases e⟩ (fun _ _ _ => rfl) ⟨0, fun k e => absurd rfl e⟩
  refine h.mono ?_
  rintro e w' ⟨β', v', he, hvr, hrel, hfr, _⟩
  refine ⟨?_, hfr.os, hfr.out, fun i hi => ?_⟩
  · rw [he, hvr.base_left hv]
  · rw [hfr.keep i hi (fun k L hk => by simp [hget] at hk)]
    cases w.heap[i]? with
    | none => rfl
    | some o =>
      cases o with
      | cells c t fr => exact ⟨rfl, rfl, rfl, fun _ _ => rfl⟩
      | map es cl => exact .inr ⟨rfl, rfl⟩
      | _ => rfl
theorem wf_u8 {n : Int} (h : (Lit.int .u8 n).wf = true) : 0 ≤ n ∧ n ≤ 255 := by simpa [Lit.wf, IntKind.min, IntKind.max, IntKind.signed, IntKind.bits] using h
end Go.Eng.K
end
