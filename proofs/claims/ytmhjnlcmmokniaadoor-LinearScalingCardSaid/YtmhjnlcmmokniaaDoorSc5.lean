/-
  A part of the proof: the machine, the contracts of the functions and the plain laws, merged from smaller texts.
-/
import Derived.Test.YtmhjnlcmmokniaaDoorSc4
import Derived.RowKit3
import Derived.ChangeSame
import Derived.ReadAgain
import Derived.Deep.Slices
import Derived.WideShapes
section
set_option linter.unusedVariables false
set_option linter.unusedSimpArgs false
set_option linter.unusedSectionVars false
set_option maxRecDepth 20000
namespace Go.Eng
open Go Go.Proofs Go.IntWalk
def scF (ρ : Nat → Nat) (n : Nat) (l : List EqR) (j : Nat) : List Value := .slice (some ⟨ρ j, 0, none⟩) n n :: (eqAt l j).tl
theorem scF_5 (ρ : Nat → Nat) (n : Nat) (l : List EqR) (m : Nat) : ∀ j, j < m → (scF ρ n l j).length = 5 := fun _ _ => rfl
theorem scF_ok (ρ : Nat → Nat) (n : Nat) (l : List EqR) (m : Nat) : ∀ j, j < m → (scF ρ n l j).all okCell = true := fun _ _ => rfl
def updN (ρ : Nat → Nat) (i v : Nat) : Nat → Nat := fun j => if j = i then v else ρ j
theorem updN_eq (ρ : Nat → Nat) (i v : Nat) : updN ρ i v i = v := if_pos rfl
theorem updN_ne {ρ : Nat → Nat} {i v j : Nat} (h : j ≠ i) : updN ρ i v j = ρ j := if_neg h
def ScS (hp : Heap) (N M n : Nat) (l : List EqR) (i : Nat) (sl : Value) : Prop :=
  (i = 0 ∧ sl = .slice none 0 0) ∨ (0 < i ∧ ∃ (kL : Nat) (x : Bool) (ρ : Nat → Nat), sl = .slice (some ⟨kL, 0, none⟩) i i ∧ hget hp kL = some ⟨28, 5, x, blkC (scF ρ n l) i⟩ ∧ (N ≤ kL ∧ kL < M) ∧
    ∀ j, j < i → (∃ y, hget hp (ρ j) = some ⟨24, 3, y, rqs (eqAt l j).coef⟩) ∧ N ≤ ρ j ∧ ρ j < M ∧ ρ j ≠ kL)
theorem ScS.push {hp hp' : Heap} {N M M' n i kN rN : Nat} {l : List EqR} {x y : Bool} {ρ : Nat → Nat}
    (old : ∀ j, j < i → (∃ y, hget hp (ρ j) = some ⟨24, 3, y, rqs (eqAt l j).coef⟩) ∧ N ≤ ρ j ∧ ρ j < M) (keep : ∀ j, j < i → hget hp' (ρ j) = hget hp (ρ j))
    (hk : hget hp' kN = some ⟨28, 5, x, blkC (scF ρ n l) i ++ (.slice (some ⟨rN, 0, none⟩) n n :: (eqAt l i).tl)⟩) (hr : hget hp' rN = some ⟨24, 3, y, rqs (eqAt l i).coef⟩) (h1 : M ≤ kN) (h2 : kN < M') (h3 : M ≤ rN) (h4 : rN < M') (h5 : rN ≠ kN) (h6 : N ≤ M) :
    ScS hp' N M' n l (i + 1) (.slice (some ⟨kN, 0, none⟩) (i + 1) (i + 1)) := by
  refine .inr ⟨by omega, kN, x, updN ρ i rN, rfl, ?_, by omega, fun j hj => ?_⟩
  · rw [hk]
    congr 2
    show _ = blkC _ i ++ _
    congr 1
    · exact blkC_congr fun j hj => by unfold scF; rw [updN_ne (by omega)]
    · unfold scF; rw [updN_eq]
  · by_cases e : j = i
    · subst e
      rw [updN_eq]
      exact ⟨⟨y, hr⟩, by omega, h4, h5⟩
    · rw [updN_ne e]
      obtain ⟨⟨y, a⟩, b, c⟩ := old j (by omega)
      exact ⟨⟨y, by rw [keep j (by omega)]; exact a⟩, b, by omega, by omega⟩
theorem ScS.rows {hp hp' : Heap} {N M n : Nat} {l : List EqR} {sl : Value} (H : ScS hp N M n l l.length sl) (hn : 0 < n) (hl : ∀ e ∈ l, e.coef.length = n) (he : ExtL M hp hp') : decRows hp' sl = some l := by
  rcases H with ⟨z, rfl⟩ | ⟨_, kL, x, ρ, rfl, hk, hb, hr⟩
  · rw [List.eq_nil_of_length_eq_zero z]; rfl
  · refine rows_blk (f := scF ρ n l) (by rw [he kL hb.2]; exact hk) rfl fun i hi => ?_
    obtain ⟨⟨y, a⟩, b, c, _⟩ := hr i hi
    exact ⟨_, rfl, rqs_list (by rw [he _ c]; exact a) (hl _ (eqAt_mem hi)) hn⟩
theorem ScS.sl {hp : Heap} {N M n i : Nat} {l : List EqR} {sl : Value} (H : ScS hp N M n l i sl) : ∃ a, sl = .slice a i i := by
  rcases H with ⟨z, rfl⟩ | ⟨_, kL, x, ρ, rfl, _⟩
  · exact ⟨none, by rw [z]⟩
  · exact ⟨_, rfl⟩
theorem int_at {h : Heap} {a : Option Addr} {n c : Nat} {l : List Int} {i : Nat} (e : listAt 1 decN h (.slice a n c) = some l) (hi : i < n) :
    ∃ k off blk, a = some ⟨k, off, none⟩ ∧ hget h k = some blk ∧ off + i * 1 + 1 ≤ blk.cells.length ∧ blk.cells[off + i * 1]? = some (.int .i64 ((l[i]?).getD 0)) := by
  obtain ⟨a', c', ev⟩ := listAt_sl e
  injection ev with _ x _
  obtain ⟨k, off, blk, ea, hb, _, _, hat⟩ := listAt_get e (by omega)
  obtain ⟨h1, h2⟩ := hat i _ (List.getElem?_eq_getElem (by omega))
  refine ⟨k, off, blk, ea, hb, h1, ?_⟩
  have := cell1_of (decN_eq h2)
  rw [this, List.getElem?_eq_getElem (by omega)]; rfl
theorem rv_ne {q : RQ} (h : (sv q.s q.n).sign ≠ 0) : q.v ≠ 0 := by
  intro e
  unfold RQ.v rv at e
  rw [Rat.divInt_eq_div] at e
  have hd : ((dv q.d : Int) : Rat) ≠ 0 := fun x => by have := Rat.intCast_eq_zero_iff.1 x; have := dv_pos q.d; omega
  have := Rat.intCast_eq_zero_iff.1 (div_eq_zero hd e)
  rw [this] at h
  exact h rfl
theorem ceq3 (q : RQ) : ceq [.b, .s, .s] q.cells q.cells = some true := by
  simp only [RQ.cells, ceq, Option.map_some, decide_true, Bool.and_true]
theorem divQ {x : Rat} {q : RQ} {i : Nat} (hx : RB x i) (hi : i ≤ 8589934592) (hq : q.ok 4) (hz : nl q.n ≠ 0) : spQDiv [.agg ⟨(RQ.of x).cells⟩, .agg ⟨q.cells⟩] = some (.tuple ⟨[.agg ⟨(RQ.of (x / q.v)).cells⟩, .bool true]⟩) := by
  have h : spQDiv [.agg ⟨(RQ.of x).cells⟩, .agg ⟨q.cells⟩] = _ := if_pos ⟨hx.num hi, hx.den hi, by have := hq.1; omega, by have := hq.2; omega⟩
  rw [h, if_neg hz]
  show some (Value.tuple ⟨[.agg ⟨rE ((RQ.of x).v / q.v)⟩, .bool true]⟩) = _
  rw [RQ.of_v]; rfl
theorem solve_call2 {h : Heap} {n : Int} {b : Nat} {l : List EqR} {sl : Value} (hx : decRows h sl = some l) (hs : SysOK n l) :
    ∃ a D mm, nwL spSolve [.int .i64 n, sl] h b = some (.tuple ⟨[.slice a (solveL n l).2.length (solveL n l).2.length, .int .i64 (solveL n l).1]⟩, D, mm) ∧ (∀ q, q < b → hget (D ++ h) q = hget h q) ∧
      (∀ hp, ExtL (b + mm) (D ++ h) hp → listAt 3 dec1 hp (.slice a (solveL n l).2.length (solveL n l).2.length) = some (vq (solveL n l).2)) ∧ ∀ k off s, a = some ⟨k, off, s⟩ → k < b + mm := by
  have e : nwL spSolve [.int .i64 n, sl] h b = some ((solNL (solveL n l)).val (b + ·), newH (solNL (solveL n l)) (b + ·) (solNL (solveL n l)).m, (solNL (solveL n l)).m) := by
    unfold nwL
    rw [solve_of hx hs]; rfl
  rw [e]
  generalize solveL n l = r at *
  unfold solNL
  by_cases z : r.2 = []
  · rw [if_pos z]
    refine ⟨none, [], 0, ?_, fun _ _ => rfl, fun hp _ => ?_, fun _ _ _ e => by cases e⟩
    · rw [z]; rfl
    · rw [z]; rfl
  · rw [if_neg z]
    refine ⟨some ⟨b + 0, 0, none⟩, _, 1, rfl, fun q hq => ?_, fun hp he => ?_, fun k _ _ e => by cases e; omega⟩
    · have : (b + 0 = q) = False := eq_false (by omega)
      simp only [newH, List.cons_append, List.nil_append, hget, this, if_false]
    · have g := he (b + 0) (by omega)
      rw [show hget (newH ⟨1, fun σ => Value.tuple ⟨[.slice (some ⟨σ 0, 0, none⟩) r.2.length r.2.length, .int .i64 r.1]⟩, fun _ => 24, fun _ => 3, fun _ _ => ratC r.2⟩ (b + ·) 1 ++ h) (b + 0) = some ⟨24, 3, false, ratC r.2⟩ from if_pos rfl] at g
      exact ratC_list g z
theorem free_call2 {h : Heap} {n : Int} {b : Nat} {l : List EqR} {sl : Value} (hx : decRows h sl = some l) (hs : SysOK n l) :
    ∃ a D mm, nwL spFreeV [.int .i64 n, sl] h b = some (.slice a (freeVL n l).length (freeVL n l).length, D, mm) ∧ (∀ q, q < b → hget (D ++ h) q = hget h q) ∧
      (∀ hp, ExtL (b + mm) (D ++ h) hp → listAt 1 decN hp (.slice a (freeVL n l).length (freeVL n l).length) = some ((freeVL n l).map fun (i : Nat) => ((i : Nat) : Int))) ∧ True :=
  let ⟨a, D, mm, e1, e2, e3⟩ := free_call hx hs
  ⟨a, D, mm, e1, e2, e3, trivial⟩
theorem freeVL_le {n : Nat} {l : List EqR} : (freeVL n l).length ≤ n := by
  unfold freeVL
  split
  · unfold freeK
    refine Nat.le_trans (List.length_filter_le _ _) ?_
    rw [List.length_range, Int.toNat_natCast]; exact Nat.le_refl _
  · exact Nat.zero_le _
theorem solL_le {n : Nat} {l : List EqR} : (solveL n l).2.length ≤ n := by
  by_cases e0 : (solveL n l).1 = 0
  · rw [(solL_sol (solL_chk e0) e0).1]; exact Nat.le_refl _
  · rw [solL_nil e0]; exact Nat.zero_le _
theorem vq_RQ {l : List Rat} {j : Nat} (h : j < l.length) : rqAt (vq l) j = RQ.of (qsV (vq l) j) := by
  have e := List.getElem?_eq_getElem h
  rw [vq_at e, vq_v e]
def spL24sca : List Value → Heap → Option Value
  | [sl, .agg ⟨cs⟩, .int .u8 z], h => match decRows h sl, dec1 cs with
    | some l, some _ => if l.length ≤ 9223372036854775807 ∧ 0 ≤ z ∧ z ≤ 255 then some (.bool true) else none
    | _, _ => none
  | _, _ => none
theorem fr_L24sca {h : Heap} {N : Nat} {sl : Value} {l : List EqR} {q : RQ} {z : Int} (e : decRows h sl = some l) (m : l.length ≤ maxLen) (hz : 0 ≤ z ∧ z ≤ 255) : rdS spL24sca [sl, .agg ⟨q.cells⟩, .int .u8 z] h N = some (.bool true, [], 0) := by
  have e' : dec1 q.cells = some q := rfl
  unfold rdS spL24sca
  simp only [e, e']
  rw [if_pos ⟨m, hz⟩]; rfl
def c5 : ICode :=
  (.seq (.reg [qq 4 (.box 24 3 (.t 1)), qq 6 (.mv (.c (.bool false)))]) (.seq (.reg [qq 7 (.mv (ci 0))]) (.seq (.seq (.reg [qq 22 (.mv (.t 0)), qq 23 (.lensl (.t 22)), qq 24 (.bin .gtr (.t 23) (ci 0))]) (.cond (.t 24) (.reg [qq 25 (.mv (.t 0)), qq 26 (.ixsl 5 (.t 25) (ci 0)), qq 27 (.faddr 0 (.t 26)), qq 28 (.load false 1 (.t 27)), qq 29 (.lensl (.t 28)), qq 7 (.mv (.t 29))]) .skip)) (.seq (.seq (.reg [qq 30 (.mv (.t 7)), qq 31 (.bin .eql (.t 30) (ci 0)), qq 32 (.mv (.t 31)), ⟨(some 33), (some (32, false)), (.mv (.t 7))⟩, ⟨(some 34), (some (32, false)), (.mv (.t 0))⟩, ⟨(some 35), (some (32, false)), (.call 8 [(.t 33), (.t 34)])⟩, ⟨(some 36), (some (32, false)), (.bin .gtr (.t 35) (ci 0))⟩, qq 37 (.pick (.t 32) (.c (.bool true)) (.t 36)), qq 38 (.mv (.t 37)), ⟨(some 39), (some (38, false)), (.mv (.t 7))⟩, ⟨(some 40), (some (38, false)), (.mv (.t 0))⟩, ⟨(some 41), (some (38, false)), (.call 9 [(.t 39), (.t 40)])⟩, ⟨(some 42), (some (38, false)), (.bin .neq (.t 41) (ci 0))⟩, qq 43 (.pick (.t 38) (.c (.bool true)) (.t 42)), qq 44 (.mv (.t 43)), ⟨(some 45), (some (44, false)), (.faddr 1 (.t 4))⟩, ⟨(some 46), (some (44, false)), (.load false 1 (.t 45))⟩, ⟨(some 47), (some (44, false)), (.lens (.t 46))⟩, ⟨(some 48), (some (44, false)), (.bin .gtr (.t 47) (ci 4))⟩, qq 49 (.pick (.t 44) (.c (.bool true)) (.t 48)), qq 50 (.mv (.t 49)), ⟨(some 51), (some (50, false)), (.faddr 2 (.t 4))⟩, ⟨(some 52), (some (50, false)), (.load false 1 (.t 51))⟩, ⟨(some 53), (some (50, false)), (.lens (.t 52))⟩, ⟨(some 54), (some (50, false)), (.bin .gtr (.t 53) (ci 4))⟩, qq 55 (.pick (.t 50) (.c (.bool true)) (.t 54)), qq 56 (.mv (.t 55)), ⟨(some 57), (some (56, false)), (.load true 3 (.t 4))⟩, ⟨(some 58), (some (56, false)), (.call 10 [(.t 57)])⟩, ⟨(some 59), (some (56, false)), (.bin .eql (.t 58) (ci 0))⟩, qq 60 (.pick (.t 56) (.c (.bool true)) (.t 59))]) (.cond (.t 60) (.seq (.reg [qq 61 (.call 11 []), qq 6 (.mv (.t 61))]) .ret) .skip)) (.seq (.reg [qq 62 (.mv (.t 2)), qq 63 (.conv .i64 (.t 62)), qq 64 (.mv (.t 7)), qq 65 (.bin .rem (.t 63) (.t 64)), qq 8 (.mv (.t 65))]) (.seq (.reg [qq 9 (.mv (.c (.slice none 0 0)))]) (.seq (.seq (.reg [qq 66 (.mv (.t 0)), qq 67 (.lensl (.t 66)), qq 68 (.mv (ci 0))]) (.block 0 (.loop (.seq (.reg [qq 69 (.bin .lss (.t 68) (.t 67))]) (.seq (.cond (.t 69) .skip (.exit 0)) (.seq (.block 1 (.seq (.reg [qq 70 (.ixsl 5 (.t 66) (.t 68)), qq 71 (.load true 5 (.t 70)), qq 11 (.alloc 28 5 [(.slice none 0 0), (.bool false), e0, e0, (.int .i64 0)]), qn (.store 5 (.t 11) (.t 71))]) (.seq (.dreg [qu 72 (.bslice 24 3 0 [] []), qu 73 (.faddr 0 (.t 11)), qv 74 [0] (.load false 1 (.t 73)), qu 75 (.app 24 3 40 (.t 72) (.t 74)), qu 76 (.faddr 1 (.t 11)), qv 77 [0, 3] (.load true 3 (.t 76)), qu 78 (.build [(.slice none 0 0), (.bool false), e0, e0, (.int .i64 0)] [(0, 1, (.t 75)), (1, 3, (.t 77))]), qu 12 (.alloc 28 5 [(.slice none 0 0), (.bool false), e0, e0, (.int .i64 0)]), qm (.store 5 (.t 12) (.t 78))]) (.seq (.dreg [qu 79 (.faddr 0 (.t 12)), qu 80 (.load false 1 (.t 79)), qu 81 (.mv (.t 8)), qu 82 (.faddr 0 (.t 12)), qu 83 (.load false 1 (.t 82)), qu 84 (.mv (.t 8)), qu 85 (.ixsl 3 (.t 83) (.t 84)), qu 86 (.load true 3 (.t 85)), qu 87 (.load true 3 (.t 4)), qu 88 (.call 13 [(.t 86), (.t 87)]), qu 89 (.ixsl 3 (.t 80) (.t 81)), qm (.store 3 (.t 89) (.t 88))]) (.reg [qq 90 (.mv (.t 9)), qq 91 (.load true 5 (.t 12)), qq 92 (.bslice 28 5 1 [(.slice none 0 0), (.bool false), e0, e0, (.int .i64 0)] [(0, 5, (.t 91))]), qq 93 (.app 28 5 72 (.t 90) (.t 92)), qq 9 (.mv (.t 93))]))))) (.reg [qq 94 (.bin .add (.t 68) (ci 1)), qq 68 (.mv (.t 94))]))))))) (.seq (.reg [qq 96 (.mv (.t 7)), qq 97 (.mv (.t 0)), qq 98 (.call 14 [(.t 96), (.t 97)]), qq 95 (.mv (.t 98)), qq 99 (.ext (.t 95) 0), qq 100 (.ext (.t 95) 1), qq 13 (.mv (.t 99)), qq 14 (.mv (.t 100))]) (.seq (.reg [qq 102 (.mv (.t 7)), qq 103 (.mv (.t 9)), qq 104 (.call 14 [(.t 102), (.t 103)]), qq 101 (.mv (.t 104)), qq 105 (.ext (.t 101) 0), qq 106 (.ext (.t 101) 1), qq 15 (.mv (.t 105)), qq 16 (.mv (.t 106))]) (.seq (.reg [qq 107 (.mv (.t 7)), qq 108 (.mv (.t 0)), qq 109 (.call 15 [(.t 107), (.t 108)]), qq 110 (.mv (.t 7)), qq 111 (.mv (.t 9)), qq 112 (.call 15 [(.t 110), (.t 111)]), qq 17 (.mv (.t 109)), qq 18 (.mv (.t 112))]) (.seq (.seq (.reg [qq 113 (.mv (.t 14)), qq 114 (.mv (.t 16)), qq 115 (.bin .neq (.t 113) (.t 114)), qq 116 (.mv (.t 115)), ⟨(some 117), (some (116, false)), (.mv (.t 13))⟩, ⟨(some 118), (some (116, false)), (.lensl (.t 117))⟩, ⟨(some 119), (some (116, false)), (.mv (.t 15))⟩, ⟨(some 120), (some (116, false)), (.lensl (.t 119))⟩, ⟨(some 121), (some (116, false)), (.bin .neq (.t 118) (.t 120))⟩, qq 122 (.pick (.t 116) (.c (.bool true)) (.t 121)), qq 123 (.mv (.t 122)), ⟨(some 124), (some (123, false)), (.mv (.t 17))⟩, ⟨(some 125), (some (123, false)), (.lensl (.t 124))⟩, ⟨(some 126), (some (123, false)), (.mv (.t 18))⟩, ⟨(some 127), (some (123, false)), (.lensl (.t 126))⟩, ⟨(some 128), (some (123, false)), (.bin .neq (.t 125) (.t 127))⟩, qq 129 (.pick (.t 123) (.c (.bool true)) (.t 128)), qq 130 (.mv (.t 129)), ⟨(some 131), (some (130, false)), (.mv (.t 7))⟩, ⟨(some 132), (some (130, false)), (.mv (.t 0))⟩, ⟨(some 133), (some (130, false)), (.call 17 [(.t 131), (.t 132)])⟩, ⟨(some 134), (some (130, false)), (.mv (.t 7))⟩, ⟨(some 135), (some (130, false)), (.mv (.t 9))⟩, ⟨(some 136), (some (130, false)), (.call 17 [(.t 134), (.t 135)])⟩, ⟨(some 137), (some (130, false)), (.bin .neq (.t 133) (.t 136))⟩, qq 138 (.pick (.t 130) (.c (.bool true)) (.t 137))]) (.cond (.t 138) (.seq (.reg [qq 6 (.mv (.c (.bool false)))]) .ret) .skip)) (.seq (.seq (.reg [qq 139 (.mv (.t 17)), qq 140 (.lensl (.t 139)), qq 141 (.mv (ci 0))]) (.block 2 (.loop (.seq (.reg [qq 142 (.bin .lss (.t 141) (.t 140))]) (.seq (.cond (.t 142) .skip (.exit 2)) (.seq (.block 3 (.seq (.reg [qq 143 (.mv (.t 141)), qq 19 (.mv (.t 143))]) (.seq (.dreg [qu 144 (.mv (.t 17)), qu 145 (.mv (.t 19)), qu 146 (.ixsl 1 (.t 144) (.t 145)), qu 147 (.load false 1 (.t 146)), qu 148 (.mv (.t 18)), qu 149 (.mv (.t 19)), qu 150 (.ixsl 1 (.t 148) (.t 149)), qu 151 (.load false 1 (.t 150)), qu 152 (.bin .neq (.t 147) (.t 151))]) (.cond (.t 152) (.seq (.reg [qq 6 (.mv (.c (.bool false)))]) .ret) .skip)))) (.reg [qq 153 (.bin .add (.t 141) (ci 1)), qq 141 (.mv (.t 153))]))))))) (.seq (.seq (.reg [qq 154 (.mv (.t 13)), qq 155 (.lensl (.t 154)), qq 156 (.mv (ci 0))]) (.block 4 (.loop (.seq (.reg [qq 157 (.bin .lss (.t 156) (.t 155))]) (.seq (.cond (.t 157) .skip (.exit 4)) (.seq (.block 5 (.seq (.reg [qq 158 (.mv (.t 156)), qq 20 (.mv (.t 158))]) (.seq (.reg [qq 159 (.mv (.t 13)), qq 160 (.mv (.t 20)), qq 161 (.ixsl 3 (.t 159) (.t 160)), qq 162 (.load true 3 (.t 161)), qq 21 (.alloc 24 3 [(.bool false), e0, e0]), qn (.store 3 (.t 21) (.t 162))]) (.seq (.seq (.reg [qq 163 (.mv (.t 20)), qq 164 (.mv (.t 8)), qq 165 (.bin .eql (.t 163) (.t 164))]) (.cond (.t 165) (.dreg [qu 167 (.mv (.t 13)), qu 168 (.mv (.t 20)), qu 169 (.ixsl 3 (.t 167) (.t 168)), qu 170 (.load true 3 (.t 169)), qu 171 (.load true 3 (.t 4)), qu 172 (.call 18 [(.t 170), (.t 171)]), qu 166 (.mv (.t 172)), qu 173 (.ext (.t 166) 0), qu 174 (.ext (.t 166) 1), qm (.store 3 (.t 21) (.t 173))]) .skip)) (.seq (.dreg [qu 175 (.mv (.t 15)), qu 176 (.mv (.t 20)), qu 177 (.ixsl 3 (.t 175) (.t 176)), qu 178 (.load true 3 (.t 177)), qu 179 (.load true 3 (.t 21)), qu 180 (.eqa true [.b, .s, .s] (.t 178) (.t 179))]) (.cond (.t 180) (.seq (.reg [qq 6 (.mv (.c (.bool false)))]) .ret) .skip)))))) (.reg [qq 181 (.bin .add (.t 156) (ci 1)), qq 156 (.mv (.t 181))]))))))) (.seq (.reg [qq 182 (.call 11 []), qq 6 (.mv (.t 182))]) .ret))))))))))))))
theorem tr5 : trFun Tryd.prog 5 = some ⟨183, [.t 6], c5⟩ := by kernel_rfl
set_option maxHeartbeats 64000000 in
theorem ok_L24sca : SpecOK Tryd.prog 5 (rdS spL24sca) := by
  refine rd_run (env_cons ok_lGreat24 (env_cons ok_fixed (env_cons ok_linCheck (env_cons ok_solve (env_cons ok_rank (env_cons ok_freeV (env_cons ok_qSign (env_cons ok_qDiv (env_cons ok_qMul (env_nil _)))))))))) mixed tr5 ?_ ?_
  · intro args h h' v hle e
    unfold spL24sca at e ⊢
    split at e
    · split at e
      · rename_i l os hb hc
        simp only [decRows_mono hle hb, hc]; exact e
      · cases e
    · cases e
  intro args v h N hG hN
  unfold spL24sca at hG
  split at hG
  case h_2 => cases hG
  rename_i sl cs z
  split at hG
  case h_2 => cases hG
  rename_i l bq hx hq
  split at hG
  case isFalse => cases hG
  rename_i hm
  obtain ⟨hm, hz0, hz1⟩ := hm
  have ecs := dec1_cells hq
  subst ecs
  clear hq
  cases hG
  obtain ⟨a, cc, rfl⟩ := listAt_sl (dec := decEq h) hx
  refine ⟨by rfl, by simp [RQ.cells], ?_⟩
  have dn : ∀ a b : Int, decide (a ≠ b) = !decide (a = b) := fun a b => by by_cases h : a = b <;> simp [h]
  have fx : spFixed [] = some (.bool true) := rfl
  have xs0 : ExtL N h h = True := eq_true fun _ _ => rfl
  have xc := fun j b hp => extL_cons N j b h hp
  have ql : bq.cells.length = 3 := rfl
  have qo : bq.cells.all okCell = true := rfl
  have qt : bq.cells.take 3 = bq.cells := rfl
  have qc1 : bq.cells[1]? = some (.string ⟨⟨bq.n⟩⟩) := rfl
  have qc2 : bq.cells[2]? = some (.string ⟨⟨bq.d⟩⟩) := rfl
  by_cases c0 : 0 < l.length
  case neg =>
    have l0 : l.length = 0 := by omega
    have gl : ((l.length : Int) > 0) = False := eq_false (by omega)
    generalize bq.cells = QC at *
    simp only [c5, G0, Nat.reduceAdd]
    simp only [↓R0, R1, simprocAttr, -Int.reduceAbs, rdS, fx, gl, l0, xs0, xc, ql, qo, qt, qc1, qc2, Fin, isEnd, resL, res1]
    exact ⟨_, rfl, rfl, fun k hk => by simp only [ne_nb hk, if_false]⟩
  have gl : ((l.length : Int) > 0) = True := eq_true (by omega)
  obtain ⟨k0, f0, B0, a0, n, c0', rfl, hb0, g1, g2, hn0, hl0⟩ := eq_at hx c0
  have hk0 := hN _ _ hb0
  have K0 : ∀ d, (N + d = k0) = False := fun d => eq_false (by omega)
  have g3 : B0.cells[f0 + 0 * 5]? = some (.slice a0 n c0') := by
    rw [show B0.cells[f0 + 0 * 5]? = ((B0.cells.drop (f0 + 0 * 5)).take 5)[0]? by rw [List.getElem?_take, if_pos (by omega), List.getElem?_drop], g2]; rfl
  have g4 : B0.cells[f0]? = some (.slice a0 n c0') := g3
  have g5 : B0.cells[f0 + 0]? = some (.slice a0 n c0') := g3
  have g6 : B0.cells[f0 + 0 + 0]? = some (.slice a0 n c0') := g3
  clear g1 g2 g3
  have gr : ∀ {hp : Heap}, ExtL N h hp → spGreat [.int .i64 n, .slice (some ⟨k0, f0, none⟩) l.length cc] hp = some (.int .i64 (if smallS n l then 0 else 1)) := fun he => great24_of (ext_rows hN hx he) hm
  have ck : ∀ {hp : Heap}, ExtL N h hp → spLCheck [.int .i64 n, .slice (some ⟨k0, f0, none⟩) l.length cc] hp = some (.int .i64 (chkL n l)) := fun he => chk_of (ext_rows hN hx he)
  have sg : (bq.n.length ≤ 4 ∧ bq.d.length ≤ 4) → spQSign [.agg ⟨bq.cells⟩] = some (.int .i64 (sv bq.s bq.n).sign) := fun h => if_pos ⟨by omega, by omega⟩
  by_cases b2 : n = 0
  · have b2' : ((n : Int) = 0) = True := eq_true (by omega)
    generalize bq.cells = QC at *
    simp only [c5, G0, Nat.reduceAdd]
    simp only [↓R0, R1, simprocAttr, -Int.reduceAbs, rdS, fx, gl, c0, hb0, K0, g4, g5, g6, gr, ck, dn, xs0, xc, ql, qo, qt, qc1, qc2, b2', Bool.not_true, Bool.not_false, Fin, isEnd, resL, res1]
    exact ⟨_, rfl, rfl, fun k hk => by simp only [ne_nb hk, if_false]⟩
  have b2' : ((n : Int) = 0) = False := eq_false (by omega)
  by_cases b3 : ¬ smallS n l
  · rw [if_neg b3] at gr
    generalize bq.cells = QC at *
    simp only [c5, G0, Nat.reduceAdd]
    simp only [↓R0, R1, simprocAttr, -Int.reduceAbs, rdS, fx, gl, c0, hb0, K0, g4, g5, g6, gr, ck, dn, xs0, xc, ql, qo, qt, qc1, qc2, b2', Bool.not_true, Bool.not_false, Fin, isEnd, resL, res1]
    exact ⟨_, rfl, rfl, fun k hk => by simp only [ne_nb hk, if_false]⟩
  have sS : smallS n l := Classical.byContradiction b3
  rw [if_pos sS] at gr
  by_cases b4 : ¬ chkL n l = 0
  · have b4' : (chkL n l = 0) = False := eq_false b4
    generalize bq.cells = QC at *
    simp only [c5, G0, Nat.reduceAdd]
    simp only [↓R0, R1, simprocAttr, -Int.reduceAbs, rdS, fx, gl, c0, hb0, K0, g4, g5, g6, gr, ck, dn, xs0, xc, ql, qo, qt, qc1, qc2, b2', b4', Bool.not_true, Bool.not_false, Fin, isEnd, resL, res1]
    exact ⟨_, rfl, rfl, fun k hk => by simp only [ne_nb hk, if_false]⟩
  have hc0 : chkL n l = 0 := Classical.byContradiction b4
  rw [hc0] at ck
  by_cases b5 : bq.n.length > 4
  · have b5' : ((bq.n.length : Int) > 4) = True := eq_true (by omega)
    generalize bq.cells = QC at *
    simp only [c5, G0, Nat.reduceAdd]
    simp only [↓R0, R1, simprocAttr, -Int.reduceAbs, rdS, fx, gl, c0, hb0, K0, g4, g5, g6, gr, ck, dn, xs0, xc, ql, qo, qt, qc1, qc2, b2', b5', Bool.not_true, Bool.not_false, Fin, isEnd, resL, res1]
    exact ⟨_, rfl, rfl, fun k hk => by simp only [ne_nb hk, if_false]⟩
  have b5' : ((bq.n.length : Int) > 4) = False := eq_false (by omega)
  by_cases b6 : bq.d.length > 4
  · have b6' : ((bq.d.length : Int) > 4) = True := eq_true (by omega)
    generalize bq.cells = QC at *
    simp only [c5, G0, Nat.reduceAdd]
    simp only [↓R0, R1, simprocAttr, -Int.reduceAbs, rdS, fx, gl, c0, hb0, K0, g4, g5, g6, gr, ck, dn, xs0, xc, ql, qo, qt, qc1, qc2, b2', b5', b6', Bool.not_true, Bool.not_false, Fin, isEnd, resL, res1]
    exact ⟨_, rfl, rfl, fun k hk => by simp only [ne_nb hk, if_false]⟩
  have b6' : ((bq.d.length : Int) > 4) = False := eq_false (by omega)
  have sg := sg ⟨by omega, by omega⟩
  by_cases b7 : (sv bq.s bq.n).sign = 0
  · rw [b7] at sg
    generalize bq.cells = QC at *
    simp only [c5, G0, Nat.reduceAdd]
    simp only [↓R0, R1, simprocAttr, -Int.reduceAbs, rdS, fx, gl, c0, hb0, K0, g4, g5, g6, gr, ck, dn, xs0, xc, ql, qo, qt, qc1, qc2, b2', b5', b6', sg, Bool.not_true, Bool.not_false, Fin, isEnd, resL, res1]
    exact ⟨_, rfl, rfl, fun k hk => by simp only [ne_nb hk, if_false]⟩
  have b7' : ((sv bq.s bq.n).sign = 0) = False := eq_false b7
  have vz := rv_ne b7
  have nz : nl bq.n ≠ 0 := fun e => b7 (by rw [(sv_eq_zero _ _).2 e]; rfl)
  have bok : bq.ok 4 := ⟨by omega, by omega⟩
  have bRB : RB bq.v 5 := bok.rb
  have hn8 := (sS.sys hc0).n8
  have hm100 := (sS.sys hc0).m
  have L := chk0_nat hc0
  have n0 : 0 < n := by omega
  obtain ⟨T, rfl⟩ := Int.eq_ofNat_of_zero_le hz0
  obtain ⟨k, hk⟩ : ∃ k, k = T % n := ⟨_, rfl⟩
  have hkn : k < n := by rw [hk]; exact Nat.mod_lt _ n0
  have wz : IntKind.i64.wrap (T : Int) = (T : Int) := i64_in _ (by omega)
  have tz : (T : Int).tmod (n : Int) = (k : Int) := by rw [hk]; rfl
  have sys := sS.sys
  have sysC := sc_sys (k := k) (c := bq.v) sS hc0 hkn bRB
  have ckC := sc_chk (k := k) (c := bq.v) hc0
  obtain ⟨o1, o2, o3, o4, o5⟩ := sc_out hc0 hkn vz
  have hlen := scL_len k bq.v l
  have hat : ∀ i, i < l.length → eqAt (scL k bq.v l) i = scE k bq.v (eqAt l i) := fun i hi => scL_at hi
  have LC := chk0_nat ckC
  generalize scL k bq.v l = lC at *
  have gN : (N + 0 = N) = True := eq_true rfl
  simp only [c5, G0, Nat.reduceAdd]
  simp only [↓R0, R1, simprocAttr, -Int.reduceAbs, rdS, fx, gl, c0, hb0, K0, g4, g5, g6, gr, ck, dn, xs0, xc, ql, qo, qt, qc1, qc2, b2', b5', b6', sg, b7', wz, tz, Bool.not_true, Bool.not_false]
  refine lp_parts (fun c tm hp nx => ∃ (i M : Nat), c + i = l.length ∧ tmget tm 0 = .slice (some ⟨k0, f0, none⟩) l.length cc ∧ tmget tm 4 = .pointer (some ⟨N, 0, none⟩) ∧ tmget tm 7 = .int .i64 n ∧ tmget tm 8 = .int .i64 k ∧ tmget tm 66 = .slice (some ⟨k0, f0, none⟩) l.length cc ∧ tmget tm 67 = .int .i64 l.length ∧ tmget tm 68 = .int .i64 i ∧
      (∃ x, hget hp N = some ⟨24, 3, x, bq.cells⟩) ∧ ScS hp (N + 1) M n lC i (tmget tm 9) ∧ ExtL N h hp ∧ N + 1 ≤ M ∧ nx = M + 0) ?_ l.length
    ⟨0, N + 1, by omega, ?_, ?_, ?_, ?_, ?_, ?_, ?_, ?_, .inl ⟨rfl, ?_⟩, ?_, Nat.le_refl _, rfl⟩
  rotate_left
  all_goals first | (simp only [↓R0, R1, simprocAttr, -Int.reduceAbs]; done) | (simp only [↓R0, R1, simprocAttr, -Int.reduceAbs]; rfl) | (refine ⟨true, ?_⟩; simp only [↓R0, R1, simprocAttr, -Int.reduceAbs, gN]; done) | skip
  · intro q hq
    have nb : ∀ d, (N + d = q) = False := fun d => eq_false (by omega)
    simp only [↓R0, R1, simprocAttr, -Int.reduceAbs, nb]
  rintro c tm hp nx ⟨i, M, hc, t0, t4, t7, t8, t66, t67, t68, ⟨x, bB⟩, hS, hh, hM, hnx⟩
  rw [hnx]
  clear hnx nx
  have nbq : ∀ q, q < N → ∀ d, (M + d = q) = False := fun q hq d => eq_false (by omega)
  have xhp : ExtL N h hp = True := eq_true hh
  have xM := fun j b hp' => extL_ge (show N ≤ M by omega) j b h hp'
  by_cases c1 : i < l.length
  · have c1' : ((i : Int) < (l.length : Int)) = True := eq_true (by omega)
    have w1 : IntKind.i64.wrap ((i : Int) + 1) = ((i + 1 : Nat) : Int) := by rw [i64_in _ (by omega)]; omega
    obtain ⟨k1, f1, B1, a1, n1, c1x, ea, hb1, q1, q2, hn1, hl1⟩ := eq_at hx c1
    obtain ⟨rfl, rfl⟩ : k0 = k1 ∧ f0 = f1 := by
      injection ea with e; injection e with e1 e2 e3; exact ⟨e1, e2⟩
    have he := eqAt_mem c1
    have hn1' : n1 = n := by rw [hn1, L _ he]
    subst hn1'
    have hbb : hget hp k0 = some B1 := by rw [hh k0 hk0]; exact hb1
    have nk := nbq k0 hk0
    have src : ∀ {hp : Heap}, ExtL N h hp → srcOf hp 3 n1 a1 = some (rqs (eqAt l i).coef) := fun he => src_any (ext_rats hN hl1 he)
    have cl : (rqs (eqAt l i).coef).length = n1 * 3 := by rw [rqs_len, L _ he]
    have co := rqs_ok (eqAt l i).coef
    have hkc : k < (eqAt l i).coef.length := by rw [L _ he]; exact hkn
    have cg := rqs_at _ _ _ (rqAt_some hkc)
    have cset : setR (rqs (eqAt l i).coef) (k * 3) (rE (qsV (eqAt l i).coef k * bq.v)) = rqs (eqAt lC i).coef := by
      rw [hat i c1]
      exact rqs_set (RQ.of (qsV (eqAt l i).coef k * bq.v)) hkc
    have pl : (rqAt (eqAt l i).coef k).cells.length = 3 := rfl
    have po : (rqAt (eqAt l i).coef k).cells.all okCell = true := rfl
    have hs4 := (sS.2.2 _ he).2 _ (List.mem_append_left _ (rqAt_mem hkc))
    have mq : spQMul [.agg ⟨(rqAt (eqAt l i).coef k).cells⟩, .agg ⟨bq.cells⟩] = some (.agg ⟨rE (qsV (eqAt l i).coef k * bq.v)⟩) := mulQ (i := 4) (j := 4) ⟨hs4.1, hs4.2⟩ bok (by omega) (by omega)
    have e5l : (Value.slice a1 n1 c1x :: (eqAt l i).tl).length = 5 := rfl
    have e5o : (Value.slice a1 n1 c1x :: (eqAt l i).tl).all okCell = true := rfl
    have e5t : (Value.slice a1 n1 c1x :: (eqAt l i).tl).take 5 = Value.slice a1 n1 c1x :: (eqAt l i).tl := rfl
    have e5s : setR [.slice none 0 0, .bool false, .string ⟨⟨[]⟩⟩, .string ⟨⟨[]⟩⟩, .int .i64 0] 0 (Value.slice a1 n1 c1x :: (eqAt l i).tl) = Value.slice a1 n1 c1x :: (eqAt l i).tl := rfl
    have e50 : (Value.slice a1 n1 c1x :: (eqAt l i).tl)[0]? = some (.slice a1 n1 c1x) := rfl
    have e51 : ((Value.slice a1 n1 c1x :: (eqAt l i).tl).drop 1).take 3 = (eqAt l i).rhs.cells := rfl
    have rl : (eqAt l i).rhs.cells.length = 3 := rfl
    have ro : (eqAt l i).rhs.cells.all okCell = true := rfl
    have hNE : [Value.slice (some ⟨M + 2, 0, none⟩) n1 n1, .bool (eqAt l i).rhs.s, .string ⟨⟨(eqAt l i).rhs.n⟩⟩, .string ⟨⟨(eqAt l i).rhs.d⟩⟩, .int .i64 0] = Value.slice (some ⟨M + 2, 0, none⟩) n1 n1 :: (eqAt lC i).tl := by rw [hat i c1]; rfl
    have bE : setR [Value.slice (some ⟨M + 2, 0, none⟩) n1 n1, .bool false, .string ⟨⟨[]⟩⟩, .string ⟨⟨[]⟩⟩, .int .i64 0] 1 (eqAt l i).rhs.cells = Value.slice (some ⟨M + 2, 0, none⟩) n1 n1 :: (eqAt lC i).tl := by rw [← hNE]; rfl
    have el : (Value.slice (some ⟨M + 2, 0, none⟩) n1 n1 :: (eqAt lC i).tl).length = 5 := rfl
    have eo : (Value.slice (some ⟨M + 2, 0, none⟩) n1 n1 :: (eqAt lC i).tl).all okCell = true := rfl
    have et : (Value.slice (some ⟨M + 2, 0, none⟩) n1 n1 :: (eqAt lC i).tl).take 5 = Value.slice (some ⟨M + 2, 0, none⟩) n1 n1 :: (eqAt lC i).tl := rfl
    have es : setR [.slice none 0 0, .bool false, .string ⟨⟨[]⟩⟩, .string ⟨⟨[]⟩⟩, .int .i64 0] 0 (Value.slice (some ⟨M + 2, 0, none⟩) n1 n1 :: (eqAt lC i).tl) = Value.slice (some ⟨M + 2, 0, none⟩) n1 n1 :: (eqAt lC i).tl := rfl
    have ez : (Value.slice (some ⟨M + 2, 0, none⟩) n1 n1 :: (eqAt lC i).tl)[0]? = some (Value.slice (some ⟨M + 2, 0, none⟩) n1 n1) := rfl
    have z2 : (n1 ≤ 0) = False := eq_false (by omega)
    have z3 : (n1 = 0) = False := eq_false (by omega)
    have ov : (n1 * 40 ≤ 140737488355328) = True := eq_true (by omega)
    have k3 : k * 3 + 3 ≤ n1 * 3 := by omega
    have gl3 : (rE (qsV (eqAt l i).coef k * bq.v)).length = 3 := rfl
    have go3 : (rE (qsV (eqAt l i).coef k * bq.v)).all okCell = true := rfl
    have X0 : ∀ d, (M + d = N) = False := fun d => eq_false (by omega)
    have Y0 : ∀ d, (N = M + d) = False := fun d => eq_false (by omega)
    have ilt : ((k : Int) < (n1 : Int)) = True := eq_true (by omega)
    generalize hNEg : Value.slice (some ⟨M + 2, 0, none⟩) n1 n1 :: (eqAt lC i).tl = NE at *
    generalize Value.slice a1 n1 c1x :: (eqAt l i).tl = C5 at *
    generalize (eqAt l i).rhs.cells = RH at *
    generalize bq.cells = QC at *
    generalize (rqAt (eqAt l i).coef k).cells = PC at *
    generalize rE (qsV (eqAt l i).coef k * bq.v) = RE at *
    rcases hS with ⟨i0, t9⟩ | ⟨i0, kL, xL, ρ, t9, bL, hkL, hρ⟩
    · have eBL : ([] : List Value) = blkC (scF (fun _ => 0) n1 lC) i := by rw [i0]; rfl
      simp only [↓R0, R1, simprocAttr, -Int.reduceAbs, rdS, t0, t4, t7, t8, t9, t66, t67, t68, c1, c1', hbb, bB, nk, q1, q2, src, xhp, xM, cl, co, cg, cset, pl, po, mq, e5l, e5o, e5t, e5s, e50, e51, rl, ro, bE, el, eo, et, es, ez, z2, z3, ov, k3, gl3, go3, X0, Y0, hkn, ilt, ql, qo, qt, w1, Nat.zero_add, Nat.zero_mul, List.nil_append]
      refine ⟨c - 1, by omega, i + 1, M + 6, by omega, rfl, ⟨_, rfl⟩, ?_, by omega, rfl⟩
      subst i0
      refine ScS.push (N := N + 1) (hp := hp) (M := M) (ρ := fun _ => 0) (kN := M + 5) (rN := M + 2) (x := false) (y := false) (fun j hj => absurd hj (Nat.not_lt_zero j)) (fun j hj => absurd hj (Nat.not_lt_zero j)) (by rw [hNEg]; exact if_pos rfl) ?_ (by omega) (by omega) (by omega) (by omega) (by omega) (by omega)
      simp only [↓R0, R1, simprocAttr, -Int.reduceAbs]
    · have hkq : ∀ d, (M + d = kL) = False := fun d => eq_false (by omega)
      have hkq' : ∀ d, (kL = M + d) = False := fun d => eq_false (by omega)
      have hkk : (kL = k0) = False := eq_false (by omega)
      have hkN : (kL = N) = False := eq_false (by omega)
      have bl := blkC_len (scF_5 ρ n1 lC i)
      have bo := blkC_ok (scF_ok ρ n1 lC i)
      have ovL : ((i + 1) * 72 ≤ 140737488355328) = True := eq_true (by omega)
      have nle : (i + 1 ≤ i) = False := eq_false (by omega)
      have t9' := t9
      simp only [↓R0, R1, simprocAttr, -Int.reduceAbs, rdS, t0, t4, t7, t8, t9, t66, t67, t68, c1, c1', hbb, bB, bL, bl, bo, nk, q1, q2, src, xhp, xM, cl, co, cg, cset, pl, po, mq, e5l, e5o, e5t, e5s, e50, e51, rl, ro, bE, el, eo, et, es, ez, z2, z3, ov, ovL, nle, k3, gl3, go3, X0, Y0, hkq, hkq', hkk, hkN, hkn, ilt, ql, qo, qt, w1, Nat.zero_add, Nat.zero_mul, List.nil_append]
      refine ⟨c - 1, by omega, i + 1, M + 6, by omega, rfl, ⟨_, rfl⟩, ?_, fun q hq => ?_, by omega, rfl⟩
      · refine ScS.push (N := N + 1) (hp := hp) (M := M) (ρ := ρ) (kN := M + 5) (rN := M + 2) (x := false) (y := false) (fun j hj => ⟨(hρ j hj).1, (hρ j hj).2.1, (hρ j hj).2.2.1⟩) (fun j hj => ?_) (by rw [hNEg]; exact if_pos rfl) ?_ (by omega) (by omega) (by omega) (by omega) (by omega) (by omega)
        · obtain ⟨_, r1, r2, r3⟩ := hρ j hj
          have nj : ∀ d, (M + d = ρ j) = False := fun d => eq_false (by omega)
          have nk : (kL = ρ j) = False := eq_false (fun e => r3 e.symm)
          simp only [↓R0, R1, simprocAttr, -Int.reduceAbs, nj, nk]
        · simp only [↓R0, R1, simprocAttr, -Int.reduceAbs, hkq']
      · have nb := nbq q hq
        have nk : (kL = q) = False := eq_false (by omega)
        simp only [↓R0, R1, simprocAttr, -Int.reduceAbs, nb, nk]
        exact hh q hq
  have ei : i = l.length := by omega
  subst ei
  have c1' : ((l.length : Int) < (l.length : Int)) = False := eq_false (by omega)
  obtain ⟨a9, t9⟩ := hS.sl
  have hS' : ScS hp (N + 1) M n lC lC.length (.slice a9 l.length l.length) := by rw [hlen, ← t9]; exact hS
  have rowsAt : ∀ hp', ExtL M hp hp' → decRows hp' (.slice a9 l.length l.length) = some lC := fun hp' he => hS'.rows n0 LC he
  clear hS hS' hat
  obtain ⟨a_1, D_1, mm_1, kc_1, gq_1, hV_1, bd_1⟩ := solve_call2 (b := M + 0) (ext_rows hN hx hh) sys
  obtain ⟨M_1, hM_1⟩ : ∃ x, x = M + mm_1 := ⟨_, rfl⟩
  have eM_1 : M + 0 + mm_1 = M_1 + 0 := by omega
  rw [show M + 0 + mm_1 = M_1 by omega] at hV_1 bd_1
  generalize eHP_1 : D_1 ++ hp = HP_1 at *
  have ac_1 : ∀ (d : Nat) (tm : List (Nat × Value)) (V : Value) (K : St → Prop), @aft (some d) (some (V, D_1, mm_1)) ⟨(⟨tm, hp, M + 0⟩, K)⟩ = K ⟨(d, V) :: tm, HP_1, M_1 + 0⟩ := fun _ _ _ _ => by rw [← eM_1, ← eHP_1]; exact propext Iff.rfl
  have xH_1 : ExtL N h HP_1 := extL_up (M := M + 0) (by omega) hh gq_1
  have xM_1 : ExtL M hp HP_1 := fun q hq => gq_1 q (by omega)
  obtain ⟨a_2, D_2, mm_2, kc_2, gq_2, hV_2, bd_2⟩ := solve_call2 (b := M_1 + 0) (rowsAt HP_1 xM_1) sysC
  obtain ⟨M_2, hM_2⟩ : ∃ x, x = M_1 + mm_2 := ⟨_, rfl⟩
  have eM_2 : M_1 + 0 + mm_2 = M_2 + 0 := by omega
  rw [show M_1 + 0 + mm_2 = M_2 by omega] at hV_2 bd_2
  generalize eHP_2 : D_2 ++ HP_1 = HP_2 at *
  have ac_2 : ∀ (d : Nat) (tm : List (Nat × Value)) (V : Value) (K : St → Prop), @aft (some d) (some (V, D_2, mm_2)) ⟨(⟨tm, HP_1, M_1 + 0⟩, K)⟩ = K ⟨(d, V) :: tm, HP_2, M_2 + 0⟩ := fun _ _ _ _ => by rw [← eM_2, ← eHP_2]; exact propext Iff.rfl
  have xH_2 : ExtL N h HP_2 := extL_up (M := M_1 + 0) (by omega) xH_1 gq_2
  have xM_2 : ExtL M hp HP_2 := extL_up (M := M_1 + 0) (by omega) xM_1 gq_2
  obtain ⟨a_3, D_3, mm_3, kc_3, gq_3, hV_3, bd_3⟩ := free_call2 (b := M_2 + 0) (ext_rows hN hx xH_2) sys
  obtain ⟨M_3, hM_3⟩ : ∃ x, x = M_2 + mm_3 := ⟨_, rfl⟩
  have eM_3 : M_2 + 0 + mm_3 = M_3 + 0 := by omega
  rw [show M_2 + 0 + mm_3 = M_3 by omega] at hV_3
  generalize eHP_3 : D_3 ++ HP_2 = HP_3 at *
  have ac_3 : ∀ (d : Nat) (tm : List (Nat × Value)) (V : Value) (K : St → Prop), @aft (some d) (some (V, D_3, mm_3)) ⟨(⟨tm, HP_2, M_2 + 0⟩, K)⟩ = K ⟨(d, V) :: tm, HP_3, M_3 + 0⟩ := fun _ _ _ _ => by rw [← eM_3, ← eHP_3]; exact propext Iff.rfl
  have xH_3 : ExtL N h HP_3 := extL_up (M := M_2 + 0) (by omega) xH_2 gq_3
  have xM_3 : ExtL M hp HP_3 := extL_up (M := M_2 + 0) (by omega) xM_2 gq_3
  obtain ⟨a_4, D_4, mm_4, kc_4, gq_4, hV_4, bd_4⟩ := free_call2 (b := M_3 + 0) (rowsAt HP_3 xM_3) sysC
  obtain ⟨M_4, hM_4⟩ : ∃ x, x = M_3 + mm_4 := ⟨_, rfl⟩
  have eM_4 : M_3 + 0 + mm_4 = M_4 + 0 := by omega
  rw [show M_3 + 0 + mm_4 = M_4 by omega] at hV_4
  generalize eHP_4 : D_4 ++ HP_3 = HP_4 at *
  have ac_4 : ∀ (d : Nat) (tm : List (Nat × Value)) (V : Value) (K : St → Prop), @aft (some d) (some (V, D_4, mm_4)) ⟨(⟨tm, HP_3, M_3 + 0⟩, K)⟩ = K ⟨(d, V) :: tm, HP_4, M_4 + 0⟩ := fun _ _ _ _ => by rw [← eM_4, ← eHP_4]; exact propext Iff.rfl
  have xH_4 : ExtL N h HP_4 := extL_up (M := M_3 + 0) (by omega) xH_3 gq_4
  have xM_4 : ExtL M hp HP_4 := extL_up (M := M_3 + 0) (by omega) xM_3 gq_4
  have rk1 : ∀ {hp' : Heap}, ExtL N h hp' → spRank [.int .i64 n, .slice (some ⟨k0, f0, none⟩) l.length cc] hp' = some (.int .i64 (rankL n l)) := fun he => rank_of (ext_rows hN hx he) sys
  have rk2 : ∀ {hp' : Heap}, ExtL M hp hp' → spRank [.int .i64 n, .slice a9 l.length l.length] hp' = some (.int .i64 (rankL n l)) := fun he => by rw [rank_of (rowsAt _ he) sysC, o4]
  have xHt : ExtL N h HP_4 = True := eq_true xH_4
  have xMt : ExtL M hp HP_4 = True := eq_true xM_4
  have vRQ := fun (j : Nat) (h : j < (solveL n l).2.length) => vq_RQ h
  have vRB : ∀ j, j < (solveL n l).2.length → RB (qsV (vq (solveL n l).2) j) 156250000 := fun j hj => by
    rw [vq_v (List.getElem?_eq_getElem hj)]
    exact solL_RB sys _ (List.getElem_mem hj)
  rw [o1, o2] at kc_2
  rw [o2] at hV_2
  rw [o3] at kc_4 hV_4
  have lf := freeVL_le (n := n) (l := l)
  have la := solL_le (n := n) (l := l)
  have e00 : ∀ j, j < (solveL n l).2.length → (solveL n l).1 = 0 ∧ j < n := fun j hj => ⟨Classical.byContradiction fun x => by rw [solL_nil x] at hj; exact absurd hj (Nat.not_lt_zero j), by omega⟩
  have o5' : ∀ j, j < (solveL n l).2.length → rqAt (vq (solveL n lC).2) j = RQ.of (if j = k then qsV (vq (solveL n l).2) j / bq.v else qsV (vq (solveL n l).2) j) := fun j hj => o5 (e00 j hj).1 j (e00 j hj).2
  generalize freeVL n l = FV at *
  generalize vq (solveL n l).2 = VS at *
  generalize vq (solveL n lC).2 = VC at *
  generalize (solveL n l).2.length = LA at *
  generalize (solveL n l).1 = CD at *
  simp only [↓R0, R1, simprocAttr, -Int.reduceAbs, rdS, fx, t0, t4, t7, t8, t9, t66, t67, t68, c1', kc_1, ac_1, kc_2, ac_2, kc_3, ac_3, kc_4, ac_4, rk1, rk2, xHt, xMt, dn, Bool.not_true, Bool.not_false]
  refine lp_parts (fun c tm hp nx => ∃ (i : Nat), c + i = FV.length ∧ tmget tm 4 = .pointer (some ⟨N, 0, none⟩) ∧ tmget tm 8 = .int .i64 k ∧ tmget tm 13 = .slice a_1 LA LA ∧ tmget tm 15 = .slice a_2 LA LA ∧ tmget tm 17 = .slice a_3 FV.length FV.length ∧ tmget tm 18 = .slice a_4 FV.length FV.length ∧ tmget tm 140 = .int .i64 FV.length ∧ tmget tm 141 = .int .i64 i ∧ hp = HP_4 ∧ nx = M_4 + 0) ?_ FV.length
    ⟨0, by omega, ?_, ?_, ?_, ?_, ?_, ?_, ?_, ?_, rfl, rfl⟩
  rotate_left
  all_goals first | (simp only [↓R0, R1, simprocAttr, -Int.reduceAbs, t4, t8]; done) | (simp only [↓R0, R1, simprocAttr, -Int.reduceAbs, t4, t8]; rfl) | skip
  clear t0 t4 t7 t8 t9 t66 t67 t68 c1' kc_1 ac_1 kc_2 ac_2 kc_3 ac_3 kc_4 ac_4 rk1 rk2
  rintro c tm hp2 nx ⟨i, hni, t4, t8, t13, t15, t17, t18, t140, t141, rfl, hnx⟩
  rw [hnx]
  clear hnx nx
  by_cases c2 : i < FV.length
  · have c2' : ((i : Int) < (FV.length : Int)) = True := eq_true (by omega)
    have w1 : IntKind.i64.wrap ((i : Int) + 1) = ((i + 1 : Nat) : Int) := by rw [i64_in _ (by omega)]; omega
    obtain ⟨k1, f1, B1, rfl, b1, q1, q2⟩ := int_at (hV_3 _ (fun q hq => gq_4 q (by omega))) c2
    obtain ⟨k2, f2, B2, rfl, b2, q3, q4⟩ := int_at (hV_4 _ (fun q hq => rfl)) c2
    have q2' := q2
    rw [Nat.mul_one] at q2'
    have q4' := q4
    rw [Nat.mul_one] at q4'
    simp only [↓R0, R1, simprocAttr, -Int.reduceAbs, rdS, t4, t8, t13, t15, t17, t18, t140, t141, c2, c2', b1, b2, q1, q2, q2', q3, q4, q4', dn, w1, Bool.not_true, Bool.not_false]
    exact ⟨c - 1, by omega, i + 1, by omega, rfl⟩
  have ei : i = FV.length := by omega
  subst ei
  have c2' : ((FV.length : Int) < (FV.length : Int)) = False := eq_false (by omega)
  simp only [↓R0, R1, simprocAttr, -Int.reduceAbs, rdS, t4, t8, t13, t15, t17, t18, t140, t141, c2']
  have bB4 : hget hp2 N = some ⟨24, 3, x, bq.cells⟩ := by rw [xM_4 N (by omega)]; exact bB
  refine lp_parts (fun c tm hp nx => ∃ (i M5 : Nat), c + i = LA ∧ tmget tm 4 = .pointer (some ⟨N, 0, none⟩) ∧ tmget tm 8 = .int .i64 k ∧ tmget tm 13 = .slice a_1 LA LA ∧ tmget tm 15 = .slice a_2 LA LA ∧ tmget tm 155 = .int .i64 LA ∧ tmget tm 156 = .int .i64 i ∧ ExtL M_4 hp2 hp ∧ M_4 ≤ M5 ∧ nx = M5 + 0) ?_ LA
    ⟨0, M_4, by omega, ?_, ?_, ?_, ?_, ?_, ?_, fun _ _ => rfl, Nat.le_refl _, rfl⟩
  rotate_left
  all_goals first | (simp only [↓R0, R1, simprocAttr, -Int.reduceAbs, t4, t8, t13, t15]; done) | (simp only [↓R0, R1, simprocAttr, -Int.reduceAbs, t4, t8, t13, t15]; rfl) | skip
  clear t4 t8 t13 t15 t17 t18 t140 t141 c2 c2'
  rintro c tm hp3 nx ⟨i, M5, hni, t4, t8, t13, t15, t155, t156, hh5, hM5, hnx⟩
  rw [hnx]
  clear hnx nx
  have xN : ExtL N h hp3 := ext_tr (by omega) xH_4 hh5
  have nbq : ∀ q, q < M_4 → ∀ d, (M5 + d = q) = False := fun q hq d => eq_false (by omega)
  by_cases c3 : i < LA
  case neg =>
    have ei : i = LA := by omega
    subst ei
    have c3' : ((i : Int) < (i : Int)) = False := eq_false (by omega)
    simp only [↓R0, R1, simprocAttr, -Int.reduceAbs, rdS, fx, t4, t8, t13, t15, t155, t156, c3', Fin, isEnd, resL, res1]
    exact ⟨_, rfl, rfl, xN⟩
  have c3' : ((i : Int) < (LA : Int)) = True := eq_true (by omega)
  have w1 : IntKind.i64.wrap ((i : Int) + 1) = ((i + 1 : Nat) : Int) := by rw [i64_in _ (by omega)]; omega
  obtain ⟨k1, f1, B1, ea1, b1, q1, q2⟩ := rq_at (hV_1 hp3 (fun q hq => by rw [hh5 q (by omega), gq_4 q (by omega), gq_3 q (by omega), gq_2 q (by omega)])) c3
  obtain ⟨k2, f2, B2, ea2, b2, q3, q4⟩ := rq_at (hV_2 hp3 (fun q hq => by rw [hh5 q (by omega), gq_4 q (by omega), gq_3 q (by omega)])) c3
  have l1 := bd_1 _ _ _ ea1
  have l2 := bd_2 _ _ _ ea2
  subst ea1
  subst ea2
  have bN : hget hp3 N = some ⟨24, 3, x, bq.cells⟩ := by rw [hh5 N (by omega)]; exact bB4
  have n1 := nbq k1 (by omega)
  have n2 := nbq k2 (by omega)
  have nN := nbq N (by omega)
  have nN' : ∀ d, (N = M5 + d) = False := fun d => eq_false (by omega)
  rw [vRQ i c3] at q2
  rw [o5' i c3] at q4
  have dq := divQ (vRB i c3) (by omega) bok nz
  have rl : ∀ q : RQ, q.cells.length = 3 := fun _ => rfl
  have ro : ∀ q : RQ, q.cells.all okCell = true := fun _ => rfl
  have rt : ∀ q : RQ, q.cells.take 3 = q.cells := fun _ => rfl
  have rs : ∀ q : RQ, setR [.bool false, .string ⟨⟨[]⟩⟩, .string ⟨⟨[]⟩⟩] 0 q.cells = q.cells := fun _ => rfl
  have rss : ∀ p q : RQ, setR p.cells 0 q.cells = q.cells := fun _ _ => rfl
  by_cases ek : i = k
  · rw [if_pos ek] at q4
    have ek' : ((i : Int) = (k : Int)) = True := eq_true (by omega)
    generalize RQ.of (qsV VS i / bq.v) = PB at *
    generalize RQ.of (qsV VS i) = PA at *
    have g1 := rl PA
    have g2 := ro PA
    have g3 := rt PA
    have g4 := rs PA
    have g5 := rss PA PB
    have g6 := rl PB
    have g7 := ro PB
    have g8 := rt PB
    have g9 := ceq3 PB
    generalize PA.cells = CA at *
    generalize PB.cells = CB at *
    generalize bq.cells = QC at *
    simp only [↓R0, R1, simprocAttr, -Int.reduceAbs, rdS, t4, t8, t13, t15, t155, t156, c3, c3', b1, b2, bN, n1, n2, nN, nN', q1, q2, q3, q4, dq, ek', ql, qo, qt, g1, g2, g3, g4, g5, g6, g7, g8, g9, w1, Bool.not_true, Bool.not_false]
    refine ⟨c - 1, by omega, i + 1, M5 + 1, by omega, rfl, fun q hq => ?_, by omega, rfl⟩
    have nb := nbq q hq
    simp only [↓R0, R1, simprocAttr, -Int.reduceAbs, nb]
    exact hh5 q hq
  · rw [if_neg ek] at q4
    have ek' : ((i : Int) = (k : Int)) = False := eq_false (by omega)
    clear dq
    generalize RQ.of (qsV VS i) = PA at *
    have g1 := rl PA
    have g2 := ro PA
    have g3 := rt PA
    have g4 := rs PA
    have g9 := ceq3 PA
    generalize PA.cells = CA at *
    generalize bq.cells = QC at *
    simp only [↓R0, R1, simprocAttr, -Int.reduceAbs, rdS, t4, t8, t13, t15, t155, t156, c3, c3', b1, b2, bN, n1, n2, nN, nN', q1, q2, q3, q4, ek', ql, qo, qt, g1, g2, g3, g4, g9, w1, Bool.not_true, Bool.not_false]
    refine ⟨c - 1, by omega, i + 1, M5 + 1, by omega, rfl, fun q hq => ?_, by omega, rfl⟩
    have nb := nbq q hq
    simp only [↓R0, R1, simprocAttr, -Int.reduceAbs, nb]
    exact hh5 q hq
end Go.Eng
end
section
set_option linter.unusedVariables false
set_option linter.unusedSimpArgs false
set_option linter.unusedSectionVars false
namespace Go.Eng.K
open Go.Eng
inductive Ki where
  | b | i (k : IntKind) | s
def kiFs (ty : TypeId → Option (List Ki)) (P : Program) : List Field → Nat → Option (List Ki)
  | [], _ => some []
  | f :: r, off =>
    if f.name ≠ "_" ∧ f.offset = off then
      match ty f.type, szOf P f.type with
      | some ks, some n => if ks.length = n then (kiFs ty P r (off + n)).map (ks ++ ·) else none
      | _, _ => none
    else none
def kiTy (P : Program) : Nat → TypeId → Option (List Ki)
  | 0, _ => none
  | d + 1, t =>
    match P.underlying t with
    | some .bool => some [.b]
    | some (.int k) => some [.i k]
    | some .string => some [.s]
    | some (.struct fs) => if P.stoodInHeld t then none else kiFs (kiTy P d) P fs.toList 0
    | some (.array len e) => match kiTy P d e, szOf P e with
      | some ks, some n => if ks.length = n then some (List.replicate len ks).flatten else none
      | _, _ => none
    | _ => none
def kmatch : List Ki → List Value → Prop
  | [], [] => True
  | .b :: ks, .bool _ :: r => kmatch ks r
  | .i k :: ks, .int k' n :: r => (k' = k ∧ (Lit.int k n).wf = true) ∧ kmatch ks r
  | .s :: ks, .string s :: r => s.size ≤ maxLen ∧ kmatch ks r
  | _, _ => False
theorem kmatch_append : ∀ {ks ks' : List Ki} {cs cs' : List Value}, kmatch ks cs → kmatch ks' cs' → kmatch (ks ++ ks') (cs ++ cs')
  | [], _, [], _, _, h => h
  | [], _, _ :: _, _, h, _ => h.elim
  | .b :: ks, ks', cs, cs', h, h' => by
    match cs, h with
    | .bool _ :: r, h => exact kmatch_append (ks := ks) h h'
  | .i k :: ks, ks', cs, cs', h, h' => by
    match cs, h with
    | .int _ _ :: r, h => exact ⟨h.1, kmatch_append (ks := ks) h.2 h'⟩
  | .s :: ks, ks', cs, cs', h, h' => by
    match cs, h with
    | .string _ :: r, h => exact ⟨h.1, kmatch_append (ks := ks) h.2 h'⟩
section
variable {H : Type} {enc : TypeId × Value → H} {P : Program}
theorem cellsOf_sz {t : TypeId} {n : Nat} (h : szOf P t = some n) : P.cellsOf t = n := by
  unfold Program.cellsOf; unfold szOf at h; rw [h]; rfl
def Plain (P : Program) (enc : TypeId × Value → H) (fuel : Nat) (t : TypeId) (ks : List Ki) : Prop :=
  ∀ (w : World) (base : Nat) (spare : Nat → Bool) (held : Bool) (cs : List Value) (x : DataW H × List MemPlace), DataW.trod enc P w base spare held fuel t cs = some x →
    kmatch ks cs ∧ x.2 = [] ∧ ∀ w' base' spare' held', DataW.trod enc P w' base' spare' held' fuel t cs = some x
theorem plain_fields {fuel : Nat} {ty : TypeId → Option (List Ki)} (hty : ∀ t ks n, ty t = some ks → szOf P t = some n → ks.length = n → Plain P enc fuel t ks) :
    ∀ (fs : List Field) (off : Nat) (ks : List Ki), kiFs ty P fs off = some ks → ∀ (w : World) (base : Nat) (spare : Nat → Bool) (held : Bool) (cs : List Value) (xs : List (DataW H × List MemPlace)),
      (fs.mapM fun f => DataW.trod enc P w base spare held fuel f.type ((cs.drop f.offset).take (P.cellsOf f.type))) = some xs → cs.length = off + ks.length →
      kmatch ks (cs.drop off) ∧ xs.flatMap (·.2) = [] ∧ ∀ w' base' spare' held', (fs.mapM fun f => DataW.trod enc P w' base' spare' held' fuel f.type ((cs.drop f.offset).take (P.cellsOf f.type))) = some xs
  | [], off, ks, h, w, base, spare, held, cs, xs, hm, hl => by
    simp only [kiFs, Option.some.injEq] at h
    subst h
    simp only [List.mapM_nil, Option.pure_def, Option.some.injEq] at hm
    subst hm
    simp only [List.length_nil, Nat.add_zero] at hl
    rw [List.drop_eq_nil_of_le (by omega)]
    exact ⟨trivial, rfl, fun _ _ _ _ => rfl⟩
  | f :: r, off, ks, h, w, base, spare, held, cs, xs, hm, hl => by
    simp only [kiFs] at h
    split at h
    case isFalse => cases h
    rename_i hc
    obtain ⟨_, hoff⟩ := hc
    split at h
    case h_2 => cases h
    rename_i ks0 n hk hn
    split at h
    case isFalse => cases h
    rename_i hlen
    rw [Option.map_eq_some_iff] at h
    obtain ⟨ks1, h1, rfl⟩ := h
    have hsz := cellsOf_sz hn
    simp only [List.mapM_cons, Option.bind_eq_bind, Option.bind_eq_some_iff, Option.pure_def, Option.some.injEq] at hm
    obtain ⟨y, hy, ys, hys, rfl⟩ := hm
    have hp := hty f.type ks0 n hk hn hlen w base spare held _ y hy
    obtain ⟨p1, p2, p3⟩ := hp
    simp only [List.length_append] at hl
    obtain ⟨q1, q2, q3⟩ := plain_fields hty r (off + n) ks1 h1 w base spare held cs ys hys (by omega)
    rw [hoff, hsz] at p1
    refine ⟨?_, ?_, ?_⟩
    · have e : cs.drop off = (cs.drop off).take n ++ cs.drop (off + n) := by
        rw [← List.drop_drop, List.take_append_drop]
      rw [e]
      exact kmatch_append p1 q1
    · simp only [List.flatMap_cons, p2, q2, List.nil_append]
    · intro w' base' spare' held'
      simp only [List.mapM_cons, Option.bind_eq_bind, Option.bind_eq_some_iff, Option.pure_def, Option.some.injEq]
      exact ⟨y, p3 w' base' spare' held', ys, q3 w' base' spare' held', rfl⟩
theorem plain_elems {fuel : Nat} {e : TypeId} {ks : List Ki} {n : Nat} (hn : szOf P e = some n) (hl : ks.length = n) (he : Plain P enc fuel e ks) :
    ∀ (m i0 : Nat) (w : World) (base : Nat) (spare : Nat → Bool) (held : Bool) (cs : List Value) (xs : List (DataW H × List MemPlace)),
      ((List.range' i0 m).mapM fun i => DataW.trod enc P w base spare held fuel e ((cs.drop (i * P.cellsOf e)).take (P.cellsOf e))) = some xs → cs.length = (i0 + m) * n →
      kmatch (List.replicate m ks).flatten (cs.drop (i0 * n)) ∧ xs.flatMap (·.2) = [] ∧ ∀ w' base' spare' held', ((List.range' i0 m).mapM fun i => DataW.trod enc P w' base' spare' held' fuel e ((cs.drop (i * P.cellsOf e)).take (P.cellsOf e))) = some xs
  | 0, i0, w, base, spare, held, cs, xs, hm, hlen => by
    simp only [List.range'_zero, List.mapM_nil, Option.pure_def, Option.some.injEq] at hm
    subst hm
    simp only [Nat.add_zero] at hlen
    rw [List.drop_eq_nil_of_le (by omega)]
    exact ⟨trivial, rfl, fun _ _ _ _ => by simp⟩
  | m + 1, i0, w, base, spare, held, cs, xs, hm, hlen => by
    have hsz := cellsOf_sz hn
    simp only [List.range'_succ, List.mapM_cons, Option.bind_eq_bind, Option.bind_eq_some_iff, Option.pure_def, Option.some.injEq] at hm
    obtain ⟨y, hy, ys, hys, rfl⟩ := hm
    obtain ⟨p1, p2, p3⟩ := he w base spare held _ y hy
    obtain ⟨q1, q2, q3⟩ := plain_elems hn hl he m (i0 + 1) w base spare held cs ys hys (by rw [hlen]; congr 1; omega)
    rw [hsz] at p1
    refine ⟨?_, ?_, ?_⟩
    · rw [List.replicate_succ, List.flatten_cons]
      have e : cs.drop (i0 * n) = (cs.drop (i0 * n)).take n ++ cs.drop ((i0 + 1) * n) := by
        rw [Nat.succ_mul, ← List.drop_drop, List.take_append_drop]
      rw [e]
      exact kmatch_append p1 q1
    · simp only [List.flatMap_cons, p2, q2, List.nil_append]
    · intro w' base' spare' held'
      simp only [List.range'_succ, List.mapM_cons, Option.bind_eq_bind, Option.bind_eq_some_iff, Option.pure_def, Option.some.injEq]
      exact ⟨y, p3 w' base' spare' held', ys, q3 w' base' spare' held', rfl⟩
theorem plain_ty : ∀ (fuel d : Nat) (t : TypeId) (ks : List Ki) (n : Nat), kiTy P d t = some ks → szOf P t = some n → ks.length = n → Plain P enc fuel t ks
  | 0, d, t, ks, n, h, hn, hl => by intro w base spare held cs x hx; simp [DataW.trod] at hx
  | fuel + 1, 0, t, ks, n, h, hn, hl => by simp [kiTy] at h
  | fuel + 1, d + 1, t, ks, n, h, hn, hl => by
    intro w base spare held cs x hx
    unfold kiTy at h
    unfold DataW.trod at hx ⊢
    split at h
    · rename_i hu
      cases h
      rw [hu] at hx ⊢
      match cs, hx with
      | [.bool b], hx => simp only [Option.some.injEq] at hx; subst hx; exact ⟨trivial, rfl, fun _ _ _ _ => rfl⟩
    · rename_i k hu
      cases h
      rw [hu] at hx ⊢
      match cs, hx with
      | [.int k' m], hx =>
        simp only at hx
        split at hx
        · rename_i hc
          simp only [Option.some.injEq] at hx; subst hx
          exact ⟨⟨hc, trivial⟩, rfl, fun _ _ _ _ => by simp only; rw [if_pos hc]⟩
        · cases hx
    · rename_i hu
      cases h
      rw [hu] at hx ⊢
      match cs, hx with
      | [.string s], hx =>
        simp only at hx
        split at hx
        · rename_i hc
          simp only [Option.some.injEq] at hx; subst hx
          exact ⟨⟨hc, trivial⟩, rfl, fun _ _ _ _ => by simp only; rw [if_pos hc]⟩
        · cases hx
    · rename_i fs hu
      split at h
      · cases h
      rw [hu] at hx ⊢
      simp only at hx ⊢
      split at hx
      case isFalse => cases hx
      rename_i hlen
      rw [Option.map_eq_some_iff] at hx
      obtain ⟨xs, hxs, rfl⟩ := hx
      rw [cellsOf_sz hn, ← hl] at hlen
      obtain ⟨p1, p2, p3⟩ := plain_fields (fuel := fuel) (fun t ks n h1 h2 h3 => plain_ty fuel d t ks n h1 h2 h3) fs.toList 0 ks h w base spare held cs xs hxs (by omega)
      refine ⟨by simpa using p1, p2, fun w' base' spare' held' => ?_⟩
      rw [if_pos (by rw [cellsOf_sz hn, ← hl, hlen]), p3]; rfl
    · rename_i len e hu
      split at h
      case h_2 => cases h
      rename_i ks0 m hk hm
      split at h
      case isFalse => cases h
      rename_i hlm
      simp only [Option.some.injEq] at h
      subst h
      rw [hu] at hx ⊢
      simp only at hx ⊢
      split at hx
      case isFalse => cases hx
      rename_i hlen
      rw [Option.map_eq_some_iff] at hx
      obtain ⟨xs, hxs, rfl⟩ := hx
      rw [cellsOf_sz hn, ← hl] at hlen
      rw [List.range_eq_range'] at hxs
      have hfl : ((List.replicate len ks0).flatten).length = len * m := by rw [List.length_flatten]; simp [hlm]
      obtain ⟨p1, p2, p3⟩ := plain_elems hm hlm (plain_ty fuel d e ks0 m hk hm hlm) len 0 w base spare held cs xs hxs (by rw [hlen, hfl, Nat.zero_add])
      refine ⟨by simpa using p1, p2, fun w' base' spare' held' => ?_⟩
      rw [if_pos (by rw [cellsOf_sz hn, ← hl, hlen]), List.range_eq_range', p3]; rfl
    · cases h
theorem trod_plain {w : World} {t : TypeId} {v : Value} {d : DataW H} {ps : List MemPlace} {ks : List Ki} {n : Nat} {base : Nat} {spare : Nat → Bool} {held : Bool}
    (hf : kiTy P 20 t = some ks) (hs : szOf P t = some n) (hl : ks.length = n) (h : DataW.Trod enc P w base spare held t v d ps) :
    kmatch ks v.cells.toList ∧ ps = [] ∧ ∀ w' base' spare' held', DataW.Trod enc P w' base' spare' held' t v d ps := by
  obtain ⟨fuel, h⟩ := h
  obtain ⟨p1, p2, p3⟩ := plain_ty fuel 20 t ks n hf hs hl w base spare held _ _ h
  exact ⟨p1, p2, fun w' base' spare' held' => ⟨fuel, p3 w' base' spare' held'⟩⟩
end
theorem agg_of {v : Value} {cs : List Value} (h : v.cells.toList = cs) (h2 : 2 ≤ cs.length) : v = .agg ⟨cs⟩ := by
  rw [vcells_eq] at h
  cases v <;> simp [vcells] at h <;> subst h <;> first | rfl | simp at h2
theorem wf_u8 {n : Int} (h : (Lit.int .u8 n).wf = true) : 0 ≤ n ∧ n ≤ 255 := by simpa [Lit.wf, IntKind.min, IntKind.max, IntKind.signed, IntKind.bits] using h
end Go.Eng.K
end
section
set_option linter.unusedVariables false
set_option linter.unusedSimpArgs false
set_option linter.unusedSectionVars false
namespace Go.Eng.K
open Go.Eng
theorem vr_ex (β : Emb) : ∀ v : Value, ∃ a, VR β a v := by
  have key : ∀ (n : Nat) (v : Value), SizeOf.sizeOf v < n → ∃ a, VR β a v := by
    intro n
    induction n with
    | zero => intro v h; omega
    | succ n ih =>
      intro v h
      have list : ∀ l : List Value, (∀ x ∈ l, SizeOf.sizeOf x < n) → ∃ bs, VRs β bs l := by
        intro l
        induction l with
        | nil => intro _; exact ⟨[], .nil⟩
        | cons x r ihl =>
          intro hx
          obtain ⟨a, ha⟩ := ih x (hx x (List.mem_cons_self ..))
          obtain ⟨bs, hs⟩ := ihl (fun y hy => hx y (List.mem_cons_of_mem _ hy))
          exact ⟨a :: bs, .cons _ _ _ _ ha hs⟩
      by_cases ho : okCell v = true
      · exact ⟨.chan none, .junk none v ho⟩
      · match v, ho, h with
        | .agg ⟨l⟩, _, h =>
          obtain ⟨bs, hs⟩ := list l (fun x hx => by
            have := List.sizeOf_lt_of_mem hx
            simp only [Value.agg.sizeOf_spec, Array.mk.sizeOf_spec] at h
            omega)
          exact ⟨.agg ⟨bs⟩, .agg _ _ hs⟩
        | .tuple ⟨l⟩, _, h =>
          obtain ⟨bs, hs⟩ := list l (fun x hx => by
            have := List.sizeOf_lt_of_mem hx
            simp only [Value.tuple.sizeOf_spec, Array.mk.sizeOf_spec] at h
            omega)
          exact ⟨.tuple ⟨bs⟩, .tup _ _ hs⟩
  exact fun v => key (SizeOf.sizeOf v + 1) v (Nat.lt_succ_self _)
def mirE (W : World) : Emb := fun k => if k < W.heap.size then some ⟨k, 0, []⟩ else none
open Classical in
noncomputable def absV (W : World) (v : Value) : Value :=
  match v with
  | .slice (some a) len cap =>
    if len = 0 then .slice (some ⟨0, 0, some 1⟩) 0 0
    else if a.spot = none ∧ a.block < W.heap.size then .slice (some a) len cap
    else Classical.choose (vr_ex (mirE W) (.slice (some a) len cap))
  | v => if isBase v = true then v else Classical.choose (vr_ex (mirE W) v)
theorem absV_vr (W : World) (v : Value) : VR (mirE W) (absV W v) v := by
  unfold absV
  split
  · rename_i a len cap
    split
    · rename_i h; subst h; exact .sle _ _
    · split
      · rename_i h
        obtain ⟨b, off, s⟩ := a
        obtain ⟨h1, h2⟩ := h
        simp only at h1 h2
        subst h1
        exact VR.sl b off len cap ⟨b, 0, []⟩ (by unfold mirE; rw [if_pos h2])
      · exact Classical.choose_spec (vr_ex (mirE W) _)
  · split
    · rename_i h; exact .base _ h
    · exact Classical.choose_spec (vr_ex (mirE W) _)
theorem absV_base {W : World} {v : Value} (h : isBase v = true) : absV W v = v := by
  unfold absV
  split
  · simp [isBase] at h
  · rw [if_pos h]
theorem absV_map (W : World) : ∀ l : List Value, VRs (mirE W) (l.map (absV W)) l
  | [] => .nil
  | v :: r => .cons _ _ _ _ (absV_vr W v) (absV_map W r)
theorem absV_bases {W : World} : ∀ {l : List Value}, l.all isBase = true → l.map (absV W) = l
  | [], _ => rfl
  | v :: r, h => by
    simp only [List.all_cons, Bool.and_eq_true] at h
    rw [List.map_cons, absV_base h.1, absV_bases h.2]
noncomputable def mirB (W : World) (b : Nat) : Option Blk :=
  match W.heap[b]? with
  | some (.cells c elem _) => some ⟨elem, 0, true, c.toList.map (absV W)⟩
  | _ => none
noncomputable def mirror (W : World) : Heap := (List.range W.heap.size).map fun b => (b, mirB W b)
theorem hget_map {f : Nat → Option Blk} {k : Nat} : ∀ (l : List Nat), hget (l.map fun b => (b, f b)) k = if k ∈ l then f k else none
  | [] => rfl
  | b :: r => by
    simp only [List.map_cons, hget]
    by_cases e : b = k
    · subst e; simp
    · rw [if_neg e, hget_map r]
      simp [Ne.symm e]
theorem mir_get (W : World) (k : Nat) : hget (mirror W) k = mirB W k := by
  unfold mirror
  rw [hget_map]
  by_cases h : k < W.heap.size
  · rw [if_pos (List.mem_range.2 h)]
  · rw [if_neg (by simpa using h)]
    unfold mirB
    rw [Array.getElem?_eq_none (by omega)]
theorem mir_blk {W : World} {k : Nat} {blk : Blk} (h : hget (mirror W) k = some blk) : k < W.heap.size ∧ ∃ C fr, W.heap[k]? = some (.cells ⟨C⟩ blk.elem fr) ∧ blk.sz = 0 ∧ blk.cells = C.map (absV W) := by
  rw [mir_get] at h
  unfold mirB at h
  split at h
  · rename_i c elem fr hk
    cases h
    refine ⟨?_, c.toList, fr, hk, rfl, rfl⟩
    rcases Nat.lt_or_ge k W.heap.size with h | h
    · exact h
    · rw [Array.getElem?_eq_none h] at hk; cases hk
  · cases h
theorem mir_wr {W : World} {k : Nat} : ¬ wr (mirror W) k := fun ⟨blk, h1, h2⟩ => by
  obtain ⟨_, C, fr, _, h3, _⟩ := mir_blk h1
  exact h2 h3
theorem mir_rel (W : World) : Rel (mirE W) (mirror W) W := by
  refine ⟨fun k blk hk => ?_, fun k k' L L' _ b => absurd b mir_wr, fun k L h => ?_⟩
  · obtain ⟨h1, C, fr, h2, h3, h4⟩ := mir_blk hk
    refine ⟨⟨k, 0, []⟩, C, fr, by unfold mirE; rw [if_pos h1], by simpa using h2, fun h => absurd h3 h, by rw [h4]; exact absV_map W C, by simp, fun _ => rfl⟩
  · unfold mirE at h
    split at h
    · rename_i hk; cases h; exact hk
    · cases h
theorem mir_calls {P : Program} {f : Nat} {S : List Value → Heap → Nat → Option Out} (hS : SpecOK P f S) {W : World} {aargs args : List Value} {v : Value} (h : S aargs (mirror W) W.heap.size = some (v, [], 0))
    (ha : VRs (mirE W) aargs args) (hv : isBase v = true) :
    Calls P f ⟨args⟩ W fun e W' => e = .returned v ∧ W'.os = W.os ∧ W'.output = W.output ∧ ∀ b, b < W.heap.size → W'.heap[b]? = W.heap[b]? := by
  have h := hS.ok aargs (mirror W) W.heap.size (v, [], 0) h (mirE W) W args ha (mir_rel W) (fun k h1 h2 => by simp only at h2; omega)
    ⟨W.heap.size, fun k hk => by
      rcases Nat.lt_or_ge k W.heap.size with h | h
      · exact h
      · exact absurd (by unfold mirE; rw [if_neg (by omega)]) hk⟩
  refine h.mono ?_
  rintro e W' ⟨β', v', he, hvr, hrel, hfr, _⟩
  exact ⟨by rw [he, hvr.base_left hv], hfr.os, hfr.out, fun b hb => hfr.keep b hb (fun k L hk => absurd hk mir_wr)⟩
theorem kept_of {W W' : World} (h1 : W'.os = W.os) (h2 : W'.output = W.output) (h3 : ∀ b, b < W.heap.size → W'.heap[b]? = W.heap[b]?) : W.keptBut W' (fun _ => False) := by
  refine ⟨h1, h2, fun i hi => ?_⟩
  rw [h3 i hi]
  cases W.heap[i]? with
  | none => rfl
  | some o =>
    cases o with
    | cells c t fr => exact ⟨rfl, rfl, rfl, fun _ _ => rfl⟩
    | map es cl => exact .inr ⟨rfl, rfl⟩
    | _ => rfl
section
variable {H : Type} {enc : TypeId × Value → H} {P : Program}
theorem trodAll_old {W W' : World} (hs : ∀ b, b < W.heap.size → W'.heap[b]? = W.heap[b]?) {base : Nat} {sp : Nat → Bool} {held : Bool} :
    ∀ {ts : List TypeId} {vs : List Value} {ds : List (DataW H)} {ps : List MemPlace}, DataW.TrodAll enc P W base sp held ts vs ds ps → DataW.TrodAll enc P W' base sp held ts vs ds ps
  | [], [], [], _, h => h
  | t :: ts, v :: vs, d :: ds, ps, ⟨p, q, ⟨n, h1⟩, h2, e⟩ => by
    have lt := DataW.trod_lt n _ _ _ h1
    refine ⟨p, q, ⟨n, DataW.trod_carry n _ _ _ h1 (fun x hx => ?_)⟩, trodAll_old hs h2, e⟩
    have hb := lt x hx
    cases x with
    | cell b off => simp only [MemPlace.block] at hb; simp only [World.sameAt, World.cell?, hs b hb]
    | map b => simp only [MemPlace.block] at hb; simp only [World.sameAt, hs b hb]
  | [], [], _ :: _, _, h => h.elim
  | [], _ :: _, _, _, h => by cases h
  | _ :: _, [], _, _, h => by cases h
  | _ :: _, _ :: _, [], _, h => by cases h
theorem args_again {W W' : World} (hl : laidOutB P = true) (hm : mapsRowed P = true) (hz : ((List.range P.types.size).all fun t => match P.underlying t with | some (.slice e) => decide (0 < P.cellsOf e) | _ => true) = true)
    (hs : ∀ b, b < W.heap.size → W'.heap[b]? = W.heap[b]?) {ts : List TypeId} (ht : ts.all (fun t => decide (t < P.types.size)) = true) {vs : List Value} {ds : List (DataW H)} {ps : List MemPlace} (h : DataW.TrodAll enc P W 0 (fun _ => true) true ts vs ds ps) :
    DataW.TrodAll enc P W' 0 (fun b => decide (b < W.heap.size)) true ts vs ds ps := by
  refine DataW.TrodAll.respare (kids_rows hl hm) (slices_full_of P hz) (fun t h => of_decide_eq_true (List.all_eq_true.1 ht t h)) (trodAll_old hs h) (fun p hp => ?_)
  exact decide_eq_true (DataW.TrodAll.lt h p hp)
theorem mir_at {W : World} {a : Addr} {n : Nat} {cs : List Value} (hn : 0 < n) (h : W.cells? 0 a n = some cs) :
    a.spot = none ∧ a.block < W.heap.size ∧ ∃ blk, hget (mirror W) a.block = some blk ∧ a.off + n ≤ blk.cells.length ∧ (blk.cells.drop a.off).take n = cs.map (absV W) := by
  obtain ⟨_, hlen, hc⟩ := World.cells?_some h
  have h0 := hc 0 hn
  rw [List.getElem?_eq_getElem (by omega)] at h0
  have e0 : a.add 0 = a := rfl
  rw [e0] at h0
  unfold World.cell? at h0
  split at h0
  case h_2 => cases h0
  rename_i c elem fr hk
  split at h0
  case isTrue => cases h0
  rename_i hsp
  have hspot : a.spot = none := by cases h : a.spot with | none => rfl | some s => rw [h] at hsp; simp at hsp
  have hlt : a.block < W.heap.size := by
    rcases Nat.lt_or_ge a.block W.heap.size with h | h
    · exact h
    · rw [Array.getElem?_eq_none h] at hk; cases hk
  have cell : ∀ i, i < n → c.toList[a.off + i]? = cs[i]? := fun i hi => by
    have := hc i hi
    rw [← this]
    have ea : a.add i = ⟨a.block, a.off + i, none⟩ := by
      unfold Addr.add
      split
      · rename_i h0; subst h0; cases a; simp_all
      · rfl
    rw [ea]
    simp only [World.cell?, hk]
    simp
  have hle : a.off + n ≤ c.toList.length := by
    have := cell (n - 1) (by omega)
    rw [List.getElem?_eq_getElem (by omega : n - 1 < cs.length)] at this
    have := (List.getElem?_eq_some_iff.1 this).1
    omega
  refine ⟨hspot, hlt, ⟨elem, 0, true, c.toList.map (absV W)⟩, ?_, by simpa using hle, ?_⟩
  · rw [mir_get]; unfold mirB; rw [hk]
  · refine List.ext_getElem? fun i => ?_
    rw [List.getElem?_take]
    by_cases hi : i < n
    · rw [if_pos hi, List.getElem?_drop, List.getElem?_map, List.getElem?_map, cell i hi]
    · rw [if_neg hi, List.getElem?_eq_none (by simp; omega)]
theorem many_ex {α : Type} {sz : Nat} {dec : List Value → Option α} : ∀ (l : Nat) (cs : List Value), (∀ i, i < l → ∃ x, dec ((cs.drop (i * sz)).take sz) = some x) → ∃ xs, many sz dec l cs = some xs
  | 0, cs, _ => ⟨[], rfl⟩
  | l + 1, cs, h => by
    obtain ⟨x, hx⟩ := h 0 (by omega)
    simp only [Nat.zero_mul, List.drop_zero] at hx
    obtain ⟨xs, hxs⟩ := many_ex l (cs.drop sz) (fun i hi => by
      obtain ⟨y, hy⟩ := h (i + 1) (by omega)
      refine ⟨y, ?_⟩
      rw [List.drop_drop, ← hy, Nat.succ_mul, Nat.add_comm (i * sz) sz])
    refine ⟨x :: xs, ?_⟩
    unfold many
    simp only [hx, hxs]
theorem mir_list {W : World} {α : Type} {dec : List Value → Option α} {t e : TypeId} {n fuel : Nat} {held : Bool} {sv : Value} {x : DataW H × List MemPlace} (ht : P.underlying t = some (.slice e)) (hsz : P.cellsOf e = n) (hn : 0 < n)
    (h : DataW.trod enc P W 0 (fun _ => true) held fuel t [sv] = some x)
    (hdec : ∀ (m : Nat) (cs : List Value) (y : DataW H × List MemPlace), DataW.trod enc P W 0 (fun _ => true) held m e cs = some y → ∃ z, dec (cs.map (absV W)) = some z) :
    ∃ xs, listAt n dec (mirror W) (absV W sv) = some xs ∧ xs.length ≤ maxLen := by
  rcases Go.Deep.open_slice ht h with ⟨h1, _⟩ | ⟨a, len, cap, m, k, D, Pl, h1, _, hl, hm, hmm, _, hx⟩
  · simp only [List.cons.injEq, and_true] at h1
    subst h1
    exact ⟨[], by rw [absV_base rfl]; rfl, by simp⟩
  · simp only [List.cons.injEq, and_true] at h1
    subst h1
    simp only [if_true] at hmm
    subst hmm
    rw [hsz] at hx
    by_cases h0 : len = 0
    · subst h0
      exact ⟨[], by unfold absV; simp only [if_true]; rfl, by simp⟩
    · obtain ⟨c0, hc0, _⟩ := hx 0 (by omega)
      rw [Nat.zero_mul] at hc0
      obtain ⟨s1, s2, blk, s3, _, _⟩ := mir_at hn hc0
      have ev : absV W (.slice (some a) len m) = .slice (some a) len m := by unfold absV; simp only; rw [if_neg h0, if_pos ⟨s1, s2⟩]
      obtain ⟨b, off, sp⟩ := a
      replace s1 : sp = none := s1
      replace s3 : hget (mirror W) b = some blk := s3
      subst s1
      have cell : ∀ i, i < len → ∃ cs, off + i * n + n ≤ blk.cells.length ∧ (blk.cells.drop (off + i * n)).take n = cs.map (absV W) ∧ ∃ y, DataW.trod enc P W 0 (fun _ => true) held k e cs = some y := fun i hi => by
        obtain ⟨cs, hc, hy⟩ := hx i (by omega)
        obtain ⟨q1, q2, blk', q3, q4, q5⟩ := mir_at hn hc
        have ea : (⟨b, off, none⟩ : Addr).add (i * n) = ⟨b, off + i * n, none⟩ := add_none _ _ _
        rw [ea] at q3 q4 q5
        replace q3 : hget (mirror W) b = some blk' := q3
        replace q4 : off + i * n + n ≤ blk'.cells.length := q4
        replace q5 : (blk'.cells.drop (off + i * n)).take n = cs.map (absV W) := q5
        rw [s3] at q3; cases q3
        exact ⟨cs, q4, q5, _, hy⟩
      have hle : off + len * n ≤ blk.cells.length := by
        obtain ⟨_, q, _⟩ := cell (len - 1) (by omega)
        obtain ⟨l', rfl⟩ : ∃ l', len = l' + 1 := ⟨len - 1, by omega⟩
        simp only [Nat.add_sub_cancel] at q
        rw [Nat.succ_mul]; omega
      have la : lay n (mirror W) (.slice (some ⟨b, off, none⟩) len m) = some ((blk.cells.drop off).take (len * n)) := by
        obtain ⟨l', rfl⟩ : ∃ l', len = l' + 1 := ⟨len - 1, by omega⟩
        unfold lay
        simp only [s3]
        rw [if_pos ⟨hl, hle⟩]
      obtain ⟨xs, hxs⟩ := many_ex (sz := n) (dec := dec) len ((blk.cells.drop off).take (len * n)) (fun i hi => by
        obtain ⟨cs, q1, q2, y, q3⟩ := cell i hi
        obtain ⟨z, hz⟩ := hdec k cs y q3
        refine ⟨z, ?_⟩
        rw [List.drop_take, List.take_take, List.drop_drop]
        have : n ≤ len * n - i * n := by rw [← Nat.sub_mul]; exact Nat.le_mul_of_pos_left _ (by omega)
        rw [Nat.min_eq_left this, q2]
        exact hz)
      refine ⟨xs, ?_, ?_⟩
      · rw [ev]
        unfold listAt
        rw [la]
        exact hxs
      · rw [(many_get hxs).1]; omega
theorem kmatch_base : ∀ {ks : List Ki} {cs : List Value}, kmatch ks cs → cs.all isBase = true
  | [], [], _ => rfl
  | .b :: ks, cs, h => by
    match cs, h with
    | .bool _ :: r, h => simp only [List.all_cons, isBase, Bool.true_and]; exact kmatch_base (ks := ks) h
  | .i k :: ks, cs, h => by
    match cs, h with
    | .int _ _ :: r, h => simp only [List.all_cons, isBase, Bool.true_and]; exact kmatch_base (ks := ks) h.2
  | .s :: ks, cs, h => by
    match cs, h with
    | .string _ :: r, h => simp only [List.all_cons, isBase, Bool.true_and]; exact kmatch_base (ks := ks) h.2
end
end Go.Eng.K
end
section
set_option linter.unusedVariables false
set_option linter.unusedSimpArgs false
set_option linter.unusedSectionVars false
namespace Go.Eng
structure Pt where
  (s1 : Bool) (l1 : List UInt8) (s2 : Bool) (l2 : List UInt8) (s3 : Bool) (l3 : List UInt8) (s4 : Bool) (l4 : List UInt8)
deriving DecidableEq
namespace Pt
def cells (p : Pt) : List Value := [.bool p.s1, .string ⟨⟨p.l1⟩⟩, .bool p.s2, .string ⟨⟨p.l2⟩⟩, .bool p.s3, .string ⟨⟨p.l3⟩⟩, .bool p.s4, .string ⟨⟨p.l4⟩⟩]
def x (p : Pt) : Int := sv p.s1 p.l1
def y (p : Pt) : Int := sv p.s2 p.l2
def z (p : Pt) : Int := sv p.s3 p.l3
def w (p : Pt) : Int := sv p.s4 p.l4
def cmp (p q : Pt) : Int := cmp4 p.x p.y p.z p.w q.x q.y q.z q.w
def on (p q r : Pt) : Prop := flt p.x p.y p.z p.w q.x q.y q.z q.w r.x r.y r.z r.w
instance {p q r : Pt} : Decidable (on p q r) := by unfold on; infer_instance
def ok (p : Pt) : Prop := (p.l1.length ≤ 65536 ∧ p.l2.length ≤ 65536 ∧ p.l3.length ≤ 65536 ∧ p.l4.length ≤ 65536) ∧ 0 < p.w
instance {p : Pt} : Decidable p.ok := by unfold ok; infer_instance
def hi (p q : Pt) : Pt := if 0 < cmp p q then p else q
end Pt
end Go.Eng
end
section
set_option linter.unusedVariables false
set_option linter.unusedSimpArgs false
set_option linter.unusedSectionVars false
namespace Go.Eng
namespace Pt
def dflt : Pt := ⟨false, [], false, [], false, [], false, []⟩
def sz (k : Nat) (p : Pt) : Prop := p.l1.length ≤ k ∧ p.l2.length ≤ k ∧ p.l3.length ≤ k ∧ p.l4.length ≤ k
instance {k : Nat} {p : Pt} : Decidable (p.sz k) := by unfold sz; infer_instance
def c1 (p : Pt) : List Value := [.bool p.s1, .string ⟨⟨p.l1⟩⟩]
def c2 (p : Pt) : List Value := [.bool p.s2, .string ⟨⟨p.l2⟩⟩]
def c3 (p : Pt) : List Value := [.bool p.s3, .string ⟨⟨p.l3⟩⟩]
theorem g1 (p : Pt) : p.cells.take 2 = p.c1 := rfl
theorem g2 (p : Pt) : (p.cells.drop 2).take 2 = p.c2 := rfl
theorem g3 (p : Pt) : (p.cells.drop 4).take 2 = p.c3 := rfl
end Pt
def ptAt (l : List Pt) (i : Nat) : Pt := (l[i]?).getD Pt.dflt
def awx (a b : Pt) : Int := b.x * a.w - a.x * b.w
def awy (a b : Pt) : Int := b.y * a.w - a.y * b.w
def awz (a b : Pt) : Int := b.z * a.w - a.z * b.w
def lftZ (P a b x : Pt) : Int :=
  0 + P.x * (awy a b * awz a x - awz a b * awy a x) + P.y * (awz a b * awx a x - awx a b * awz a x) + P.z * (awx a b * awy a x - awy a b * awx a x)
def turnsP (P : Pt) (l : List Pt) : Prop := ∀ i, i < l.length → ∀ j, j < l.length → j ≠ i → j ≠ (i + 1) % l.length → 0 < lftZ P (ptAt l i) (ptAt l ((i + 1) % l.length)) (ptAt l j)
instance {P : Pt} {l : List Pt} : Decidable (turnsP P l) := by unfold turnsP; infer_instance
end Go.Eng
end
section
set_option linter.unusedVariables false
set_option linter.unusedSimpArgs false
set_option linter.unusedSectionVars false
namespace Go.Eng.K
open Go.Eng
section
variable {H : Type} {enc : TypeId × Value → H} {P : Program}
theorem trod_struct {w : World} {base : Nat} {spare : Nat → Bool} {held : Bool} {fuel : Nat} {t : TypeId} {cs : List Value} {x : DataW H × List MemPlace} {fs : Array Field} (hu : P.underlying t = some (.struct fs))
    (h : DataW.trod enc P w base spare held fuel t cs = some x) :
    cs.length = P.cellsOf t ∧ ∃ fuel' xs, fs.toList.mapM (fun f => DataW.trod enc P w base spare held fuel' f.type ((cs.drop f.offset).take (P.cellsOf f.type))) = some xs ∧ x = (.agg (xs.map (·.1)), xs.flatMap (·.2)) := by
  cases fuel with
  | zero => simp [DataW.trod] at h
  | succ fuel =>
    unfold DataW.trod at h
    rw [hu] at h
    simp only at h
    split at h
    case isFalse => cases h
    rename_i hl
    rw [Option.map_eq_some_iff] at h
    obtain ⟨xs, hx, rfl⟩ := h
    exact ⟨hl, fuel, xs, hx, rfl⟩
def sumL : List Nat → Nat
  | [] => 0
  | x :: r => x + sumL r
variable (bulk : DataW H → Nat) (b1 : ∀ b : List UInt8, b.length ≤ bulk (.lit (.string b))) (b2 : ∀ ps : List (DataW H), sumL (ps.map bulk) ≤ bulk (.agg ps))
include b1 b2 in
include b1 b2 in
end
end Go.Eng.K
end
section
set_option linter.unusedVariables false
set_option linter.unusedSimpArgs false
set_option linter.unusedSectionVars false
namespace Go.Eng.K
open Go.Eng Go.WideShapes
section
variable {H : Type} {enc : TypeId × Value → H} {P : Program}
theorem km_q {cs : List Value} (h : kmatch [.b, .s, .s] cs) : ∃ q : RQ, cs = q.cells := by
  match cs, h with
  | [.bool s, .string ⟨⟨n⟩⟩, .string ⟨⟨d⟩⟩], _ => exact ⟨⟨s, n, d⟩, rfl⟩
theorem km_i {k : IntKind} {cs : List Value} (h : kmatch [.i k] cs) : ∃ n, cs = [.int k n] := by
  match cs, h with
  | [.int k' n], h => obtain ⟨⟨rfl, _⟩, _⟩ := h; exact ⟨n, rfl⟩
theorem rats_trod {W : World} {fuel : Nat} {tv tq : TypeId} {sv : Value} {x : DataW H × List MemPlace} (hv : P.underlying tv = some (.slice tq)) (hq : kiTy P 20 tq = some [.b, .s, .s]) (hs : szOf P tq = some 3)
    (h : DataW.trod enc P W 0 (fun _ => true) true fuel tv [sv] = some x) : ∃ l, listAt 3 dec1 (mirror W) (absV W sv) = some l ∧ l.length ≤ maxLen :=
  mir_list (dec := dec1) (n := 3) hv (cellsOf_sz hs) (by omega) h (fun m cs y hy => by
    obtain ⟨km, _, _⟩ := plain_ty m 20 tq _ 3 hq hs rfl W 0 _ true _ y hy
    obtain ⟨q, eq⟩ := km_q km
    rw [absV_bases (kmatch_base km), eq]
    exact ⟨q, rfl⟩)
theorem five {l : List Value} (h : l.length = 5) : ∃ a b c d e, l = [a, b, c, d, e] := by
  match l, h with
  | [a, b, c, d, e], _ => exact ⟨a, b, c, d, e, rfl⟩
theorem open_eqs {W : World} {base : Nat} {t te tc tq ti : TypeId} {n1 n2 n3 g1 g2 g3 q1 q2 q3 : String} {b1 b2 b3 c1 c2 c3 : _} {v : Value} {d : DataW H} {ps : List MemPlace} (ht : P.underlying t = some (.slice te))
    (hu : P.underlying te = some (.struct #[⟨n1, tc, 0, b1, g1, q1, c1⟩, ⟨n2, tq, 1, b2, g2, q2, c2⟩, ⟨n3, ti, 4, b3, g3, q3, c3⟩])) (hce : P.cellsOf te = 5) (hv : P.underlying tc = some (.slice tq)) (hcc : P.cellsOf tc = 1)
    (hq : kiTy P 20 tq = some [.b, .s, .s]) (hs : szOf P tq = some 3) (hi : kiTy P 20 ti = some [.i .i64]) (hsi : szOf P ti = some 1)
    (hval : Value.okWide P W .any base t v) (h : DataW.Trod enc P W 0 (fun _ => true) true t v d ps) : ∃ l, decRows (mirror W) (absV W v) = some l ∧ l.length ≤ maxLen := by
  obtain ⟨a, len, cap, rfl⟩ := okWide_slice ht hval
  obtain ⟨fuel, h⟩ := h
  unfold decRows
  refine mir_list (dec := decEq (mirror W)) (n := 5) ht hce (by omega) h (fun m cs y hy => ?_)
  obtain ⟨hl, fuel', xs, hx, _⟩ := trod_struct hu hy
  rw [hce] at hl
  simp only [List.mapM_cons, List.mapM_nil, Option.bind_eq_bind, Option.bind_eq_some_iff, Option.pure_def, Option.some.injEq] at hx
  obtain ⟨y1, hy1, ys, ⟨y2, hy2, zs, ⟨y3, hy3, _⟩, _⟩, _⟩ := hx
  have e3 : P.cellsOf tq = 3 := cellsOf_sz hs
  have e1 : P.cellsOf ti = 1 := cellsOf_sz hsi
  rw [hcc] at hy1
  rw [e3] at hy2
  rw [e1] at hy3
  obtain ⟨k0, k1, k2, k3, k4, rfl⟩ := five hl
  have hy1 : DataW.trod enc P W 0 (fun _ => true) true fuel' tc [k0] = some y1 := hy1
  have hy2 : DataW.trod enc P W 0 (fun _ => true) true fuel' tq [k1, k2, k3] = some y2 := hy2
  have hy3 : DataW.trod enc P W 0 (fun _ => true) true fuel' ti [k4] = some y3 := hy3
  obtain ⟨l, hl1, _⟩ := rats_trod hv hq hs hy1
  obtain ⟨km, _, _⟩ := plain_ty fuel' 20 tq _ 3 hq hs rfl W 0 _ true _ y2 hy2
  obtain ⟨q, eq⟩ := km_q km
  obtain ⟨ki, _, _⟩ := plain_ty fuel' 20 ti _ 1 hi hsi rfl W 0 _ true _ y3 hy3
  obtain ⟨n, en⟩ := km_i ki
  simp only [RQ.cells, List.cons.injEq, and_true] at eq en
  obtain ⟨rfl, rfl, rfl⟩ := eq
  subst en
  refine ⟨⟨l, q, n⟩, ?_⟩
  simp only [List.map_cons, List.map_nil]
  rw [absV_base (v := .bool q.s) rfl, absV_base (v := .string ⟨⟨q.n⟩⟩) rfl, absV_base (v := .string ⟨⟨q.d⟩⟩) rfl, absV_base (v := .int .i64 n) rfl]
  exact decEq_of (e := ⟨l, q, n⟩) hl1
end
end Go.Eng.K
end
