/-
  A part of the proof: the machine, the contracts of the functions and the plain laws, merged from smaller texts.
-/
import Derived.Test.YtcmhlhgddifpeaaGreatDoorBt1
import Derived.IntWalk
import Derived.Test.YtcmhlhgddifpeaaGreatDoorProg
import Derived.KernelRfl
section
set_option linter.unusedVariables false
set_option linter.unusedSimpArgs false
set_option linter.unusedSectionVars false
namespace Go.Eng
abbrev KP := Inhabited (St × (St → Prop))
abbrev KD := Inhabited (Log × St × (Log → St → Prop))
abbrev KL := Inhabited (Env × ICode × (IExit → St → Prop))
section
variable {E : Env} {Q : IExit → St → Prop} {K : St → Prop} {s : St}
theorem x_skip : wpI E .skip Q s = Q .normal s := propext Iff.rfl
theorem x_ret : wpI E .ret Q s = Q .ret s := propext Iff.rfl
theorem x_seq {a b : ICode} : wpI E (.seq a b) Q s = wpI E a (thenQ (wpI E b Q) Q) s := propext Iff.rfl
theorem x_block {id : Nat} {a : ICode} : wpI E (.block id a) Q s = wpI E a (blockQ id Q) s := propext Iff.rfl
theorem x_exit {id : Nat} : wpI E (.exit id) Q s = Q (.exit id) s := propext Iff.rfl
theorem x_reg {ops : List ROp} : wpI E (.reg ops) Q s = wpR E (Q .normal) ops s := propext Iff.rfl
theorem x_dreg {ops : List DOp} : wpI E (.dreg ops) Q s = wpD E (Q .normal) ops 0 [] s := propext Iff.rfl
theorem x_fail : wpI E .fail Q s = False := propext Iff.rfl
theorem x_then1 {next : St → Prop} : thenQ next Q .normal s = next s := propext Iff.rfl
theorem x_then2 {next : St → Prop} {id : Nat} : thenQ next Q (.exit id) s = Q (.exit id) s := propext Iff.rfl
theorem x_then3 {next : St → Prop} : thenQ next Q .ret s = Q .ret s := propext Iff.rfl
theorem x_blk1 {id : Nat} : blockQ id Q .normal s = Q .normal s := propext Iff.rfl
theorem x_blk2 {id : Nat} : blockQ id Q (.exit id) s = Q .normal s := by simp [blockQ]
theorem x_blk3 {id : Nat} : blockQ id Q .ret s = Q .ret s := propext Iff.rfl
theorem x_blk4 {id id' : Nat} : blockQ id Q (.exit id') s = if id' = id then Q .normal s else Q (.exit id') s := propext Iff.rfl
def LP (s : St) [k : KL] : Prop := wpI k.default.1 (.loop k.default.2.1) k.default.2.2 s
theorem x_loop {a : ICode} : wpI E (.loop a) Q s = @LP s ⟨(E, a, Q)⟩ := propext Iff.rfl
def cd (v : Value) [yes : Inhabited Prop] [no : Inhabited Prop] : Prop :=
  match v with
  | .bool t => (t = true → yes.default) ∧ (t = false → no.default)
  | _ => False
theorem x_cond {c : Opd} {a b : ICode} {tm : List (Nat × Value)} {hp : Heap} {nx : Nat} : wpI E (.cond c a b) Q ⟨tm, hp, nx⟩ = @cd (ev tm c) ⟨wpI E a Q ⟨tm, hp, nx⟩⟩ ⟨wpI E b Q ⟨tm, hp, nx⟩⟩ := by
  simp only [wpI, cd]
  cases ev tm c <;> rfl
theorem cd_true {yes no : Prop} : @cd (.bool true) ⟨yes⟩ ⟨no⟩ = yes := by simp [cd]
theorem cd_false {yes no : Prop} : @cd (.bool false) ⟨yes⟩ ⟨no⟩ = no := by simp [cd]
theorem cd_case {b : Bool} {yes no : Prop} (h1 : b = true → yes) (h2 : b = false → no) : @cd (.bool b) ⟨yes⟩ ⟨no⟩ := ⟨h1, h2⟩
def gd (v : Value) (want : Bool) [yes : Inhabited Prop] [no : Inhabited Prop] : Prop :=
  match v with
  | .bool b => (b = want → yes.default) ∧ (b ≠ want → no.default)
  | _ => no.default
theorem gd_true_true {yes no : Prop} : @gd (.bool true) true ⟨yes⟩ ⟨no⟩ = yes := by simp [gd]
theorem gd_true_false {yes no : Prop} : @gd (.bool true) false ⟨yes⟩ ⟨no⟩ = no := by simp [gd]
theorem gd_false_true {yes no : Prop} : @gd (.bool false) true ⟨yes⟩ ⟨no⟩ = no := by simp [gd]
theorem gd_false_false {yes no : Prop} : @gd (.bool false) false ⟨yes⟩ ⟨no⟩ = yes := by simp [gd]
theorem gd_undef {want : Bool} {yes no : Prop} : @gd undef want ⟨yes⟩ ⟨no⟩ = no := propext Iff.rfl
theorem gd_case {b want : Bool} {yes no : Prop} (h1 : b = true → @gd (.bool true) want ⟨yes⟩ ⟨no⟩) (h2 : b = false → @gd (.bool false) want ⟨yes⟩ ⟨no⟩) : @gd (.bool b) want ⟨yes⟩ ⟨no⟩ := by
  cases b
  · exact h2 rfl
  · exact h1 rfl
def aft (dst : Option Nat) (out : Option Out) [k : KP] : Prop := after dst k.default.1 k.default.2 out
theorem r_nil : wpR E K [] s = K s := propext Iff.rfl
theorem r_plain {dst : Option Nat} {op : IOp} {r : List ROp} {tm : List (Nat × Value)} {hp : Heap} {nx : Nat} : wpR E K (⟨dst, none, op⟩ :: r) ⟨tm, hp, nx⟩ = @aft dst (istep E (ev tm) hp nx op) ⟨(⟨tm, hp, nx⟩, wpR E K r)⟩ := propext Iff.rfl
theorem r_guard {dst : Option Nat} {t : Nat} {want : Bool} {op : IOp} {r : List ROp} {tm : List (Nat × Value)} {hp : Heap} {nx : Nat} : wpR E K (⟨dst, some (t, want), op⟩ :: r) ⟨tm, hp, nx⟩ =
    @gd (tmget tm t) want ⟨@aft dst (istep E (ev tm) hp nx op) ⟨(⟨tm, hp, nx⟩, wpR E K r)⟩⟩ ⟨wpR E K r ⟨putT dst undef tm, hp, nx⟩⟩ := by
  simp only [wpR, guarded, gd, aft]
  cases tmget tm t <;> rfl
variable {tm : List (Nat × Value)} {hp : Heap} {N k d j : Nat} {v : Value} {x y z : Nat × Option Blk} {δ : Heap} {m : Nat}
theorem a_pure : @aft (some d) (some (v, [], 0)) ⟨(⟨tm, hp, N⟩, K)⟩ = K ⟨(d, v) :: tm, hp, N⟩ := propext Iff.rfl
theorem a_pure0 : @aft none (some (v, [], 0)) ⟨(⟨tm, hp, N⟩, K)⟩ = K ⟨tm, hp, N⟩ := propext Iff.rfl
theorem a_store : @aft none (some (v, [x], 0)) ⟨(⟨tm, hp, N⟩, K)⟩ = K ⟨tm, x :: hp, N⟩ := propext Iff.rfl
theorem a_new : @aft (some d) (some (v, [x], 1)) ⟨(⟨tm, hp, N + k⟩, K)⟩ = K ⟨(d, v) :: tm, x :: hp, N + (k + 1)⟩ := propext Iff.rfl
theorem a_upd : @aft (some d) (some (v, [x], 0)) ⟨(⟨tm, hp, N⟩, K)⟩ = K ⟨(d, v) :: tm, x :: hp, N⟩ := propext Iff.rfl
theorem a_new2 : @aft (some d) (some (v, [x, y], 1)) ⟨(⟨tm, hp, N + k⟩, K)⟩ = K ⟨(d, v) :: tm, x :: y :: hp, N + (k + 1)⟩ := propext Iff.rfl
theorem put_some : putT (some d) v tm = (d, v) :: tm := rfl
theorem put_none : putT none v tm = tm := rfl
def aftD (dst : Option Nat) (call : Bool) (j : Nat) (out : Option Out) [k : KD] : Prop :=
  match out with
  | some (v, δ, m) => (call = true → freshOnly δ k.default.2.1.nx m) ∧ k.default.2.2 ((j, δ) :: k.default.1) ⟨putT dst v k.default.2.1.tm, δ ++ k.default.2.1.hp, k.default.2.1.nx + m⟩
  | none => False
variable {log : Log} {KK : Log → St → Prop} {um : List Nat} {op : IOp} {dst : Option Nat}
theorem d_nil : wpD E K [] j log s = K s := propext Iff.rfl
theorem d_plain {r : List DOp} : wpD E K (⟨dst, none, um, op⟩ :: r) j log ⟨tm, hp, N⟩ = @aftD dst (isCall op) j (istep E (ev tm) (maskH um log ++ hp) N op) ⟨(rdL j (ev tm) op log, ⟨tm, hp, N⟩, wpD E K r (j + 1))⟩ := by
  simp only [wpD, guarded]
  cases istep E (ev tm) (maskH um log ++ hp) N op <;> rfl
theorem d_guard {t : Nat} {want : Bool} {r : List DOp} : wpD E K (⟨dst, some (t, want), um, op⟩ :: r) j log ⟨tm, hp, N⟩ =
    @gd (tmget tm t) want ⟨@aftD dst (isCall op) j (istep E (ev tm) (maskH um log ++ hp) N op) ⟨(rdL j (ev tm) op log, ⟨tm, hp, N⟩, wpD E K r (j + 1))⟩⟩ ⟨wpD E K r (j + 1) log ⟨putT dst undef tm, hp, N⟩⟩ := by
  simp only [wpD, guarded, gd]
  have e : ∀ o, afterD ⟨dst, some (t, want), um, op⟩ j log ⟨tm, hp, N⟩ (wpD E K r (j + 1)) o = @aftD dst (isCall op) j o ⟨(rdL j (ev tm) op log, ⟨tm, hp, N⟩, wpD E K r (j + 1))⟩ := by
    intro o; cases o <;> rfl
  rw [e]
  cases tmget tm t <;> rfl
theorem b_pure {c : Bool} : @aftD (some d) c j (some (v, [], 0)) ⟨(log, ⟨tm, hp, N⟩, KK)⟩ = KK ((j, []) :: log) ⟨(d, v) :: tm, hp, N⟩ := by
  simp [aftD, freshOnly, putT]
theorem b_pure0 {c : Bool} : @aftD none c j (some (v, [], 0)) ⟨(log, ⟨tm, hp, N⟩, KK)⟩ = KK ((j, []) :: log) ⟨tm, hp, N⟩ := by
  simp [aftD, freshOnly, putT]
theorem b_store : @aftD none false j (some (v, [x], 0)) ⟨(log, ⟨tm, hp, N⟩, KK)⟩ = KK ((j, [x]) :: log) ⟨tm, x :: hp, N⟩ := by
  simp [aftD, putT]
theorem b_new : @aftD (some d) false j (some (v, [x], 1)) ⟨(log, ⟨tm, hp, N + k⟩, KK)⟩ = KK ((j, [x]) :: log) ⟨(d, v) :: tm, x :: hp, N + (k + 1)⟩ := by
  simp [aftD, putT, Nat.add_assoc]
theorem b_upd : @aftD (some d) false j (some (v, [x], 0)) ⟨(log, ⟨tm, hp, N⟩, KK)⟩ = KK ((j, [x]) :: log) ⟨(d, v) :: tm, x :: hp, N⟩ := by
  simp [aftD, putT]
theorem b_new2 : @aftD (some d) false j (some (v, [x, y], 1)) ⟨(log, ⟨tm, hp, N + k⟩, KK)⟩ = KK ((j, [x, y]) :: log) ⟨(d, v) :: tm, x :: y :: hp, N + (k + 1)⟩ := by
  simp [aftD, putT, Nat.add_assoc]
theorem b_call1 {b : Option Blk} : @aftD (some d) true j (some (v, [(N + k, b)], 1)) ⟨(log, ⟨tm, hp, N + k⟩, KK)⟩ = KK ((j, [(N + k, b)]) :: log) ⟨(d, v) :: tm, (N + k, b) :: hp, N + (k + 1)⟩ := by
  simp [aftD, putT, freshOnly, Nat.add_assoc]
theorem mask_nil : maskH [] log = [] := rfl
theorem mask_cons {i : Nat} : maskH (i :: um) log = (lget log i).map (fun x => (x.1, none)) ++ maskH um log := rfl
theorem lget_cons {i i' : Nat} : lget ((i, δ) :: log) i' = if i = i' then δ else lget log i' := rfl
theorem t_get {t t' : Nat} : tmget ((t, v) :: tm) t' = if t = t' then v else tmget tm t' := rfl
theorem h_get {k k' : Nat} {b : Option Blk} : hget ((k, b) :: hp) k' = if k = k' then b else hget hp k' := rfl
theorem e_t {t : Nat} : ev tm (.t t) = tmget tm t := rfl
theorem e_c : ev tm (.c v) = v := rfl
theorem env_at {f g : Nat} {S : Spec} {r : List (Nat × Spec)} {args : List Value} {h : Heap} {n : Nat} : mkEnv ((f, S) :: r) g args h n = if f = g then S args h n else mkEnv r g args h n := rfl
theorem add_ne (N a b : Nat) : (N + a = N + b) = (a = b) := by simp
theorem lp_parts {a : ICode} (I : Nat → List (Nat × Value) → Heap → Nat → Prop)
    (hr : ∀ m tm hp nx, I m tm hp nx → wpI E a (thenQ (fun s' => ∃ m', m' < m ∧ I m' s'.tm s'.hp s'.nx) Q) ⟨tm, hp, nx⟩) (m : Nat) {tm : List (Nat × Value)} {hp : Heap} {nx : Nat} (h : I m tm hp nx) : @LP ⟨tm, hp, nx⟩ ⟨(E, a, Q)⟩ :=
  loop_inv (fun m s => I m s.tm s.hp s.nx) (fun m s hs => hr m s.tm s.hp s.nx hs) m ⟨tm, hp, nx⟩ h
def Fin (res : List IRes) (v : Value) (h : Heap) (N : Nat) (e : IExit) (s : St) : Prop :=
  isEnd e ∧ ∃ vs, resL s res = some vs ∧ one vs = v ∧ ∀ k, k < N → hget s.hp k = hget h k
theorem flat_run {P : Program} (hE : EnvOK P E) (hm : P.follows .mixedOrders = true) {f : Nat} {nt : Nat} {res : List IRes} {c : ICode} (ht : trFun P f = some ⟨nt, res, c⟩) {G : List Value → Option Value}
    (hrun : ∀ args v h N, G args = some v → flatW v = true ∧ args.length ≤ nt ∧ wpI E c (Fin res v h N) ⟨initT args, h, N + 0⟩) : SpecOK P f (flat G) :=
  flat_ok hE hm ht hrun
theorem fin_t {t : Nat} {v : Value} {h hp : Heap} {N nx : Nat} {tm : List (Nat × Value)} {e : IExit} (h1 : isEnd e) (h2 : tmget tm t = v) (h4 : ∀ k, k < N → hget hp k = hget h k) : Fin [.t t] v h N e ⟨tm, hp, nx⟩ :=
  ⟨h1, [v], by simp only [resL, res1, h2], rfl, h4⟩
theorem fin_2 {t u : Nat} {v w : Value} {h hp : Heap} {N nx : Nat} {tm : List (Nat × Value)} {e : IExit} (h1 : isEnd e) (h2 : tmget tm t = v) (h3 : tmget tm u = w) (h4 : ∀ k, k < N → hget hp k = hget h k) : Fin [.t t, .t u] (.tuple ⟨[v, w]⟩) h N e ⟨tm, hp, nx⟩ :=
  ⟨h1, [v, w], by simp only [resL, res1, h2, h3], rfl, h4⟩
theorem fin_3 {t u r : Nat} {v w x : Value} {h hp : Heap} {N nx : Nat} {tm : List (Nat × Value)} {e : IExit} (h1 : isEnd e) (h2 : tmget tm t = v) (h3 : tmget tm u = w) (h3' : tmget tm r = x) (h4 : ∀ k, k < N → hget hp k = hget h k) : Fin [.t t, .t u, .t r] (.tuple ⟨[v, w, x]⟩) h N e ⟨tm, hp, nx⟩ :=
  ⟨h1, [v, w, x], by simp only [resL, res1, h2, h3, h3'], rfl, h4⟩
end
end Go.Eng
end
section
set_option linter.unusedVariables false
set_option linter.unusedSimpArgs false
set_option linter.unusedSectionVars false
namespace Go.Eng
theorem s_size (l : List UInt8) : (ByteArray.mk ⟨l⟩).size = l.length := rfl
theorem s_get (l : List UInt8) (i : Nat) : (ByteArray.mk ⟨l⟩)[i]? = l[i]? := by
  by_cases h : i < l.length
  · have h' : i < (ByteArray.mk ⟨l⟩).size := h
    rw [getElem?_pos (ByteArray.mk ⟨l⟩) i h', List.getElem?_eq_getElem h]
    rfl
  · have h' : ¬ i < (ByteArray.mk ⟨l⟩).size := h
    rw [getElem?_neg (ByteArray.mk ⟨l⟩) i h', List.getElem?_eq_none (by omega)]
theorem s_extract (l : List UInt8) (i j : Nat) : (ByteArray.mk ⟨l⟩).extract i j = ⟨⟨(l.take j).drop i⟩⟩ := by
  have : ((ByteArray.mk ⟨l⟩).extract i j).data = ⟨(l.take j).drop i⟩ := by
    rw [ByteArray.data_extract]
    apply Array.ext'
    simp [List.drop_take]
  calc (ByteArray.mk ⟨l⟩).extract i j = ⟨((ByteArray.mk ⟨l⟩).extract i j).data⟩ := rfl
    _ = _ := by rw [this]
theorem s_append (l m : List UInt8) : (ByteArray.mk ⟨l⟩) ++ (ByteArray.mk ⟨m⟩) = ⟨⟨l ++ m⟩⟩ := by
  have : ((ByteArray.mk ⟨l⟩) ++ (ByteArray.mk ⟨m⟩)).data = ⟨l ++ m⟩ := by
    rw [ByteArray.data_append]
    apply Array.ext'
    simp
  calc (ByteArray.mk ⟨l⟩) ++ (ByteArray.mk ⟨m⟩) = ⟨((ByteArray.mk ⟨l⟩) ++ (ByteArray.mk ⟨m⟩)).data⟩ := rfl
    _ = _ := by rw [this]
theorem s_eq (l m : List UInt8) : ((ByteArray.mk ⟨l⟩) = (ByteArray.mk ⟨m⟩)) = (l = m) := by simp
def nl : List UInt8 → Nat
  | [] => 0
  | b :: l => b.toNat + 256 * nl l
def bl (n : Nat) : List UInt8 := if h : n = 0 then [] else UInt8.ofNat (n % 256) :: bl (n / 256)
  termination_by n
  decreasing_by omega
theorem bl_zero : bl 0 = [] := by rw [bl]; simp
theorem bl_pos {n : Nat} (h : n ≠ 0) : bl n = UInt8.ofNat (n % 256) :: bl (n / 256) := by rw [bl]; simp [h]
theorem nl_bl (n : Nat) : nl (bl n) = n := by
  induction n using Nat.strongRecOn with
  | _ n ih =>
    by_cases h : n = 0
    · subst h; rw [bl_zero]; rfl
    · rw [bl_pos h, nl, ih _ (by omega)]
      have : (UInt8.ofNat (n % 256)).toNat = n % 256 := by simp
      rw [this]; omega
theorem bl_inj {a b : Nat} (h : bl a = bl b) : a = b := by rw [← nl_bl a, ← nl_bl b, h]
theorem bl_eq_nil {n : Nat} : bl n = [] ↔ n = 0 := ⟨fun h => bl_inj (by rw [h, bl_zero]), fun h => by rw [h, bl_zero]⟩
theorem nl_append (l m : List UInt8) : nl (l ++ m) = nl l + 256 ^ l.length * nl m := by
  induction l with
  | nil => simp [nl]
  | cons b l ih =>
    simp only [List.cons_append, nl, ih, List.length_cons, Nat.pow_succ]
    rw [Nat.mul_add, ← Nat.mul_assoc, Nat.mul_comm 256 (256 ^ l.length)]; omega
theorem nl_lt (l : List UInt8) : nl l < 256 ^ l.length := by
  induction l with
  | nil => simp [nl]
  | cons b l ih =>
    simp only [nl, List.length_cons, Nat.pow_succ]
    have := b.toNat_lt
    omega
theorem nl_zeros (n : Nat) : nl (List.replicate n 0) = 0 := by
  induction n with
  | zero => rfl
  | succ n ih => simp only [List.replicate_succ, nl, ih]; rfl
theorem bl_nl : ∀ (l : List UInt8), (∀ b, l.getLast? = some b → b ≠ 0) → bl (nl l) = l
  | [], _ => by rw [nl, bl_zero]
  | b :: l, h => by
    have hl : ∀ c, l.getLast? = some c → c ≠ 0 := by
      intro c hc
      cases l with
      | nil => cases hc
      | cons d l => exact h c (by rw [List.getLast?_cons_cons]; exact hc)
    have ih := bl_nl l hl
    have hb := b.toNat_lt
    have hne : nl (b :: l) ≠ 0 := by
      intro e
      simp only [nl] at e
      have hb0 : b = 0 := by apply UInt8.toNat_inj.1; simp; omega
      have : nl l = 0 := by omega
      rw [this, bl_zero] at ih
      subst ih
      exact h b (by simp) hb0
    rw [bl_pos hne]
    have e1 : nl (b :: l) % 256 = b.toNat := by simp only [nl]; omega
    have e2 : nl (b :: l) / 256 = nl l := by simp only [nl]; omega
    rw [e1, e2, ih]
    simp
theorem take_norm {l : List UInt8} {n : Nat} (hn : n ≤ l.length) (hz : ∀ i, n ≤ i → i < l.length → l[i]? = some 0) (hl : n = 0 ∨ ∃ b, l[n - 1]? = some b ∧ b ≠ 0) : l.take n = bl (nl l) := by
  have h1 : l.drop n = List.replicate (l.length - n) 0 := by
    apply List.ext_getElem?
    intro i
    rw [List.getElem?_drop, List.getElem?_replicate]
    split
    · exact hz (n + i) (by omega) (by omega)
    · exact List.getElem?_eq_none (by omega)
  have h2 : nl l = nl (l.take n) := by
    conv => lhs; rw [← List.take_append_drop n l]
    rw [nl_append, h1, nl_zeros]; simp
  rw [h2, bl_nl]
  intro b hb
  rw [List.getLast?_eq_getElem?, List.length_take, Nat.min_eq_left hn] at hb
  rcases hl with rfl | ⟨c, hc, hc0⟩
  · simp at hb
  · by_cases h0 : n = 0
    · subst h0; simp at hb
    · rw [List.getElem?_take, if_pos (by omega), hc] at hb
      cases hb; exact hc0
theorem bl_length_le {n k : Nat} : (bl n).length ≤ k ↔ n < 256 ^ k := by
  induction k generalizing n with
  | zero =>
    simp only [Nat.le_zero, List.length_eq_zero_iff, Nat.pow_zero, Nat.lt_one_iff]
    exact bl_eq_nil
  | succ k ih =>
    by_cases h : n = 0
    · subst h; simp [bl_zero]; exact Nat.pow_pos (by omega)
    · rw [bl_pos h, List.length_cons, Nat.add_le_add_iff_right, ih, Nat.pow_succ]
      exact Nat.div_lt_iff_lt_mul (by omega)
theorem bl_length_mono {a b : Nat} (h : a ≤ b) : (bl a).length ≤ (bl b).length := by
  have h1 : b < 256 ^ (bl b).length := bl_length_le.1 (Nat.le_refl _)
  exact bl_length_le.2 (Nat.lt_of_le_of_lt h h1)
theorem bl_length_nl (l : List UInt8) : (bl (nl l)).length ≤ l.length := bl_length_le.2 (nl_lt l)
theorem nl_split {l : List UInt8} {i : Nat} {b : UInt8} (h : l[i]? = some b) : nl l = nl (l.take i) + 256 ^ i * (b.toNat + 256 * nl (l.drop (i + 1))) := by
  have hi : i < l.length := (List.getElem?_eq_some_iff.1 h).1
  have e : l = l.take i ++ (b :: l.drop (i + 1)) := by
    rw [← (List.getElem?_eq_some_iff.1 h).2, List.getElem_cons_drop, List.take_append_drop]
  conv => lhs; rw [e]
  rw [nl_append, List.length_take, Nat.min_eq_left (by omega)]
  rfl
theorem nl_take_lt (l : List UInt8) (i : Nat) : nl (l.take i) < 256 ^ i := by
  have h := nl_lt (l.take i)
  refine Nat.lt_of_lt_of_le h (Nat.pow_le_pow_right (by omega) ?_)
  rw [List.length_take]; omega
theorem nl_lt_of {l m : List UInt8} {i : Nat} {b c : UInt8} (hb : l[i]? = some b) (hc : m[i]? = some c) (hd : l.drop (i + 1) = m.drop (i + 1)) (h : b.toNat < c.toNat) : nl l < nl m := by
  rw [nl_split hb, nl_split hc, hd]
  have h1 := nl_take_lt l i
  have h2 : 256 ^ i * (b.toNat + 256 * nl (m.drop (i + 1)) + 1) ≤ 256 ^ i * (c.toNat + 256 * nl (m.drop (i + 1))) := Nat.mul_le_mul_left _ (by omega)
  rw [Nat.mul_add, Nat.mul_one] at h2
  omega
theorem bl_length_lt {a b : Nat} (h : (bl a).length < (bl b).length) : a < b := by
  refine Nat.lt_of_not_le fun hle => ?_
  have h1 : (bl a).length ≤ (bl a).length := Nat.le_refl _
  rw [bl_length_le] at h1
  have : (bl b).length ≤ (bl a).length := bl_length_le.2 (by omega)
  omega
def cmpN (a b : Nat) : Int := if a < b then -1 else if a = b then 0 else 1
theorem cmpN_lt {a b : Nat} (h : a < b) : cmpN a b = -1 := by simp [cmpN, h]
theorem cmpN_gt {a b : Nat} (h : b < a) : cmpN a b = 1 := by unfold cmpN; rw [if_neg (by omega), if_neg (by omega)]
theorem cmpN_eq {a : Nat} : cmpN a a = 0 := by simp [cmpN]
end Go.Eng
end
section
set_option linter.unusedVariables false
set_option linter.unusedSimpArgs false
set_option linter.unusedSectionVars false
namespace Go.Eng
def sv (s : Bool) (l : List UInt8) : Int := if s then -(nl l : Int) else (nl l : Int)
def iE (z : Int) : List Value := [.bool (decide (z < 0)), .string ⟨⟨bl z.natAbs⟩⟩]
theorem sv_can (z : Int) : sv (decide (z < 0)) (bl z.natAbs) = z := by
  unfold sv
  rw [nl_bl]
  by_cases h : z < 0
  · simp [h]; omega
  · simp [h]; omega
theorem sv_true (l : List UInt8) : sv true l = -(nl l : Int) := rfl
theorem sv_false (l : List UInt8) : sv false l = (nl l : Int) := rfl
theorem sv_natAbs (s : Bool) (l : List UInt8) : (sv s l).natAbs = nl l := by cases s <;> simp [sv]
theorem sv_neg (s : Bool) (l : List UInt8) : sv (!s) l = - sv s l := by cases s <;> simp [sv]
theorem sv_lt (s : Bool) (l : List UInt8) : decide (sv s l < 0) = (s && decide (bl (nl l) ≠ [])) := by
  rw [Bool.eq_iff_iff]
  simp only [decide_eq_true_eq, Bool.and_eq_true, ne_eq, bl_eq_nil]
  cases s
  · simp only [sv, Bool.false_eq_true, if_false, false_and, iff_false]; omega
  · simp only [sv, if_true, true_and]; omega
theorem iE_sv (s : Bool) (l : List UInt8) : iE (sv s l) = [.bool (s && decide (bl (nl l) ≠ [])), .string ⟨⟨bl (nl l)⟩⟩] := by
  unfold iE; rw [sv_lt, sv_natAbs]
theorem sv_eq_zero (s : Bool) (l : List UInt8) : sv s l = 0 ↔ nl l = 0 := by cases s <;> simp [sv]
theorem sv_bl (s : Bool) (n : Nat) : sv s (bl n) = if s then -(n : Int) else n := by simp [sv, nl_bl]
def ln (z : Int) : Nat := (bl z.natAbs).length
theorem sgn_sv (s : Bool) (l : List UInt8) : (sv s l).sign = if nl l = 0 then 0 else if s then -1 else 1 := by
  by_cases h : nl l = 0
  · rw [if_pos h, (sv_eq_zero s l).2 h]; rfl
  · rw [if_neg h]
    cases s
    · simp only [sv]; simp; omega
    · simp only [sv]; simp; omega
theorem bl_length_add {a b k : Nat} (ha : (bl a).length ≤ k) (hb : (bl b).length ≤ k) : (bl (a + b)).length ≤ k + 1 := by
  rw [bl_length_le] at ha hb ⊢
  rw [Nat.pow_succ]; omega
theorem bl_length_mul (a b : Nat) : (bl (a * b)).length ≤ (bl a).length + (bl b).length := by
  rw [bl_length_le, Nat.pow_add]
  exact Nat.mul_lt_mul'' (bl_length_le.1 (Nat.le_refl _)) (bl_length_le.1 (Nat.le_refl _))
end Go.Eng
end
section
set_option linter.unusedVariables false
set_option linter.unusedSimpArgs false
set_option linter.unusedSectionVars false
namespace Go.Eng
theorem hget_new {N a k : Nat} {b : Option Blk} {hp : Heap} (h : k < N) : hget ((N + a, b) :: hp) k = hget hp k := by
  simp only [hget]; rw [if_neg (by omega)]
def bc (l : List UInt8) : List Value := l.map fun b => .int .u8 b.toNat
theorem bc_length (l : List UInt8) : (bc l).length = l.length := by simp [bc]
theorem bc_append (l m : List UInt8) : bc (l ++ m) = bc l ++ bc m := by simp [bc]
theorem bc_take_all (l : List UInt8) : (bc l).take l.length = bc l := by rw [← bc_length l, List.take_length]
theorem byteList_bc (l : List UInt8) : byteList (bc l) = some l := by
  induction l with
  | nil => rfl
  | cons b l ih =>
    have : bc (b :: l) = .int .u8 b.toNat :: bc l := rfl
    rw [this, byteList, ih]
    simp
end Go.Eng
end
section
set_option linter.unusedVariables false
set_option linter.unusedSimpArgs false
set_option linter.unusedSectionVars false
namespace Go.Eng
def rdS (F : List Value → Heap → Option Value) : Spec := fun args h n => (F args h).map fun v => (v, [], 0)
theorem rd_run {P : Program} {E : Env} (hE : EnvOK P E) (hm : P.follows .mixedOrders = true) {f : Nat} {nt : Nat} {res : List IRes} {c : ICode} (ht : trFun P f = some ⟨nt, res, c⟩) {F : List Value → Heap → Option Value}
    (mono : ∀ args h h' v, hle h h' → F args h = some v → F args h' = some v)
    (hrun : ∀ args v h N, F args h = some v → (∀ k b, hget h k = some b → k < N) → flatW v = true ∧ args.length ≤ nt ∧ wpI E c (Fin res v h N) ⟨initT args, h, N + 0⟩) : SpecOK P f (rdS F) := by
  refine spec_ok hE hm ht ?_ ?_
  · intro args h h' n o hl e
    simp only [rdS, Option.map_eq_some_iff] at e ⊢
    obtain ⟨v, e1, e2⟩ := e
    exact ⟨v, mono args h h' v hl e1, e2⟩
  · intro args h n v δ m N e hn hN
    simp only [rdS, Option.map_eq_some_iff, Prod.mk.injEq] at e
    obtain ⟨v0, e1, rfl, rfl, rfl⟩ := e
    obtain ⟨h1, h2, h3⟩ := hrun args v0 h N e1 hN
    refine ⟨h2, wpI_mono _ ?_ h3⟩
    rintro e s ⟨he, vs, hvs, hv, hh⟩
    exact ⟨he, vs, hvs, fc_flat h1 hv hN hh⟩
theorem lp_step {E : Env} {a : ICode} {Q : IExit → St → Prop} {s : St} (h : wpI E a (thenQ (wpI E (.loop a) Q) Q) s) : @LP s ⟨(E, a, Q)⟩ := loop_step h
theorem ne_nb {N j k : Nat} (h : k < N) : (N + j = k) = False := eq_false (by omega)
end Go.Eng
end
section
set_option linter.unusedVariables false
set_option linter.unusedSimpArgs false
set_option linter.unusedSectionVars false
namespace Go.Eng
theorem i_un {E : Env} {ρ : Opd → Value} {h : Heap} {n : Nat} {op : UnOp} {x : Opd} : istep E ρ h n (.un op x) = match op, ρ x with
    | .not, .bool b => some (.bool (!b), [], 0)
    | .neg, .int k a => some (.int k (k.wrap (0 - a)), [], 0)
    | .xor, .int k a => some (.int k (k.wrap (BitVec.ofInt k.bits (if k.signed then -1 else k.max) ^^^ BitVec.ofInt k.bits a).toNat), [], 0)
    | _, _ => none := rfl
theorem wr : IntKind.i64.wrap 0 = 0 ∧ IntKind.i64.wrap 1 = 1 ∧ IntKind.i64.wrap 2 = 2 ∧ IntKind.i64.wrap 3 = 3 ∧ IntKind.i64.wrap 4 = 4 ∧ IntKind.i64.wrap 5 = 5 ∧ IntKind.i64.wrap 6 = 6 ∧ IntKind.i64.wrap 7 = 7 ∧ IntKind.i64.wrap 8 = 8 ∧ IntKind.i64.wrap 9 = 9 ∧ IntKind.i64.wrap 10 = 10 ∧ IntKind.i64.wrap 11 = 11 ∧ IntKind.i64.wrap 12 = 12 ∧ IntKind.i64.wrap 13 = 13 ∧ IntKind.i64.wrap 14 = 14 ∧ IntKind.i64.wrap 15 = 15 ∧ IntKind.i64.wrap 16 = 16 := by
  refine ⟨?_, ?_, ?_, ?_, ?_, ?_, ?_, ?_, ?_, ?_, ?_, ?_, ?_, ?_, ?_, ?_, ?_⟩ <;> exact Go.IntWalk.i64_in _ (by omega)
def qq (d : Nat) (o : IOp) : ROp := ⟨some d, none, o⟩
def qn (o : IOp) : ROp := ⟨none, none, o⟩
def qu (d : Nat) (o : IOp) : DOp := ⟨some d, none, [], o⟩
def qm (o : IOp) : DOp := ⟨none, none, [], o⟩
def qv (d : Nat) (l : List Nat) (o : IOp) : DOp := ⟨some d, none, l, o⟩
def e0 : Value := .string ⟨⟨[]⟩⟩
def ci (n : Int) : Opd := .c (.int .i64 n)
theorem G0 : (type_of% @initT.eq_1) ∧ (type_of% @List.zipIdx_cons.{0}) ∧ (type_of% @List.zipIdx_nil.{0}) ∧ (type_of% @List.map_cons.{0,0}) ∧ (type_of% @List.map_nil.{0,0}) ∧ (type_of% @qq.eq_1) ∧ (type_of% @qn.eq_1) ∧ (type_of% @qu.eq_1) ∧ (type_of% @qm.eq_1) ∧ (type_of% @qv.eq_1) ∧ (type_of% @e0.eq_1) ∧ (type_of% @ci.eq_1) :=
  ⟨@initT.eq_1, @List.zipIdx_cons.{0}, @List.zipIdx_nil.{0}, @List.map_cons.{0,0}, @List.map_nil.{0,0}, @qq.eq_1, @qn.eq_1, @qu.eq_1, @qm.eq_1, @qv.eq_1, @e0.eq_1, @ci.eq_1⟩
theorem R0 : (type_of% @x_skip) ∧ (type_of% @x_ret) ∧ (type_of% @x_seq) ∧ (type_of% @x_block) ∧ (type_of% @x_exit) ∧ (type_of% @x_reg) ∧ (type_of% @x_dreg) ∧ (type_of% @x_fail) ∧ (type_of% @x_then1) ∧ (type_of% @x_then2) ∧ (type_of% @x_then3) ∧ (type_of% @x_blk1) ∧ (type_of% @x_blk2) ∧ (type_of% @x_blk3) ∧ (type_of% @x_blk4) ∧ (type_of% @x_loop) ∧ (type_of% @x_cond) ∧ (type_of% @r_nil) ∧ (type_of% @r_plain) ∧ (type_of% @r_guard) ∧ (type_of% @d_nil) ∧ (type_of% @d_plain) ∧ (type_of% @d_guard) :=
  ⟨@x_skip, @x_ret, @x_seq, @x_block, @x_exit, @x_reg, @x_dreg, @x_fail, @x_then1, @x_then2, @x_then3, @x_blk1, @x_blk2, @x_blk3, @x_blk4, @x_loop, @x_cond, @r_nil, @r_plain, @r_guard, @d_nil, @d_plain, @d_guard⟩
theorem R1 : (type_of% @cd_true) ∧ (type_of% @cd_false) ∧ (type_of% @gd_true_true) ∧ (type_of% @gd_true_false) ∧ (type_of% @gd_false_true) ∧ (type_of% @gd_false_false) ∧ (type_of% @gd_undef) ∧ (type_of% @a_pure) ∧ (type_of% @a_pure0) ∧ (type_of% @a_store) ∧ (type_of% @a_new) ∧ (type_of% @a_upd) ∧ (type_of% @a_new2) ∧ (type_of% @b_pure) ∧ (type_of% @b_pure0) ∧ (type_of% @b_store) ∧ (type_of% @b_new) ∧ (type_of% @b_upd) ∧ (type_of% @b_new2) ∧ (type_of% @b_call1) ∧ (type_of% @mask_nil) ∧ (type_of% @mask_cons) ∧ (type_of% @lget_cons) ∧ (type_of% @put_some) ∧ (type_of% @put_none) ∧ (type_of% @t_get) ∧ (type_of% @h_get) ∧ (type_of% @e_t) ∧ (type_of% @e_c) ∧ (type_of% @env_at) ∧ (type_of% @Option.map_some.{0,0}) ∧ (type_of% @List.map_cons.{0,0}) ∧ (type_of% @List.map_nil.{0,0}) ∧ (type_of% @add_ne) ∧ (type_of% @List.length_cons.{0}) ∧ (type_of% @List.length_nil.{0}) ∧ (type_of% @and_self) ∧ (type_of% @and_true) ∧ (type_of% @true_and) ∧ (type_of% @List.all_cons.{0}) ∧ (type_of% @List.all_nil.{0}) ∧ (type_of% @Bool.and_true) ∧ (type_of% @Bool.true_and) ∧ (type_of% @decide_true) ∧ (type_of% @decide_false) ∧ (type_of% @Bool.false_eq_true) ∧ (type_of% @List.drop_succ_cons.{0}) ∧ (type_of% @List.drop_zero.{0}) ∧ (type_of% @List.take_succ_cons.{0}) ∧ (type_of% @List.take_zero.{0}) ∧ (type_of% @List.cons_append.{0}) ∧ (type_of% @List.nil_append.{0}) ∧ (type_of% @s_size) ∧ (type_of% @s_get) ∧ (type_of% @s_extract) ∧ (type_of% @s_append) ∧ (type_of% @s_eq) ∧ (type_of% @Int.natCast_nonneg) ∧ (type_of% @Int.toNat_natCast) ∧ (type_of% @Int.ofNat_le) ∧ (type_of% @Int.ofNat_lt) ∧ (type_of% @Int.ofNat_inj) ∧ (type_of% @Option.bind_some.{0,0}) ∧ (type_of% @Nat.mul_one) ∧ (type_of% @bc_length) ∧ (type_of% @Nat.one_ne_zero) ∧ (type_of% @Nat.add_eq_zero_iff) ∧ (type_of% @false_and) ∧ (type_of% @and_false) ∧ (type_of% @false_or) ∧ (type_of% @or_false) ∧ (type_of% @Nat.zero_add) ∧ (type_of% @Nat.le_refl) ∧ (type_of% @sv_can) ∧ (type_of% @List.getElem?_cons_zero.{0}) ∧ (type_of% @List.getElem?_cons_succ.{0}) ∧ (type_of% @Int.cast_ofNat_Int) ∧ (type_of% @ne_eq.{1}) ∧ (type_of% @not_true_eq_false) ∧ (type_of% @not_false_eq_true) ∧ (type_of% @rdL.eq_1) ∧ (type_of% @rdL.eq_2) ∧ (type_of% @rdH.eq_1) ∧ (type_of% @rdH.eq_2) ∧ (type_of% @isCall.eq_1) ∧ (type_of% @isCall.eq_2) ∧ (type_of% @isCall.eq_3) ∧ (type_of% @istep.eq_1) ∧ (type_of% @istep.eq_2) ∧ (type_of% @istep.eq_3) ∧ (type_of% @istep.eq_4) ∧ (type_of% @istep.eq_5) ∧ (type_of% @istep.eq_6) ∧ (type_of% @istep.eq_7) ∧ (type_of% @istep.eq_8) ∧ (type_of% @istep.eq_9) ∧ (type_of% @istep.eq_10) ∧ (type_of% @istep.eq_11) ∧ (type_of% @istep.eq_12) ∧ (type_of% @istep.eq_13) ∧ (type_of% @istep.eq_18) ∧ (type_of% @istep.eq_19) ∧ (type_of% @istep.eq_20) ∧ (type_of% @istep.eq_21) ∧ (type_of% @istep.eq_22) ∧ (type_of% @istep.eq_23) ∧ (type_of% @istep.eq_24) ∧ (type_of% @istep.eq_25) ∧ (type_of% @istep.eq_26) ∧ (type_of% @istep.eq_27) ∧ (type_of% @istep.eq_28) ∧ (type_of% @istep.eq_29) ∧ (type_of% @istep.eq_30) ∧ (type_of% @istep.eq_31) ∧ (type_of% @istep.eq_32) ∧ (type_of% @istep.eq_33) ∧ (type_of% @istep.eq_34) ∧ (type_of% @istep.eq_35) ∧ (type_of% @istep.eq_36) ∧ (type_of% @istep.eq_37) ∧ (type_of% @istep.eq_38) ∧ (type_of% @ibin.eq_1) ∧ (type_of% @ibin.eq_2) ∧ (type_of% @ibin.eq_3) ∧ (type_of% @ibin.eq_4) ∧ (type_of% @ibin.eq_5) ∧ (type_of% @ibin.eq_6) ∧ (type_of% @ibin.eq_7) ∧ (type_of% @ibin.eq_8) ∧ (type_of% @ibin.eq_9) ∧ (type_of% @ibin.eq_10) ∧ (type_of% @ibin.eq_11) ∧ (type_of% @ibin.eq_12) ∧ (type_of% @ibin.eq_13) ∧ (type_of% @ibin.eq_14) ∧ (type_of% @ibin.eq_15) ∧ (type_of% @ibin.eq_16) ∧ (type_of% @ibin.eq_17) ∧ (type_of% @ibin.eq_18) ∧ (type_of% @ibin.eq_19) ∧ (type_of% @ibin.eq_20) ∧ (type_of% @ibin.eq_21) ∧ (type_of% @ibin.eq_22) ∧ (type_of% @vcells.eq_1) ∧ (type_of% @vcells.eq_2) ∧ (type_of% @fillI.eq_1) ∧ (type_of% @fillI.eq_2) ∧ (type_of% @setR.eq_1) ∧ (type_of% @setR.eq_2) ∧ (type_of% @flat.eq_1) ∧ (type_of% @okCell.eq_1) ∧ (type_of% @okCell.eq_2) ∧ (type_of% @okCell.eq_3) ∧ (type_of% @isBase.eq_1) ∧ (type_of% @isBase.eq_2) ∧ (type_of% @isBase.eq_3) ∧ (type_of% @isBase.eq_4) ∧ (type_of% @isBase.eq_5) ∧ (type_of% @isBase.eq_6) ∧ (type_of% @isBase.eq_7) ∧ (type_of% @isBase.eq_8) ∧ (type_of% @isBase.eq_9) ∧ (type_of% @bnds.eq_1) ∧ (type_of% @bhi.eq_1) ∧ (type_of% @bhi.eq_2) ∧ (type_of% @blo.eq_1) ∧ (type_of% @blo.eq_2) ∧ (type_of% @srcOf.eq_1) ∧ (type_of% @srcOf.eq_2) ∧ (type_of% @srcOf.eq_3) ∧ (type_of% @List.set.eq_1.{0}) ∧ (type_of% @List.set.eq_2.{0}) ∧ (type_of% @List.set.eq_3.{0}) ∧ (type_of% @List.drop.eq_1.{0}) ∧ (type_of% @List.drop.eq_2.{0}) ∧ (type_of% @List.drop.eq_3.{0}) ∧ (type_of% @List.take.eq_1.{0}) ∧ (type_of% @List.take.eq_2.{0}) ∧ (type_of% @List.take.eq_3.{0}) ∧ (type_of% @List.append.eq_1.{0}) ∧ (type_of% @List.append.eq_2.{0}) ∧ (type_of% @i_un) ∧ (type_of% @wr) :=
  ⟨@cd_true, @cd_false, @gd_true_true, @gd_true_false, @gd_false_true, @gd_false_false, @gd_undef, @a_pure, @a_pure0, @a_store, @a_new, @a_upd, @a_new2, @b_pure, @b_pure0, @b_store, @b_new, @b_upd, @b_new2, @b_call1, @mask_nil, @mask_cons, @lget_cons, @put_some, @put_none, @t_get, @h_get, @e_t, @e_c, @env_at, @Option.map_some.{0,0}, @List.map_cons.{0,0}, @List.map_nil.{0,0}, @add_ne, @List.length_cons.{0}, @List.length_nil.{0}, @and_self, @and_true, @true_and, @List.all_cons.{0}, @List.all_nil.{0}, @Bool.and_true, @Bool.true_and, @decide_true, @decide_false, @Bool.false_eq_true, @List.drop_succ_cons.{0}, @List.drop_zero.{0}, @List.take_succ_cons.{0}, @List.take_zero.{0}, @List.cons_append.{0}, @List.nil_append.{0}, @s_size, @s_get, @s_extract, @s_append, @s_eq, @Int.natCast_nonneg, @Int.toNat_natCast, @Int.ofNat_le, @Int.ofNat_lt, @Int.ofNat_inj, @Option.bind_some.{0,0}, @Nat.mul_one, @bc_length, @Nat.one_ne_zero, @Nat.add_eq_zero_iff, @false_and, @and_false, @false_or, @or_false, @Nat.zero_add, @Nat.le_refl, @sv_can, @List.getElem?_cons_zero.{0}, @List.getElem?_cons_succ.{0}, @Int.cast_ofNat_Int, @ne_eq.{1}, @not_true_eq_false, @not_false_eq_true, @rdL.eq_1, @rdL.eq_2, @rdH.eq_1, @rdH.eq_2, @isCall.eq_1, @isCall.eq_2, @isCall.eq_3, @istep.eq_1, @istep.eq_2, @istep.eq_3, @istep.eq_4, @istep.eq_5, @istep.eq_6, @istep.eq_7, @istep.eq_8, @istep.eq_9, @istep.eq_10, @istep.eq_11, @istep.eq_12, @istep.eq_13, @istep.eq_18, @istep.eq_19, @istep.eq_20, @istep.eq_21, @istep.eq_22, @istep.eq_23, @istep.eq_24, @istep.eq_25, @istep.eq_26, @istep.eq_27, @istep.eq_28, @istep.eq_29, @istep.eq_30, @istep.eq_31, @istep.eq_32, @istep.eq_33, @istep.eq_34, @istep.eq_35, @istep.eq_36, @istep.eq_37, @istep.eq_38, @ibin.eq_1, @ibin.eq_2, @ibin.eq_3, @ibin.eq_4, @ibin.eq_5, @ibin.eq_6, @ibin.eq_7, @ibin.eq_8, @ibin.eq_9, @ibin.eq_10, @ibin.eq_11, @ibin.eq_12, @ibin.eq_13, @ibin.eq_14, @ibin.eq_15, @ibin.eq_16, @ibin.eq_17, @ibin.eq_18, @ibin.eq_19, @ibin.eq_20, @ibin.eq_21, @ibin.eq_22, @vcells.eq_1, @vcells.eq_2, @fillI.eq_1, @fillI.eq_2, @setR.eq_1, @setR.eq_2, @flat.eq_1, @okCell.eq_1, @okCell.eq_2, @okCell.eq_3, @isBase.eq_1, @isBase.eq_2, @isBase.eq_3, @isBase.eq_4, @isBase.eq_5, @isBase.eq_6, @isBase.eq_7, @isBase.eq_8, @isBase.eq_9, @bnds.eq_1, @bhi.eq_1, @bhi.eq_2, @blo.eq_1, @blo.eq_2, @srcOf.eq_1, @srcOf.eq_2, @srcOf.eq_3, @List.set.eq_1.{0}, @List.set.eq_2.{0}, @List.set.eq_3.{0}, @List.drop.eq_1.{0}, @List.drop.eq_2.{0}, @List.drop.eq_3.{0}, @List.take.eq_1.{0}, @List.take.eq_2.{0}, @List.take.eq_3.{0}, @List.append.eq_1.{0}, @List.append.eq_2.{0}, @i_un, @wr⟩
end Go.Eng
end
section
set_option linter.unusedVariables false
set_option linter.unusedSimpArgs false
set_option linter.unusedSectionVars false
namespace Go.Eng
open Go Go.Proofs Go.IntWalk
theorem mixed : Tryz.prog.follows .mixedOrders = true := by kernel_rfl
def spNorm : List Value → Option Value
  | [.string ⟨⟨l⟩⟩] => if l.length ≤ 1099511627776 then some (.string ⟨⟨bl (nl l)⟩⟩) else none
  | _ => none
def c91 : ICode :=
  (.seq (.reg [qq 2 (.mv (.c e0))]) (.seq (.reg [qq 4 (.mv (.t 0)), qq 5 (.lens (.t 4)), qq 3 (.mv (.t 5))]) (.seq (.block 0 (.loop (.seq (.seq (.reg [qq 6 (.mv (.t 3)), qq 7 (.bin .gtr (.t 6) (ci 0)), qq 8 (.mv (.t 7)), ⟨(some 9), (some (8, true)), (.mv (.t 0))⟩, ⟨(some 10), (some (8, true)), (.mv (.t 3))⟩, ⟨(some 11), (some (8, true)), (.bin .sub (.t 10) (ci 1))⟩, ⟨(some 12), (some (8, true)), (.idstr (.t 9) (.t 11))⟩, ⟨(some 13), (some (8, true)), (.bin .eql (.t 12) (.c (.int .u8 0)))⟩, qq 14 (.pick (.t 8) (.t 13) (.c (.bool false)))]) (.cond (.t 14) .skip (.exit 0))) (.block 1 (.reg [qq 15 (.mv (.t 3)), qq 16 (.bin .sub (.t 15) (ci 1)), qq 3 (.mv (.t 16))]))))) (.seq (.reg [qq 17 (.mv (.t 0)), qq 18 (.mv (.t 3)), qq 19 (.slstr (.t 17) none (some (.t 18))), qq 2 (.mv (.t 19))]) .ret))))
theorem tr91 : trFun Tryz.prog 91 = some ⟨20, [.t 2], c91⟩ := by kernel_rfl
theorem ok_r1Norm : SpecOK Tryz.prog 91 (flat spNorm) := by
  refine flat_run (env_nil _) mixed tr91 ?_
  intro args v h N hG
  unfold spNorm at hG
  split at hG
  case h_2 => cases hG
  rename_i l
  split at hG
  case isFalse => cases hG
  rename_i hl
  cases hG
  refine ⟨rfl, by simp, ?_⟩
  simp only [c91, G0, Nat.reduceAdd]
  simp only [↓R0, R1, simprocAttr, -Int.reduceAbs]
  refine lp_parts (fun n tm hp nx => tmget tm 0 = .string ⟨⟨l⟩⟩ ∧ tmget tm 3 = .int .i64 n ∧ n ≤ l.length ∧ (∀ i, n ≤ i → i < l.length → l[i]? = some 0) ∧ hp = h ∧ nx = N + 0) ?_ l.length ⟨?_, ?_, Nat.le_refl _, fun i h1 h2 => by omega, rfl, rfl⟩
  · intro n tm hp nx ⟨h0, h3, hn, hz, rfl, rfl⟩
    simp only [↓R0, R1, simprocAttr, -Int.reduceAbs, h0, h3]
    refine gd_case (fun hb => ?_) (fun hb => ?_)
    · obtain ⟨n, rfl⟩ : ∃ n', n = n' + 1 := ⟨n - 1, by simp at hb; omega⟩
      have e1 : IntKind.i64.wrap (((n + 1 : Nat) : Int) - 1) = (n : Int) := by rw [i64_in _ (by omega)]; omega
      obtain ⟨b, hbb⟩ : ∃ b, l[n]? = some b := ⟨_, List.getElem?_eq_getElem (by omega)⟩
      simp only [↓R0, R1, simprocAttr, -Int.reduceAbs, h0, h3, hb, e1, hbb]
      refine cd_case (fun hc => ?_) (fun hc => ?_)
      · simp only [↓R0, R1, simprocAttr, -Int.reduceAbs, h0, h3, e1]
        refine ⟨n, by omega, rfl, by omega, fun i h1 h2 => ?_⟩
        by_cases e : i = n
        · subst e; rw [hbb]; congr 1; apply UInt8.toNat_inj.1; simp at hc ⊢; omega
        · exact hz i (by omega) h2
      · simp only [↓R0, R1, simprocAttr, -Int.reduceAbs, h0, h3, hn]
        refine fin_t trivial ?_ (fun k hk => rfl)
        simp only [↓R0, R1, simprocAttr, -Int.reduceAbs]
        rw [take_norm hn hz (.inr ⟨b, hbb, fun e => by subst e; simp at hc⟩)]
    · simp only [↓R0, R1, simprocAttr, -Int.reduceAbs, h0, h3, hb, hn]
      refine fin_t trivial ?_ (fun k hk => rfl)
      simp only [↓R0, R1, simprocAttr, -Int.reduceAbs]
      rw [take_norm hn hz (.inl (by simp at hb; omega))]
  · simp only [↓R0, R1, simprocAttr, -Int.reduceAbs]
  · simp only [↓R0, R1, simprocAttr, -Int.reduceAbs]
def spAt : List Value → Option Value
  | [.string ⟨⟨l⟩⟩, .int .i64 i] => if l.length ≤ 1099511627776 ∧ 0 ≤ i then some (.int .i64 ((l[i.toNat]?.getD 0).toNat : Int)) else none
  | _ => none
def c140 : ICode :=
  (.seq (.reg [qq 4 (.mv (ci 0))]) (.seq (.seq (.reg [qq 5 (.mv (.t 1)), qq 6 (.mv (.t 0)), qq 7 (.lens (.t 6)), qq 8 (.bin .lss (.t 5) (.t 7))]) (.cond (.t 8) (.seq (.reg [qq 9 (.mv (.t 0)), qq 10 (.mv (.t 1)), qq 11 (.idstr (.t 9) (.t 10)), qq 12 (.conv .i64 (.t 11)), qq 4 (.mv (.t 12))]) .ret) .skip)) (.seq (.reg [qq 4 (.mv (ci 0))]) .ret)))
theorem tr140 : trFun Tryz.prog 140 = some ⟨13, [.t 4], c140⟩ := by kernel_rfl
theorem ok_r1At : SpecOK Tryz.prog 140 (flat spAt) := by
  refine flat_run (env_nil _) mixed tr140 ?_
  intro args v h N hG
  unfold spAt at hG
  split at hG
  case h_2 => cases hG
  rename_i l i
  split at hG
  case isFalse => cases hG
  rename_i hl
  cases hG
  refine ⟨rfl, by simp, ?_⟩
  simp only [c140, G0, Nat.reduceAdd]
  simp only [↓R0, R1, simprocAttr, -Int.reduceAbs]
  refine cd_case (fun hc => ?_) (fun hc => ?_)
  · have hi : i.toNat < l.length := by simp at hc; omega
    have hb := l[i.toNat].toNat_lt
    simp only [↓R0, R1, simprocAttr, -Int.reduceAbs, hl, List.getElem?_eq_getElem hi, Option.getD_some]
    refine fin_t trivial ?_ (fun k hk => rfl)
    simp only [↓R0, R1, simprocAttr, -Int.reduceAbs]
    rw [i64_in _ (by omega)]
  · have hi : ¬ i.toNat < l.length := by simp at hc; omega
    simp only [↓R0, R1, simprocAttr, -Int.reduceAbs]
    refine fin_t trivial ?_ (fun k hk => rfl)
    simp only [↓R0, R1, simprocAttr, -Int.reduceAbs]
    rw [List.getElem?_eq_none (by omega)]; rfl
def spCmp : List Value → Option Value
  | [.string ⟨⟨l⟩⟩, .string ⟨⟨m⟩⟩] => if l.length ≤ 1099511627776 ∧ m.length ≤ 1099511627776 then some (.int .i64 (cmpN (nl l) (nl m))) else none
  | _ => none
def c127 : ICode :=
  (.seq (.reg [qq 4 (.mv (ci 0))]) (.seq (.reg [qq 8 (.mv (.t 0)), qq 9 (.call 91 [(.t 8)]), qq 10 (.mv (.t 1)), qq 11 (.call 91 [(.t 10)]), qq 5 (.mv (.t 9)), qq 6 (.mv (.t 11))]) (.seq (.seq (.reg [qq 12 (.mv (.t 5)), qq 13 (.lens (.t 12)), qq 14 (.mv (.t 6)), qq 15 (.lens (.t 14)), qq 16 (.bin .lss (.t 13) (.t 15))]) (.cond (.t 16) (.seq (.reg [qq 4 (.mv (ci (-1)))]) .ret) .skip)) (.seq (.seq (.reg [qq 17 (.mv (.t 5)), qq 18 (.lens (.t 17)), qq 19 (.mv (.t 6)), qq 20 (.lens (.t 19)), qq 21 (.bin .gtr (.t 18) (.t 20))]) (.cond (.t 21) (.seq (.reg [qq 4 (.mv (ci 1))]) .ret) .skip)) (.seq (.seq (.reg [qq 22 (.mv (.t 5)), qq 23 (.lens (.t 22)), qq 24 (.bin .sub (.t 23) (ci 1)), qq 7 (.mv (.t 24))]) (.block 0 (.loop (.seq (.seq (.reg [qq 25 (.mv (.t 7)), qq 26 (.bin .geq (.t 25) (ci 0))]) (.cond (.t 26) .skip (.exit 0))) (.seq (.block 1 (.seq (.seq (.dreg [qu 29 (.mv (.t 5)), qu 30 (.mv (.t 7)), qu 31 (.idstr (.t 29) (.t 30)), qu 32 (.mv (.t 6)), qu 33 (.mv (.t 7)), qu 34 (.idstr (.t 32) (.t 33)), qu 35 (.bin .lss (.t 31) (.t 34))]) (.cond (.t 35) (.seq (.reg [qq 4 (.mv (ci (-1)))]) .ret) .skip)) (.seq (.dreg [qu 36 (.mv (.t 5)), qu 37 (.mv (.t 7)), qu 38 (.idstr (.t 36) (.t 37)), qu 39 (.mv (.t 6)), qu 40 (.mv (.t 7)), qu 41 (.idstr (.t 39) (.t 40)), qu 42 (.bin .gtr (.t 38) (.t 41))]) (.cond (.t 42) (.seq (.reg [qq 4 (.mv (ci 1))]) .ret) .skip)))) (.reg [qq 27 (.mv (.t 7)), qq 28 (.bin .sub (.t 27) (ci 1)), qq 7 (.mv (.t 28))])))))) (.seq (.reg [qq 4 (.mv (ci 0))]) .ret))))))
theorem tr127 : trFun Tryz.prog 127 = some ⟨43, [.t 4], c127⟩ := by kernel_rfl
theorem ok_r1Cmp : SpecOK Tryz.prog 127 (flat spCmp) := by
  refine flat_run (env_cons ok_r1Norm (env_nil _)) mixed tr127 ?_
  intro args v h N hG
  unfold spCmp at hG
  split at hG
  case h_2 => cases hG
  rename_i l m
  split at hG
  case isFalse => cases hG
  rename_i hl
  cases hG
  refine ⟨rfl, by simp, ?_⟩
  have hla : (bl (nl l)).length ≤ 1099511627776 := Nat.le_trans (bl_length_le.2 (nl_lt l)) hl.1
  have hlb : (bl (nl m)).length ≤ 1099511627776 := Nat.le_trans (bl_length_le.2 (nl_lt m)) hl.2
  simp only [c127, G0, Nat.reduceAdd]
  simp only [↓R0, R1, simprocAttr, -Int.reduceAbs, spNorm, hl.1, hl.2]
  generalize ha : nl l = a at *
  generalize hb : nl m = b at *
  refine cd_case (fun hc => ?_) (fun hc => ?_)
  · simp only [↓R0, R1, simprocAttr, -Int.reduceAbs]
    refine fin_t trivial ?_ (fun k hk => rfl)
    simp only [↓R0, R1, simprocAttr, -Int.reduceAbs]
    rw [cmpN_lt (bl_length_lt (by simpa using hc))]
  simp only [↓R0, R1, simprocAttr, -Int.reduceAbs]
  refine cd_case (fun hd => ?_) (fun hd => ?_)
  · simp only [↓R0, R1, simprocAttr, -Int.reduceAbs]
    refine fin_t trivial ?_ (fun k hk => rfl)
    simp only [↓R0, R1, simprocAttr, -Int.reduceAbs]
    rw [cmpN_gt (bl_length_lt (by simpa using hd))]
  have hlen : (bl a).length = (bl b).length := by simp at hc hd; omega
  simp only [↓R0, R1, simprocAttr, -Int.reduceAbs]
  refine lp_parts (fun n tm hp nx => tmget tm 5 = .string ⟨⟨bl a⟩⟩ ∧ tmget tm 6 = .string ⟨⟨bl b⟩⟩ ∧ tmget tm 7 = .int .i64 ((n : Int) - 1) ∧ n ≤ (bl a).length ∧ (bl a).drop n = (bl b).drop n ∧ hp = h ∧ nx = N + 0) ?_ (bl a).length ⟨?_, ?_, ?_, Nat.le_refl _, ?_, rfl, rfl⟩
  · intro n tm hp nx ⟨h5, h6, h7, hn, hz, rfl, rfl⟩
    simp only [↓R0, R1, simprocAttr, -Int.reduceAbs, h5, h6, h7]
    refine cd_case (fun hb => ?_) (fun hb => ?_)
    · obtain ⟨n, rfl⟩ : ∃ n', n = n' + 1 := ⟨n - 1, by simp at hb; omega⟩
      have e1 : ((n + 1 : Nat) : Int) - 1 = (n : Int) := by omega
      obtain ⟨x, hx⟩ : ∃ x, (bl a)[n]? = some x := ⟨_, List.getElem?_eq_getElem (by omega)⟩
      obtain ⟨y, hy⟩ : ∃ y, (bl b)[n]? = some y := ⟨_, List.getElem?_eq_getElem (by omega)⟩
      simp only [↓R0, R1, simprocAttr, -Int.reduceAbs, h5, h6, h7, e1, hx, hy]
      refine cd_case (fun hc => ?_) (fun hc => ?_)
      · simp only [↓R0, R1, simprocAttr, -Int.reduceAbs]
        refine fin_t trivial ?_ (fun k hk => rfl)
        simp only [↓R0, R1, simprocAttr, -Int.reduceAbs]
        have := nl_lt_of hx hy hz (by simpa using hc)
        rw [nl_bl, nl_bl] at this
        rw [cmpN_lt this]
      simp only [↓R0, R1, simprocAttr, -Int.reduceAbs, h5, h6, h7, e1, hx, hy]
      refine cd_case (fun hd => ?_) (fun hd => ?_)
      · simp only [↓R0, R1, simprocAttr, -Int.reduceAbs]
        refine fin_t trivial ?_ (fun k hk => rfl)
        simp only [↓R0, R1, simprocAttr, -Int.reduceAbs]
        have := nl_lt_of hy hx hz.symm (by simpa using hd)
        rw [nl_bl, nl_bl] at this
        rw [cmpN_gt this]
      simp only [↓R0, R1, simprocAttr, -Int.reduceAbs, h5, h6, h7, e1, hx, hy]
      have hxy : x = y := by apply UInt8.toNat_inj.1; simp at hc hd; omega
      refine ⟨n, by omega, ?_, by omega, ?_⟩
      · rw [i64_in _ (by omega)]
      · rw [List.drop_eq_getElem_cons (by omega), List.drop_eq_getElem_cons (i := n) (l := bl b) (by omega), hz]
        rw [List.getElem?_eq_some_iff] at hx hy
        rw [hx.2, hy.2, hxy]
    · have h0 : n = 0 := by simp at hb; omega
      subst h0
      have : a = b := bl_inj (by simpa using hz)
      subst this
      simp only [↓R0, R1, simprocAttr, -Int.reduceAbs]
      refine fin_t trivial ?_ (fun k hk => rfl)
      simp only [↓R0, R1, simprocAttr, -Int.reduceAbs]
      rw [cmpN_eq]
  · simp only [↓R0, R1, simprocAttr, -Int.reduceAbs]
  · simp only [↓R0, R1, simprocAttr, -Int.reduceAbs]
  · simp only [↓R0, R1, simprocAttr, -Int.reduceAbs]
    rw [i64_in _ (by omega)]
  · rw [List.drop_length, hlen, List.drop_length]
end Go.Eng
end
section
set_option linter.unusedVariables false
set_option linter.unusedSimpArgs false
set_option linter.unusedSectionVars false
namespace Go.Eng
open Go Go.Proofs Go.IntWalk
def spAdd : List Value → Option Value
  | [.string ⟨⟨l⟩⟩, .string ⟨⟨m⟩⟩] => if l.length ≤ 549755813888 ∧ m.length ≤ 549755813888 then some (.string ⟨⟨bl (nl l + nl m)⟩⟩) else none
  | _ => none
def c130 : ICode :=
  (.seq (.reg [qq 4 (.mv (.c e0))]) (.seq (.reg [qq 8 (.bslice 5 1 0 [] []), qq 5 (.mv (.t 8))]) (.seq (.reg [qq 6 (.mv (ci 0))]) (.seq (.seq (.reg [qq 7 (.mv (ci 0))]) (.block 0 (.loop (.seq (.seq (.reg [qq 9 (.mv (.t 7)), qq 10 (.mv (.t 0)), qq 11 (.lens (.t 10)), qq 12 (.bin .lss (.t 9) (.t 11)), qq 13 (.mv (.t 12)), ⟨(some 14), (some (13, false)), (.mv (.t 7))⟩, ⟨(some 15), (some (13, false)), (.mv (.t 1))⟩, ⟨(some 16), (some (13, false)), (.lens (.t 15))⟩, ⟨(some 17), (some (13, false)), (.bin .lss (.t 14) (.t 16))⟩, qq 18 (.pick (.t 13) (.c (.bool true)) (.t 17)), qq 19 (.mv (.t 18)), ⟨(some 20), (some (19, false)), (.mv (.t 6))⟩, ⟨(some 21), (some (19, false)), (.bin .gtr (.t 20) (ci 0))⟩, qq 22 (.pick (.t 19) (.c (.bool true)) (.t 21))]) (.cond (.t 22) .skip (.exit 0))) (.seq (.block 1 (.seq (.reg [qq 25 (.mv (.t 6)), qq 26 (.mv (.t 0)), qq 27 (.mv (.t 7)), qq 28 (.call 140 [(.t 26), (.t 27)]), qq 29 (.mv (.t 1)), qq 30 (.mv (.t 7)), qq 31 (.call 140 [(.t 29), (.t 30)]), qq 32 (.bin .add (.t 28) (.t 31)), qq 33 (.bin .add (.t 25) (.t 32)), qq 6 (.mv (.t 33))]) (.seq (.reg [qq 34 (.mv (.t 5)), qq 35 (.mv (.t 6)), qq 36 (.bin .rem (.t 35) (ci 256)), qq 37 (.conv .u8 (.t 36)), qq 38 (.bslice 5 1 1 [(.int .u8 0)] [(0, 1, (.t 37))]), qq 39 (.app 5 1 1 (.t 34) (.t 38)), qq 5 (.mv (.t 39))]) (.reg [qq 40 (.mv (.t 6)), qq 41 (.bin .quo (.t 40) (ci 256)), qq 6 (.mv (.t 41))])))) (.reg [qq 23 (.mv (.t 7)), qq 24 (.bin .add (.t 23) (ci 1)), qq 7 (.mv (.t 24))])))))) (.seq (.reg [qq 42 (.mv (.t 5)), qq 43 (.b2s (.t 42)), qq 44 (.call 91 [(.t 43)]), qq 4 (.mv (.t 44))]) .ret)))))
theorem tr130 : trFun Tryz.prog 130 = some ⟨45, [.t 4], c130⟩ := by kernel_rfl
theorem nl_drop (l : List UInt8) (i : Nat) : nl (l.drop i) = (l[i]?.getD 0).toNat + 256 * nl (l.drop (i + 1)) := by
  by_cases h : i < l.length
  · rw [List.drop_eq_getElem_cons h, List.getElem?_eq_getElem h]; rfl
  · rw [List.drop_eq_nil_of_le (by omega), List.getElem?_eq_none (by omega), List.drop_eq_nil_of_le (by omega)]; rfl
theorem addStep {i ov p q L M : Nat} (hi : i + ov ≤ max L M + 1) (hov : ov ≤ 1) (b1 : p < 256) (b2 : q < 256) (z1 : ¬ i < L → p = 0) (z2 : ¬ i < M → q = 0) (c : i < L ∨ i < M ∨ ov > 0) :
    i + 1 + (ov + (p + q)) / 256 ≤ max L M + 1 ∧ 2 * (max L M - (i + 1)) + (ov + (p + q)) / 256 < 2 * (max L M - i) + ov ∧ (ov + (p + q)) / 256 ≤ 1 := by
  by_cases g1 : i < L
  · omega
  · by_cases g2 : i < M
    · omega
    · have := z1 g1; have := z2 g2; omega
set_option maxHeartbeats 1000000 in
theorem ok_r1Add : SpecOK Tryz.prog 130 (flat spAdd) := by
  refine flat_run (env_cons ok_r1Norm (env_cons ok_r1At (env_nil _))) mixed tr130 ?_
  intro args v h N hG
  unfold spAdd at hG
  split at hG
  case h_2 => cases hG
  rename_i l m
  split at hG
  case isFalse => cases hG
  rename_i hl
  obtain ⟨hl, hm⟩ := hl
  cases hG
  refine ⟨rfl, by simp, ?_⟩
  simp only [c130, G0, Nat.reduceAdd]
  simp only [↓R0, R1, simprocAttr, -Int.reduceAbs]
  refine lp_parts (fun n tm hp nx => ∃ (i ov j k : Nat) (out : List UInt8) (x : Bool), n = 2 * (max l.length m.length - i) + ov ∧ tmget tm 0 = .string ⟨⟨l⟩⟩ ∧ tmget tm 1 = .string ⟨⟨m⟩⟩ ∧ tmget tm 7 = .int .i64 i ∧ tmget tm 6 = .int .i64 ov ∧
      tmget tm 5 = .slice (some ⟨N + k, 0, none⟩) i i ∧ hget hp (N + k) = some ⟨5, 1, x, bc out⟩ ∧ out.length = i ∧ i + ov ≤ max l.length m.length + 1 ∧ ov ≤ 1 ∧
      nl out + 256 ^ i * (ov + nl (l.drop i) + nl (m.drop i)) = nl l + nl m ∧ (∀ q, q < N → hget hp q = hget h q) ∧ nx = N + j ∧ k < j) ?_ (2 * max l.length m.length)
    ⟨0, 0, 1, 0, [], true, by omega, ?_, ?_, ?_, ?_, ?_, ?_, rfl, by omega, by omega, by simp [nl], ?_, rfl, by omega⟩
  · intro n tm hp nx ⟨i, ov, j, k, out, x, hn, h0, h1, h7, h6, h5, hk, ho, hi, hov, hval, hh, hnx, hkj⟩
    subst hnx
    have b1 : (l[i]?.getD 0).toNat < 256 := UInt8.toNat_lt _
    have b2 : (m[i]?.getD 0).toNat < 256 := UInt8.toNat_lt _
    have sl : l.length ≤ 1099511627776 := by omega
    have sm : m.length ≤ 1099511627776 := by omega
    have hv1 := nl_drop l i
    have hv2 := nl_drop m i
    have z1 : ¬ i < l.length → (l[i]?.getD 0).toNat = 0 := fun g => by rw [List.getElem?_eq_none (by omega)]; rfl
    have z2 : ¬ i < m.length → (m[i]?.getD 0).toNat = 0 := fun g => by rw [List.getElem?_eq_none (by omega)]; rfl
    generalize hp1 : (l[i]?.getD 0).toNat = p at *
    generalize hp2 : (m[i]?.getD 0).toNat = q at *
    have e1 : IntKind.i64.wrap ((p : Int) + (q : Int)) = ((p + q : Nat) : Int) := by rw [i64_in _ (by omega)]; omega
    have e2 : IntKind.i64.wrap ((ov : Int) + ((p + q : Nat) : Int)) = ((ov + (p + q) : Nat) : Int) := by rw [i64_in _ (by omega)]; omega
    have e3 : ((ov + (p + q) : Nat) : Int).tmod 256 = (((ov + (p + q)) % 256 : Nat) : Int) := by rw [Int.tmod_eq_emod_of_nonneg (by omega)]; omega
    have e4 : IntKind.u8.wrap (((ov + (p + q)) % 256 : Nat) : Int) = ((UInt8.ofNat ((ov + (p + q)) % 256)).toNat : Int) := by rw [u8_in _ (by omega)]; simp
    have e5 : IntKind.i64.wrap (((ov + (p + q) : Nat) : Int).tdiv 256) = (((ov + (p + q)) / 256 : Nat) : Int) := by rw [i64_quo _ _ (by omega)]; omega
    have e6 : IntKind.i64.wrap ((i : Int) + 1) = ((i + 1 : Nat) : Int) := by rw [i64_in _ (by omega)]; omega
    have f1 : ¬ (i + 1 ≤ i) := by omega
    have f2 : i + 1 ≤ 140737488355328 := by omega
    have f3 : ¬ (j = k) := by omega
    have f4 : 0 + 1 ≤ 1 := by omega
    have fin : i + 1 + (ov + (p + q)) / 256 ≤ max l.length m.length + 1 → nl (out ++ [UInt8.ofNat ((ov + (p + q)) % 256)]) + 256 ^ (i + 1) * ((ov + (p + q)) / 256 + nl (l.drop (i + 1)) + nl (m.drop (i + 1))) = nl l + nl m := by
      intro _
      rw [nl_append, ho, ← hval, hv1, hv2]
      have t : (UInt8.ofNat ((ov + (p + q)) % 256)).toNat = (ov + (p + q)) % 256 := by simp
      simp only [nl, t]
      generalize nl (l.drop (i + 1)) = A
      generalize nl (m.drop (i + 1)) = B
      rw [Nat.pow_succ, Nat.add_assoc, Nat.mul_assoc, ← Nat.mul_add]
      congr 2
      omega
    by_cases c1 : i < l.length
    · have st := addStep hi hov b1 b2 z1 z2 (.inl c1)
      rw [hn]
      simp only [↓R0, R1, simprocAttr, -Int.reduceAbs, h0, h1, h7, h6, h5, c1, spAt, sl, sm, hp1, hp2, e1, e2, e3, e4, e5, e6, f1, f2, f3, f4, hk, ho]
      refine ⟨2 * (max l.length m.length - (i + 1)) + (ov + (p + q)) / 256, st.2.1, i + 1, (ov + (p + q)) / 256, j + 2, j + 1, out ++ [UInt8.ofNat ((ov + (p + q)) % 256)], false, rfl, rfl, rfl, rfl, ?_, by simp [ho], st.1, st.2.2, fin st.1, ?_, rfl, Nat.lt_succ_self _⟩
      · rw [if_pos rfl, bc_append]; rfl
      · intro q hq
        simp only [if_neg (show ¬ N + (j + 1) = q by omega), if_neg (show ¬ N + k = q by omega), if_neg (show ¬ N + j = q by omega)]
        exact hh q hq
    by_cases c2 : i < m.length
    · have st := addStep hi hov b1 b2 z1 z2 (.inr (.inl c2))
      rw [hn]
      simp only [↓R0, R1, simprocAttr, -Int.reduceAbs, h0, h1, h7, c1, c2]
      simp only [↓R0, R1, simprocAttr, -Int.reduceAbs, h0, h1, h7, h6, h5, c1, spAt, sl, sm, hp1, hp2, e1, e2, e3, e4, e5, e6, f1, f2, f3, f4, hk, ho]
      refine ⟨2 * (max l.length m.length - (i + 1)) + (ov + (p + q)) / 256, st.2.1, i + 1, (ov + (p + q)) / 256, j + 2, j + 1, out ++ [UInt8.ofNat ((ov + (p + q)) % 256)], false, rfl, rfl, rfl, rfl, ?_, by simp [ho], st.1, st.2.2, fin st.1, ?_, rfl, Nat.lt_succ_self _⟩
      · rw [if_pos rfl, bc_append]; rfl
      · intro q hq
        simp only [if_neg (show ¬ N + (j + 1) = q by omega), if_neg (show ¬ N + k = q by omega), if_neg (show ¬ N + j = q by omega)]
        exact hh q hq
    by_cases c3 : (ov : Int) > 0
    · have st := addStep hi hov b1 b2 z1 z2 (.inr (.inr (by omega)))
      rw [hn]
      simp only [↓R0, R1, simprocAttr, -Int.reduceAbs, h0, h1, h7, h6, c1, c2, c3]
      simp only [↓R0, R1, simprocAttr, -Int.reduceAbs, h0, h1, h7, h6, h5, c1, spAt, sl, sm, hp1, hp2, e1, e2, e3, e4, e5, e6, f1, f2, f3, f4, hk, ho]
      refine ⟨2 * (max l.length m.length - (i + 1)) + (ov + (p + q)) / 256, st.2.1, i + 1, (ov + (p + q)) / 256, j + 2, j + 1, out ++ [UInt8.ofNat ((ov + (p + q)) % 256)], false, rfl, rfl, rfl, rfl, ?_, by simp [ho], st.1, st.2.2, fin st.1, ?_, rfl, Nat.lt_succ_self _⟩
      · rw [if_pos rfl, bc_append]; rfl
      · intro q hq
        simp only [if_neg (show ¬ N + (j + 1) = q by omega), if_neg (show ¬ N + k = q by omega), if_neg (show ¬ N + j = q by omega)]
        exact hh q hq
    have c4 : ov = 0 := by omega
    subst c4
    have so : out.length ≤ 1099511627776 := by omega
    simp only [↓R0, R1, simprocAttr, -Int.reduceAbs, h0, h1, h7, h6, h5, c1, c2, c3, hk, spNorm]
    subst ho
    have f5 : 0 + out.length ≤ out.length := by omega
    simp only [↓R0, R1, simprocAttr, -Int.reduceAbs, f5, List.drop_zero, bc_take_all, byteList_bc, so, spNorm]
    refine fin_t trivial ?_ hh
    simp only [↓R0, R1, simprocAttr, -Int.reduceAbs]
    rw [List.drop_eq_nil_of_le (by omega), List.drop_eq_nil_of_le (by omega)] at hval
    simp [nl] at hval
    rw [hval]
  · (first | (simp only [↓R0, R1, simprocAttr, -Int.reduceAbs]; done) | (simp only [↓R0, R1, simprocAttr, -Int.reduceAbs]; rfl) | rfl)
  · (first | (simp only [↓R0, R1, simprocAttr, -Int.reduceAbs]; done) | (simp only [↓R0, R1, simprocAttr, -Int.reduceAbs]; rfl) | rfl)
  · (first | (simp only [↓R0, R1, simprocAttr, -Int.reduceAbs]; done) | (simp only [↓R0, R1, simprocAttr, -Int.reduceAbs]; rfl) | rfl)
  · (first | (simp only [↓R0, R1, simprocAttr, -Int.reduceAbs]; done) | (simp only [↓R0, R1, simprocAttr, -Int.reduceAbs]; rfl) | rfl)
  · (first | (simp only [↓R0, R1, simprocAttr, -Int.reduceAbs]; done) | (simp only [↓R0, R1, simprocAttr, -Int.reduceAbs]; rfl) | rfl)
  · (first | (simp only [↓R0, R1, simprocAttr, -Int.reduceAbs]; done) | (simp only [↓R0, R1, simprocAttr, -Int.reduceAbs]; rfl) | rfl)
  · intro q hq
    simp only [↓R0, R1, simprocAttr, -Int.reduceAbs, hget_new hq]
end Go.Eng
end
section
set_option linter.unusedVariables false
set_option linter.unusedSimpArgs false
set_option linter.unusedSectionVars false
namespace Go.Eng
open Go Go.Proofs Go.IntWalk
def spOf : List Value → Option Value
  | [.int .u64 n] => if 0 ≤ n ∧ n ≤ 18446744073709551615 then some (.string ⟨⟨bl n.toNat⟩⟩) else none
  | _ => none
def c92 : ICode :=
  (.seq (.reg [qq 2 (.mv (.c e0))]) (.seq (.reg [qq 4 (.bslice 5 1 0 [] []), qq 3 (.mv (.t 4))]) (.seq (.block 0 (.loop (.seq (.seq (.reg [qq 5 (.mv (.t 0)), qq 6 (.bin .gtr (.t 5) (.c (.int .u64 0)))]) (.cond (.t 6) .skip (.exit 0))) (.block 1 (.seq (.reg [qq 7 (.mv (.t 3)), qq 8 (.mv (.t 0)), qq 9 (.bin .rem (.t 8) (.c (.int .u64 256))), qq 10 (.conv .u8 (.t 9)), qq 11 (.bslice 5 1 1 [(.int .u8 0)] [(0, 1, (.t 10))]), qq 12 (.app 5 1 1 (.t 7) (.t 11)), qq 3 (.mv (.t 12))]) (.reg [qq 13 (.mv (.t 0)), qq 14 (.bin .quo (.t 13) (.c (.int .u64 256))), qq 0 (.mv (.t 14))])))))) (.seq (.reg [qq 15 (.mv (.t 3)), qq 16 (.b2s (.t 15)), qq 2 (.mv (.t 16))]) .ret))))
theorem tr92 : trFun Tryz.prog 92 = some ⟨17, [.t 2], c92⟩ := by kernel_rfl
theorem ok_r1Of : SpecOK Tryz.prog 92 (flat spOf) := by
  refine flat_run (env_nil _) mixed tr92 ?_
  intro args v h N hG
  unfold spOf at hG
  split at hG
  case h_2 => cases hG
  rename_i n0
  split at hG
  case isFalse => cases hG
  rename_i hl
  cases hG
  refine ⟨rfl, by simp, ?_⟩
  obtain ⟨n0, rfl⟩ : ∃ k : Nat, n0 = (k : Int) := ⟨n0.toNat, by omega⟩
  rw [Int.toNat_natCast]
  simp only [c92, G0, Nat.reduceAdd]
  simp only [↓R0, R1, simprocAttr, -Int.reduceAbs]
  refine lp_parts (fun n tm hp nx => ∃ (i j k : Nat) (out : List UInt8) (x : Bool), n ≤ n0 ∧ tmget tm 0 = .int .u64 n ∧
      tmget tm 3 = .slice (some ⟨N + k, 0, none⟩) i i ∧ hget hp (N + k) = some ⟨5, 1, x, bc out⟩ ∧ out.length = i ∧ i + (bl n).length = (bl n0).length ∧
      bl n0 = out ++ bl n ∧ (∀ q, q < N → hget hp q = hget h q) ∧ nx = N + j ∧ k < j) ?_ n0
    ⟨0, 1, 0, [], true, by omega, ?_, ?_, ?_, rfl, by omega, by simp, ?_, rfl, by omega⟩
  · intro n tm hp nx ⟨i, j, k, out, x, hn, h0, h3, hk, ho, hi, hval, hh, hnx, hkj⟩
    subst hnx
    have hlen : (bl n0).length ≤ 8 := bl_length_le.2 (by omega)
    have e3 : ((n : Nat) : Int).tmod 256 = ((n % 256 : Nat) : Int) := by rw [Int.tmod_eq_emod_of_nonneg (by omega)]; omega
    have e4 : IntKind.u8.wrap ((n % 256 : Nat) : Int) = ((UInt8.ofNat (n % 256)).toNat : Int) := by rw [u8_in _ (by omega)]; simp
    have e5 : IntKind.u64.wrap (((n : Nat) : Int).tdiv 256) = ((n / 256 : Nat) : Int) := by rw [u64_quo _ _ (by omega)]; omega
    have f1 : ¬ (i + 1 ≤ i) := by omega
    have f2 : i + 1 ≤ 140737488355328 := by omega
    have f3 : ¬ (j = k) := by omega
    have f4 : 0 + 1 ≤ 1 := by omega
    by_cases c : (n : Int) > 0
    · simp only [↓R0, R1, simprocAttr, -Int.reduceAbs, h0, h3, c, e3, e4, e5, f1, f2, f3, f4, hk, ho]
      have hb : bl n = UInt8.ofNat (n % 256) :: bl (n / 256) := bl_pos (by omega)
      refine ⟨n / 256, by omega, i + 1, j + 2, j + 1, out ++ [UInt8.ofNat (n % 256)], false, by omega, rfl, rfl, ?_, by simp [ho], ?_, ?_, ?_, rfl, by omega⟩
      · rw [if_pos rfl, bc_append]; rfl
      · rw [hb] at hi; simp at hi; omega
      · rw [hval, hb]; simp
      · intro q hq
        simp only [if_neg (show ¬ N + (j + 1) = q by omega), if_neg (show ¬ N + k = q by omega), if_neg (show ¬ N + j = q by omega)]
        exact hh q hq
    · have c0 : n = 0 := by omega
      subst c0
      subst ho
      have f5 : 0 + out.length ≤ out.length := by omega
      simp only [↓R0, R1, simprocAttr, -Int.reduceAbs, h0, h3, c, hk, f5, List.drop_zero, bc_take_all, byteList_bc]
      refine fin_t trivial ?_ hh
      simp only [↓R0, R1, simprocAttr, -Int.reduceAbs]
      rw [hval, bl_zero]; simp
  · (first | (simp only [↓R0, R1, simprocAttr, -Int.reduceAbs]; done) | (simp only [↓R0, R1, simprocAttr, -Int.reduceAbs]; rfl) | rfl)
  · (first | (simp only [↓R0, R1, simprocAttr, -Int.reduceAbs]; done) | (simp only [↓R0, R1, simprocAttr, -Int.reduceAbs]; rfl) | rfl)
  · (first | (simp only [↓R0, R1, simprocAttr, -Int.reduceAbs]; done) | (simp only [↓R0, R1, simprocAttr, -Int.reduceAbs]; rfl) | rfl)
  · intro q hq
    simp only [↓R0, R1, simprocAttr, -Int.reduceAbs, hget_new hq]
def spSub : List Value → Option Value
  | [.string ⟨⟨l⟩⟩, .string ⟨⟨m⟩⟩] => if l.length ≤ 549755813888 ∧ m.length ≤ 549755813888 then
      (if nl l < nl m then some (.tuple ⟨[.string ⟨⟨[]⟩⟩, .bool false]⟩) else some (.tuple ⟨[.string ⟨⟨bl (nl l - nl m)⟩⟩, .bool true]⟩)) else none
  | _ => none
theorem nl_take_succ (l : List UInt8) (i : Nat) : nl (l.take (i + 1)) = nl (l.take i) + 256 ^ i * (l[i]?.getD 0).toNat := by
  by_cases h : i < l.length
  · rw [List.take_add_one, List.getElem?_eq_getElem h, Option.toList_some, nl_append, List.length_take, Nat.min_eq_left (by omega)]
    simp [nl]
  · rw [List.take_of_length_le (by omega), List.take_of_length_le (by omega), List.getElem?_eq_none (by omega)]; simp
theorem nl_take_drop (l : List UInt8) (i : Nat) (hi : i ≤ l.length) : nl l = nl (l.take i) + 256 ^ i * nl (l.drop i) := by
  conv => lhs; rw [← List.take_append_drop i l]
  rw [nl_append, List.length_take, Nat.min_eq_left hi]
def c129 : ICode :=
  (.seq (.reg [qq 4 (.mv (.c e0)), qq 5 (.mv (.c (.bool false)))]) (.seq (.seq (.reg [qq 10 (.mv (.t 0)), qq 11 (.mv (.t 1)), qq 12 (.call 127 [(.t 10), (.t 11)]), qq 13 (.bin .lss (.t 12) (ci 0))]) (.cond (.t 13) (.seq (.reg [qq 4 (.mv (.c e0)), qq 5 (.mv (.c (.bool false)))]) .ret) .skip)) (.seq (.reg [qq 14 (.bslice 5 1 0 [] []), qq 6 (.mv (.t 14))]) (.seq (.reg [qq 7 (.mv (ci 0))]) (.seq (.seq (.reg [qq 8 (.mv (ci 0))]) (.block 0 (.loop (.seq (.seq (.reg [qq 15 (.mv (.t 8)), qq 16 (.mv (.t 0)), qq 17 (.lens (.t 16)), qq 18 (.bin .lss (.t 15) (.t 17))]) (.cond (.t 18) .skip (.exit 0))) (.seq (.block 1 (.seq (.reg [qq 21 (.mv (.t 0)), qq 22 (.mv (.t 8)), qq 23 (.call 140 [(.t 21), (.t 22)]), qq 24 (.mv (.t 1)), qq 25 (.mv (.t 8)), qq 26 (.call 140 [(.t 24), (.t 25)]), qq 27 (.bin .sub (.t 23) (.t 26)), qq 28 (.mv (.t 7)), qq 29 (.bin .sub (.t 27) (.t 28)), qq 9 (.mv (.t 29))]) (.seq (.reg [qq 7 (.mv (ci 0))]) (.seq (.seq (.reg [qq 30 (.mv (.t 9)), qq 31 (.bin .lss (.t 30) (ci 0))]) (.cond (.t 31) (.seq (.reg [qq 32 (.mv (.t 9)), qq 33 (.bin .add (.t 32) (ci 256)), qq 9 (.mv (.t 33))]) (.reg [qq 7 (.mv (ci 1))])) .skip)) (.reg [qq 34 (.mv (.t 6)), qq 35 (.mv (.t 9)), qq 36 (.conv .u8 (.t 35)), qq 37 (.bslice 5 1 1 [(.int .u8 0)] [(0, 1, (.t 36))]), qq 38 (.app 5 1 1 (.t 34) (.t 37)), qq 6 (.mv (.t 38))]))))) (.reg [qq 19 (.mv (.t 8)), qq 20 (.bin .add (.t 19) (ci 1)), qq 8 (.mv (.t 20))])))))) (.seq (.reg [qq 39 (.mv (.t 6)), qq 40 (.b2s (.t 39)), qq 41 (.call 91 [(.t 40)]), qq 4 (.mv (.t 41)), qq 5 (.mv (.c (.bool true)))]) .ret))))))
theorem tr129 : trFun Tryz.prog 129 = some ⟨42, [.t 4, .t 5], c129⟩ := by kernel_rfl
theorem subStep {P A B p q lent : Nat} {i : Nat} (b1 : p < 256) (b2 : q < 256) (hl : lent ≤ 1) (h : A + B = P + 256 ^ i * lent) :
    (q + lent ≤ p → A + 256 ^ i * (p - (q + lent)) + (B + 256 ^ i * q) = P + 256 ^ i * p + 256 ^ (i + 1) * 0) ∧ (p < q + lent → A + 256 ^ i * (256 + p - (q + lent)) + (B + 256 ^ i * q) = P + 256 ^ i * p + 256 ^ (i + 1) * 1) := by
  rw [Nat.pow_succ]
  generalize 256 ^ i = W at *
  constructor
  · intro g
    obtain ⟨r, rfl⟩ : ∃ r, p = q + lent + r := ⟨p - (q + lent), by omega⟩
    have : q + lent + r - (q + lent) = r := by omega
    rw [this]
    simp only [Nat.mul_add]
    omega
  · intro g
    obtain ⟨r, hr⟩ : ∃ r, 256 + p = q + lent + r := ⟨256 + p - (q + lent), by omega⟩
    have e : 256 + p - (q + lent) = r := by omega
    rw [e]
    have := congrArg (W * ·) hr
    simp only [Nat.mul_add] at this
    omega
set_option maxHeartbeats 1000000 in
theorem ok_r1Sub : SpecOK Tryz.prog 129 (flat spSub) := by
  refine flat_run (env_cons ok_r1Norm (env_cons ok_r1At (env_cons ok_r1Cmp (env_nil _)))) mixed tr129 ?_
  intro args v h N hG
  unfold spSub at hG
  split at hG
  case h_2 => cases hG
  rename_i l m
  split at hG
  case isFalse => cases hG
  rename_i hl
  obtain ⟨hl, hm⟩ := hl
  have sl : l.length ≤ 1099511627776 := by omega
  have sm : m.length ≤ 1099511627776 := by omega
  split at hG
  · rename_i hlt
    cases hG
    refine ⟨rfl, by simp, ?_⟩
    simp only [c129, G0, Nat.reduceAdd]
    simp only [↓R0, R1, simprocAttr, -Int.reduceAbs, spCmp, sl, sm, cmpN_lt hlt]
    exact fin_2 trivial rfl rfl (fun k hk => rfl)
  rename_i hlt
  cases hG
  refine ⟨rfl, by simp, ?_⟩
  have hc : cmpN (nl l) (nl m) < 0 ↔ False := by unfold cmpN; rw [if_neg hlt]; split <;> simp
  simp only [c129, G0, Nat.reduceAdd]
  simp only [↓R0, R1, simprocAttr, -Int.reduceAbs, spCmp, sl, sm, hc]
  refine lp_parts (fun n tm hp nx => ∃ (i lent j k : Nat) (out : List UInt8) (x : Bool), n + i = l.length ∧ tmget tm 0 = .string ⟨⟨l⟩⟩ ∧ tmget tm 1 = .string ⟨⟨m⟩⟩ ∧ tmget tm 8 = .int .i64 i ∧ tmget tm 7 = .int .i64 lent ∧
      tmget tm 6 = .slice (some ⟨N + k, 0, none⟩) i i ∧ hget hp (N + k) = some ⟨5, 1, x, bc out⟩ ∧ out.length = i ∧ lent ≤ 1 ∧
      nl out + nl (m.take i) = nl (l.take i) + 256 ^ i * lent ∧ (∀ q, q < N → hget hp q = hget h q) ∧ nx = N + j ∧ k < j) ?_ l.length
    ⟨0, 0, 1, 0, [], true, by omega, ?_, ?_, ?_, ?_, ?_, ?_, rfl, by omega, by simp [nl], ?_, rfl, by omega⟩
  · intro n tm hp nx ⟨i, lent, j, k, out, x, hn, h0, h1, h8, h7, h6, hk, ho, hov, hval, hh, hnx, hkj⟩
    subst hnx
    have b1 : (l[i]?.getD 0).toNat < 256 := UInt8.toNat_lt _
    have b2 : (m[i]?.getD 0).toNat < 256 := UInt8.toNat_lt _
    have t1 := nl_take_succ l i
    have t2 := nl_take_succ m i
    have st := subStep b1 b2 hov hval
    generalize hp1 : (l[i]?.getD 0).toNat = p at *
    generalize hp2 : (m[i]?.getD 0).toNat = q at *
    have f1 : ¬ (i + 1 ≤ i) := by omega
    have f2 : i + 1 ≤ 140737488355328 := by omega
    have f3 : ¬ (j = k) := by omega
    have f4 : 0 + 1 ≤ 1 := by omega
    have e1 : IntKind.i64.wrap ((p : Int) - (q : Int)) = (p : Int) - (q : Int) := by rw [i64_in _ (by omega)]
    have e6 : IntKind.i64.wrap ((i : Int) + 1) = ((i + 1 : Nat) : Int) := by rw [i64_in _ (by omega)]; omega
    by_cases c : i < l.length
    · have fin : ∀ d lent', d < 256 → nl out + 256 ^ i * d + (nl (m.take i) + 256 ^ i * q) = nl (l.take i) + 256 ^ i * p + 256 ^ (i + 1) * lent' →
          nl (out ++ [UInt8.ofNat d]) + nl (m.take (i + 1)) = nl (l.take (i + 1)) + 256 ^ (i + 1) * lent' := by
        intro d lent' hd e
        rw [t1, t2, nl_append, ho, ← e]
        have t : (UInt8.ofNat d).toNat = d := by simp; omega
        simp only [nl, t, Nat.mul_zero, Nat.add_zero]
      by_cases g : q + lent ≤ p
      · have e2 : IntKind.i64.wrap ((p : Int) - (q : Int) - (lent : Int)) = ((p - (q + lent) : Nat) : Int) := by rw [i64_in _ (by omega)]; omega
        have e3 : ¬ ((p - (q + lent) : Nat) : Int) < 0 := by omega
        have e4 : IntKind.u8.wrap ((p - (q + lent) : Nat) : Int) = ((UInt8.ofNat (p - (q + lent))).toNat : Int) := by rw [u8_in _ (by omega)]; simp; omega
        simp only [↓R0, R1, simprocAttr, -Int.reduceAbs, h0, h1, h7, h6, h8, c, spAt, sl, sm, hp1, hp2, e1, e2, e3, e4, e6, f1, f2, f3, f4, hk, ho]
        refine ⟨n - 1, by omega, i + 1, 0, j + 2, j + 1, out ++ [UInt8.ofNat (p - (q + lent))], false, by omega, rfl, rfl, rfl, ?_, by simp [ho], by omega, fin _ _ (by omega) (st.1 g), ?_, rfl, by omega⟩
        · rw [if_pos rfl, bc_append]; rfl
        · intro q hq
          simp only [if_neg (show ¬ N + (j + 1) = q by omega), if_neg (show ¬ N + k = q by omega), if_neg (show ¬ N + j = q by omega)]
          exact hh q hq
      · have e2 : IntKind.i64.wrap ((p : Int) - (q : Int) - (lent : Int)) = (p : Int) - (q : Int) - (lent : Int) := by rw [i64_in _ (by omega)]
        have e3 : (p : Int) - (q : Int) - (lent : Int) < 0 := by omega
        have e5 : IntKind.i64.wrap ((p : Int) - (q : Int) - (lent : Int) + 256) = ((256 + p - (q + lent) : Nat) : Int) := by rw [i64_in _ (by omega)]; omega
        have e4 : IntKind.u8.wrap ((256 + p - (q + lent) : Nat) : Int) = ((UInt8.ofNat (256 + p - (q + lent))).toNat : Int) := by rw [u8_in _ (by omega)]; simp; omega
        simp only [↓R0, R1, simprocAttr, -Int.reduceAbs, h0, h1, h7, h6, h8, c, spAt, sl, sm, hp1, hp2, e1, e2, e3, e4, e5, e6, f1, f2, f3, f4, hk, ho]
        refine ⟨n - 1, by omega, i + 1, 1, j + 2, j + 1, out ++ [UInt8.ofNat (256 + p - (q + lent))], false, by omega, rfl, rfl, rfl, ?_, by simp [ho], by omega, fin _ _ (by omega) (st.2 (by omega)), ?_, rfl, by omega⟩
        · rw [if_pos rfl, bc_append]; rfl
        · intro q hq
          simp only [if_neg (show ¬ N + (j + 1) = q by omega), if_neg (show ¬ N + k = q by omega), if_neg (show ¬ N + j = q by omega)]
          exact hh q hq
    · have hi : i = l.length := by omega
      have so : out.length ≤ 1099511627776 := by omega
      subst ho
      have f5 : 0 + out.length ≤ out.length := by omega
      simp only [↓R0, R1, simprocAttr, -Int.reduceAbs, h0, h1, h8, h6, c, hk, f5, List.drop_zero, bc_take_all, byteList_bc, so, spNorm]
      refine fin_2 trivial ?_ rfl hh
      simp only [↓R0, R1, simprocAttr, -Int.reduceAbs]
      have key : nl out = nl l - nl m := by
        have u1 : nl (l.take out.length) = nl l := by rw [List.take_of_length_le (by omega)]
        have u2 := nl_lt out
        have u3 := nl_lt l
        rw [← hi] at u3
        rw [u1] at hval
        by_cases hml : out.length ≤ m.length
        · have u4 := nl_take_drop m out.length hml
          generalize 256 ^ out.length = W at *
          have u5 : nl (m.drop out.length) = 0 := by
            refine Nat.eq_zero_of_not_pos fun hpos => ?_
            have : W * 1 ≤ W * nl (m.drop out.length) := Nat.mul_le_mul_left _ hpos
            omega
          rw [u5] at u4
          have : lent = 0 := by
            rcases Nat.lt_or_ge lent 1 with g | g
            · omega
            · have : lent = 1 := by omega
              subst this; omega
          subst this; omega
        · rw [List.take_of_length_le (l := m) (by omega)] at hval
          generalize 256 ^ out.length = W at *
          have : lent = 0 := by
            rcases Nat.lt_or_ge lent 1 with g | g
            · omega
            · have : lent = 1 := by omega
              subst this; omega
          subst this; omega
      rw [key]
  · (first | (simp only [↓R0, R1, simprocAttr, -Int.reduceAbs]; done) | (simp only [↓R0, R1, simprocAttr, -Int.reduceAbs]; rfl) | rfl)
  · (first | (simp only [↓R0, R1, simprocAttr, -Int.reduceAbs]; done) | (simp only [↓R0, R1, simprocAttr, -Int.reduceAbs]; rfl) | rfl)
  · (first | (simp only [↓R0, R1, simprocAttr, -Int.reduceAbs]; done) | (simp only [↓R0, R1, simprocAttr, -Int.reduceAbs]; rfl) | rfl)
  · (first | (simp only [↓R0, R1, simprocAttr, -Int.reduceAbs]; done) | (simp only [↓R0, R1, simprocAttr, -Int.reduceAbs]; rfl) | rfl)
  · (first | (simp only [↓R0, R1, simprocAttr, -Int.reduceAbs]; done) | (simp only [↓R0, R1, simprocAttr, -Int.reduceAbs]; rfl) | rfl)
  · (first | (simp only [↓R0, R1, simprocAttr, -Int.reduceAbs]; done) | (simp only [↓R0, R1, simprocAttr, -Int.reduceAbs]; rfl) | rfl)
  · intro q hq
    simp only [↓R0, R1, simprocAttr, -Int.reduceAbs, hget_new hq]
end Go.Eng
end
section
set_option linter.unusedVariables false
set_option linter.unusedSimpArgs false
set_option linter.unusedSectionVars false
set_option maxRecDepth 4000
namespace Go.Eng
open Go Go.Proofs Go.IntWalk
def vl : List Nat → Nat
  | [] => 0
  | b :: l => b + 256 * vl l
def ic (c : List Nat) : List Value := c.map fun n : Nat => Value.int .i64 (n : Int)
theorem ic_length (c : List Nat) : (ic c).length = c.length := by simp [ic]
theorem ic_get {c : List Nat} {i v : Nat} (h : c[i]? = some v) : (ic c)[i]? = some (.int .i64 v) := by simp [ic, h]
theorem ic_set (c : List Nat) (i v : Nat) : (ic c).set i (.int .i64 v) = ic (c.set i v) := by simp [ic, List.map_set]
theorem vl_set : ∀ (c : List Nat) (i v w : Nat), c[i]? = some v → vl (c.set i w) + 256 ^ i * v = vl c + 256 ^ i * w
  | [], i, v, w, h => by simp at h
  | b :: c, 0, v, w, h => by simp at h; subst h; simp [vl]; omega
  | b :: c, i + 1, v, w, h => by
    have := vl_set c i v w (by simpa using h)
    simp only [List.set_cons_succ, vl, Nat.pow_succ]
    rw [Nat.mul_comm (256 ^ i) 256, Nat.mul_assoc, Nat.mul_assoc]
    generalize 256 ^ i * v = A at *
    generalize 256 ^ i * w = B at *
    omega
theorem vl_bytes : ∀ (c : List Nat), (∀ (j : Nat) v, c[j]? = some v → v < 256) → nl (c.map UInt8.ofNat) = vl c
  | [], _ => rfl
  | b :: c, h => by
    have h0 := h 0 b (by simp)
    have ih := vl_bytes c fun j v hj => h (j + 1) v (by simpa using hj)
    simp only [List.map_cons, nl, vl, ih]
    have : (UInt8.ofNat b).toNat = b := by simp; omega
    rw [this]
theorem vl_zeros (n : Nat) : vl (List.replicate n 0) = 0 := by
  induction n with
  | zero => rfl
  | succ n ih => simp only [List.replicate_succ, vl, ih]
def spMul : List Value → Option Value
  | [.string ⟨⟨l⟩⟩, .string ⟨⟨m⟩⟩] => if l.length + m.length ≤ 274877906944 then some (.string ⟨⟨bl (nl l * nl m)⟩⟩) else none
  | _ => none
theorem nl_take_le (l : List UInt8) (i : Nat) : nl (l.take i) ≤ nl l := by
  by_cases h : i ≤ l.length
  · rw [nl_take_drop l i h]; exact Nat.le_add_right _ _
  · rw [List.take_of_length_le (by omega)]; exact Nat.le_refl _
theorem mulBound {l m : List UInt8} {i k over C : Nat} (h : C + 256 ^ (i + k) * over = nl (l.take i) * nl m + 256 ^ i * ((l[i]?.getD 0).toNat * nl (m.take k))) (ho : 0 < over) : k ≤ m.length := by
  have h1 := nl_take_succ l i
  have h2 := nl_take_lt l (i + 1)
  have h3 := nl_lt m
  have h4 := nl_take_le m k
  have h5 : 256 ^ (i + k) * 1 ≤ 256 ^ (i + k) * over := Nat.mul_le_mul_left _ ho
  have h6 : 256 ^ i * ((l[i]?.getD 0).toNat * nl (m.take k)) ≤ 256 ^ i * ((l[i]?.getD 0).toNat * nl m) := Nat.mul_le_mul_left _ (Nat.mul_le_mul_left _ h4)
  have h7 : nl (l.take i) * nl m + 256 ^ i * ((l[i]?.getD 0).toNat * nl m) = nl (l.take (i + 1)) * nl m := by rw [h1, Nat.add_mul, Nat.mul_assoc]
  have h8 : nl (l.take (i + 1)) * nl m < 256 ^ (i + 1) * 256 ^ m.length := Nat.mul_lt_mul'' h2 h3
  rw [← Nat.pow_add] at h8
  have h9 : 256 ^ (i + k) < 256 ^ (i + 1 + m.length) := by omega
  have := (Nat.pow_lt_pow_iff_right (by omega)).1 h9
  omega
def c125 : ICode :=
  (.seq (.reg [qq 4 (.mv (.c e0))]) (.seq (.reg [qq 13 (.mv (.t 0)), qq 14 (.lens (.t 13)), qq 15 (.mv (.t 1)), qq 16 (.lens (.t 15)), qq 17 (.bin .add (.t 14) (.t 16)), qq 18 (.bin .add (.t 17) (ci 1)), qq 19 (.mkslice 3 1 8 [(.int .i64 0)] (.t 18) (.t 18)), qq 5 (.mv (.t 19))]) (.seq (.seq (.reg [qq 6 (.mv (ci 0))]) (.block 0 (.loop (.seq (.seq (.reg [qq 20 (.mv (.t 6)), qq 21 (.mv (.t 0)), qq 22 (.lens (.t 21)), qq 23 (.bin .lss (.t 20) (.t 22))]) (.cond (.t 23) .skip (.exit 0))) (.seq (.block 1 (.seq (.reg [qq 7 (.mv (ci 0))]) (.seq (.reg [qq 8 (.mv (ci 0))]) (.block 2 (.loop (.seq (.seq (.reg [qq 26 (.mv (.t 8)), qq 27 (.mv (.t 1)), qq 28 (.lens (.t 27)), qq 29 (.bin .lss (.t 26) (.t 28)), qq 30 (.mv (.t 29)), ⟨(some 31), (some (30, false)), (.mv (.t 7))⟩, ⟨(some 32), (some (30, false)), (.bin .gtr (.t 31) (ci 0))⟩, qq 33 (.pick (.t 30) (.c (.bool true)) (.t 32))]) (.cond (.t 33) .skip (.exit 2))) (.seq (.block 3 (.seq (.dreg [qu 36 (.mv (.t 5)), qu 37 (.mv (.t 6)), qu 38 (.mv (.t 8)), qu 39 (.bin .add (.t 37) (.t 38)), qu 40 (.ixsl 1 (.t 36) (.t 39)), qu 41 (.load false 1 (.t 40)), qu 42 (.mv (.t 0)), qu 43 (.mv (.t 6)), qu 44 (.call 140 [(.t 42), (.t 43)]), qu 45 (.mv (.t 1)), qu 46 (.mv (.t 8)), qu 47 (.call 140 [(.t 45), (.t 46)]), qu 48 (.bin .mul (.t 44) (.t 47)), qu 49 (.bin .add (.t 41) (.t 48)), qu 50 (.mv (.t 7)), qu 51 (.bin .add (.t 49) (.t 50)), qu 9 (.mv (.t 51))]) (.seq (.reg [qq 52 (.mv (.t 5)), qq 53 (.mv (.t 6)), qq 54 (.mv (.t 8)), qq 55 (.bin .add (.t 53) (.t 54)), qq 56 (.mv (.t 9)), qq 57 (.bin .rem (.t 56) (ci 256)), qq 58 (.ixsl 1 (.t 52) (.t 55)), qn (.store 1 (.t 58) (.t 57))]) (.reg [qq 59 (.mv (.t 9)), qq 60 (.bin .quo (.t 59) (ci 256)), qq 7 (.mv (.t 60))])))) (.reg [qq 34 (.mv (.t 8)), qq 35 (.bin .add (.t 34) (ci 1)), qq 8 (.mv (.t 35))])))))))) (.reg [qq 24 (.mv (.t 6)), qq 25 (.bin .add (.t 24) (ci 1)), qq 6 (.mv (.t 25))])))))) (.seq (.reg [qq 61 (.bslice 5 1 0 [] []), qq 10 (.mv (.t 61))]) (.seq (.seq (.reg [qq 62 (.mv (.t 5)), qq 63 (.lensl (.t 62)), qq 64 (.mv (ci 0))]) (.block 4 (.loop (.seq (.reg [qq 65 (.bin .lss (.t 64) (.t 63))]) (.seq (.cond (.t 65) .skip (.exit 4)) (.seq (.block 5 (.seq (.reg [qq 66 (.ixsl 1 (.t 62) (.t 64)), qq 67 (.load false 1 (.t 66)), qq 12 (.mv (.t 67))]) (.reg [qq 68 (.mv (.t 10)), qq 69 (.mv (.t 12)), qq 70 (.conv .u8 (.t 69)), qq 71 (.bslice 5 1 1 [(.int .u8 0)] [(0, 1, (.t 70))]), qq 72 (.app 5 1 1 (.t 68) (.t 71)), qq 10 (.mv (.t 72))]))) (.reg [qq 73 (.bin .add (.t 64) (ci 1)), qq 64 (.mv (.t 73))]))))))) (.seq (.reg [qq 74 (.mv (.t 10)), qq 75 (.b2s (.t 74)), qq 76 (.call 91 [(.t 75)]), qq 4 (.mv (.t 76))]) .ret))))))
theorem tr125 : trFun Tryz.prog 125 = some ⟨77, [.t 4], c125⟩ := by kernel_rfl
theorem mulStep {l m : List UInt8} {i k over : Nat} {c : List Nat} {v : Nat} (hv : c[i + k]? = some v) (h : vl c + 256 ^ (i + k) * over = nl (l.take i) * nl m + 256 ^ i * ((l[i]?.getD 0).toNat * nl (m.take k))) :
    vl (c.set (i + k) ((v + (l[i]?.getD 0).toNat * (m[k]?.getD 0).toNat + over) % 256)) + 256 ^ (i + (k + 1)) * ((v + (l[i]?.getD 0).toNat * (m[k]?.getD 0).toNat + over) / 256) =
      nl (l.take i) * nl m + 256 ^ i * ((l[i]?.getD 0).toNat * nl (m.take (k + 1))) := by
  have h1 := vl_set c (i + k) v ((v + (l[i]?.getD 0).toNat * (m[k]?.getD 0).toNat + over) % 256) hv
  have h2 := nl_take_succ m k
  rw [h2]
  generalize (l[i]?.getD 0).toNat = a at *
  generalize (m[k]?.getD 0).toNat = b at *
  generalize nl (l.take i) * nl m = X at *
  generalize nl (m.take k) = Y at *
  have e1 : 256 ^ i * (a * (Y + 256 ^ k * b)) = 256 ^ i * (a * Y) + 256 ^ (i + k) * (a * b) := by
    rw [Nat.mul_add, Nat.mul_add, Nat.pow_add]
    congr 1
    rw [Nat.mul_assoc]; congr 1
    rw [← Nat.mul_assoc, Nat.mul_comm a, Nat.mul_assoc]
  rw [e1]
  have e2 : 256 ^ (i + (k + 1)) = 256 ^ (i + k) * 256 := by rw [← Nat.add_assoc, Nat.pow_succ]
  rw [e2]
  generalize a * b = ab at *
  have e3 : 256 ^ (i + k) * (v + ab + over) = 256 ^ (i + k) * v + 256 ^ (i + k) * ab + 256 ^ (i + k) * over := by rw [Nat.mul_add, Nat.mul_add]
  have e4 : 256 ^ (i + k) * (v + ab + over) = 256 ^ (i + k) * ((v + ab + over) % 256) + 256 ^ (i + k) * 256 * ((v + ab + over) / 256) := by
    rw [Nat.mul_assoc, ← Nat.mul_add]; congr 1; omega
  omega
set_option maxHeartbeats 2000000 in
theorem ok_r1Mul : SpecOK Tryz.prog 125 (flat spMul) := by
  refine flat_run (env_cons ok_r1Norm (env_cons ok_r1At (env_nil _))) mixed tr125 ?_
  intro args v h N hG
  unfold spMul at hG
  split at hG
  case h_2 => cases hG
  rename_i l m
  split at hG
  case isFalse => cases hG
  rename_i hl
  cases hG
  refine ⟨rfl, by simp, ?_⟩
  have sl : l.length ≤ 1099511627776 := by omega
  have sm : m.length ≤ 1099511627776 := by omega
  have e1 : IntKind.i64.wrap ((l.length : Int) + (m.length : Int)) = ((l.length + m.length : Nat) : Int) := by rw [i64_in _ (by omega)]; omega
  have e2 : IntKind.i64.wrap (((l.length + m.length : Nat) : Int) + 1) = ((l.length + m.length + 1 : Nat) : Int) := by rw [i64_in _ (by omega)]; omega
  have e3 : 8 * ((l.length + m.length + 1 : Nat) : Int) ≤ 281474976710656 := by omega
  have e4 : ((l.length + m.length + 1 : Nat) : Int) ≤ 9223372036854775807 := by omega
  have eL : (List.replicate (l.length + m.length + 1) [Value.int IntKind.i64 0]).flatten = ic (List.replicate (l.length + m.length + 1) 0) := by
    generalize l.length + m.length + 1 = L
    induction L with
    | zero => rfl
    | succ L ih => rw [List.replicate_succ, List.flatten_cons, ih]; rfl
  simp only [c125, G0, Nat.reduceAdd]
  simp only [↓R0, R1, simprocAttr, -Int.reduceAbs, e1, e2, e3, e4, eL]
  clear e1 e2 e3 e4 eL
  refine lp_parts (fun n tm hp nx => ∃ (i : Nat) (c : List Nat), n + i = l.length ∧ tmget tm 0 = .string ⟨⟨l⟩⟩ ∧ tmget tm 1 = .string ⟨⟨m⟩⟩ ∧ tmget tm 6 = .int .i64 i ∧
      tmget tm 5 = .slice (some ⟨N + 0, 0, none⟩) (l.length + m.length + 1) (l.length + m.length + 1) ∧ hget hp (N + 0) = some ⟨3, 1, false, ic c⟩ ∧ c.length = l.length + m.length + 1 ∧
      (∀ (j : Nat) v, c[j]? = some v → v < 256) ∧ vl c = nl (l.take i) * nl m ∧ (∀ q, q < N → hget hp q = hget h q) ∧ nx = N + 1) ?_ l.length
    ⟨0, List.replicate (l.length + m.length + 1) 0, by omega, ?_, ?_, ?_, ?_, ?_, by simp, ?_, ?_, ?_, rfl⟩
  · intro n tm hp nx ⟨i, c, hn, h0, h1, h6, h5, hk, hc, hcb, hval, hh, hnx⟩
    subst hnx
    by_cases c1 : i < l.length
    · simp only [↓R0, R1, simprocAttr, -Int.reduceAbs, h0, h1, h6, h5, c1]
      refine lp_parts (fun n2 tm hp nx => ∃ (k over : Nat) (c : List Nat), n2 + k = m.length + 1 ∧ tmget tm 0 = .string ⟨⟨l⟩⟩ ∧ tmget tm 1 = .string ⟨⟨m⟩⟩ ∧ tmget tm 6 = .int .i64 i ∧ tmget tm 8 = .int .i64 k ∧ tmget tm 7 = .int .i64 over ∧
        tmget tm 5 = .slice (some ⟨N + 0, 0, none⟩) (l.length + m.length + 1) (l.length + m.length + 1) ∧ hget hp (N + 0) = some ⟨3, 1, false, ic c⟩ ∧ c.length = l.length + m.length + 1 ∧
        (∀ (j : Nat) v, c[j]? = some v → v < 256) ∧ over < 256 ∧ vl c + 256 ^ (i + k) * over = nl (l.take i) * nl m + 256 ^ i * ((l[i]?.getD 0).toNat * nl (m.take k)) ∧ (∀ q, q < N → hget hp q = hget h q) ∧ nx = N + 1) ?_ (m.length + 1)
        ⟨0, 0, c, by omega, ?_, ?_, ?_, ?_, ?_, ?_, hk, hc, hcb, by omega, by simp [nl, hval], hh, rfl⟩
      · clear hk hc hcb hval hh h0 h1 h6 h5
        clear tm hp c
        intro n2 tm hp nx ⟨k, over, c, hn2, h0, h1, h6, h8, h7, h5, hk, hc, hcb, hov, hval, hh, hnx⟩
        subst hnx
        have b1 : (l[i]?.getD 0).toNat < 256 := UInt8.toNat_lt _
        have b2 : (m[k]?.getD 0).toNat < 256 := UInt8.toNat_lt _
        by_cases c2 : k < m.length ∨ over > 0
        · have hkm : k ≤ m.length := by
            rcases c2 with c2 | c2
            · omega
            · exact mulBound hval c2
          obtain ⟨v, hv⟩ : ∃ v, c[i + k]? = some v := ⟨_, List.getElem?_eq_getElem (by omega)⟩
          have hv1 := hcb _ _ hv
          have hv2 := ic_get hv
          have st := mulStep hv hval
          have hab : (l[i]?.getD 0).toNat * (m[k]?.getD 0).toNat ≤ 255 * 255 := Nat.mul_le_mul (by omega) (by omega)
          have e0 : ((l[i]?.getD 0).toNat : Int) * ((m[k]?.getD 0).toNat : Int) = (((l[i]?.getD 0).toNat * (m[k]?.getD 0).toNat : Nat) : Int) := by omega
          generalize hp1 : (l[i]?.getD 0).toNat = p at *
          generalize hp2 : (m[k]?.getD 0).toNat = q at *
          generalize p * q = pq at *
          have e1 : IntKind.i64.wrap ((p : Int) * (q : Int)) = ((pq : Nat) : Int) := by rw [e0, i64_in _ (by omega)]
          have e2 : IntKind.i64.wrap ((i : Int) + (k : Int)) = ((i + k : Nat) : Int) := by rw [i64_in _ (by omega)]; omega
          have e3 : IntKind.i64.wrap ((v : Int) + (pq : Int)) = ((v + pq : Nat) : Int) := by rw [i64_in _ (by omega)]; omega
          have e4 : IntKind.i64.wrap (((v + pq : Nat) : Int) + (over : Int)) = ((v + pq + over : Nat) : Int) := by rw [i64_in _ (by omega)]; omega
          have e5 : ((v + pq + over : Nat) : Int).tmod 256 = (((v + pq + over) % 256 : Nat) : Int) := by rw [Int.tmod_eq_emod_of_nonneg (by omega)]; omega
          have e6 : IntKind.i64.wrap (((v + pq + over : Nat) : Int).tdiv 256) = (((v + pq + over) / 256 : Nat) : Int) := by rw [i64_quo _ _ (by omega)]; omega
          have e7 : IntKind.i64.wrap ((k : Int) + 1) = ((k + 1 : Nat) : Int) := by rw [i64_in _ (by omega)]; omega
          have g1 : i + k < l.length + m.length + 1 := by omega
          have g2 : i + k + 1 ≤ c.length := by omega
          have fin : ∃ m', m' < n2 ∧ m' + (k + 1) = m.length + 1 := ⟨n2 - 1, by omega, by omega⟩
          have hS : (v + pq + over) / 256 < 256 := by omega
          have hcb' : ∀ (j : Nat) w, (c.set (i + k) ((v + pq + over) % 256))[j]? = some w → w < 256 := by
            intro j w hw
            rw [List.getElem?_set] at hw
            split at hw
            · split at hw
              · simp at hw; omega
              · cases hw
            · exact hcb j w hw
          clear hval hab e0 hv1
          rcases Decidable.em (k < m.length) with c2 | c3
          · skip
            simp only [↓R0, R1, simprocAttr, -Int.reduceAbs, h0, h1, h6, h8, h7, h5, hk, c2, spAt, sl, sm, hp1, hp2, e1, e2, e3, e4, e5, e6, e7, g1, g2, hv2, ic_length, ic_set]
            obtain ⟨m', q1, q2⟩ := fin
            refine ⟨m', q1, k + 1, (v + pq + over) / 256, c.set (i + k) ((v + pq + over) % 256), q2, rfl, rfl, rfl, by simp [hc], hcb', hS, st, ?_⟩
            intro r hr
            rw [if_neg (by omega)]; exact hh r hr
          · have c2 : (over : Int) > 0 := by omega
            simp only [↓R0, R1, simprocAttr, -Int.reduceAbs, h0, h1, h6, h8, h7, h5, hk, c3, c2]
            simp only [↓R0, R1, simprocAttr, -Int.reduceAbs, h0, h1, h6, h8, h7, h5, hk, c2, spAt, sl, sm, hp1, hp2, e1, e2, e3, e4, e5, e6, e7, g1, g2, hv2, ic_length, ic_set]
            obtain ⟨m', q1, q2⟩ := fin
            refine ⟨m', q1, k + 1, (v + pq + over) / 256, c.set (i + k) ((v + pq + over) % 256), q2, rfl, rfl, rfl, by simp [hc], hcb', hS, st, ?_⟩
            intro r hr
            rw [if_neg (by omega)]; exact hh r hr
        · have c3 : ¬ k < m.length := by omega
          have c4 : over = 0 := by omega
          subst c4
          have e7 : IntKind.i64.wrap ((i : Int) + 1) = ((i + 1 : Nat) : Int) := by rw [i64_in _ (by omega)]; omega
          simp only [↓R0, R1, simprocAttr, -Int.reduceAbs, h0, h1, h6, h8, h7, h5, hk, c3, e7]
          rw [List.take_of_length_le (l := m) (by omega)] at hval
          refine ⟨n - 1, by omega, i + 1, c, by omega, rfl, rfl, hc, hcb, ?_, hh⟩
          rw [nl_take_succ, Nat.add_mul, Nat.mul_assoc]; simpa using hval
      · (first | (simp only [↓R0, R1, simprocAttr, -Int.reduceAbs, h0]; done) | (simp only [↓R0, R1, simprocAttr, -Int.reduceAbs, h0]; rfl) | rfl)
      · (first | (simp only [↓R0, R1, simprocAttr, -Int.reduceAbs, h1]; done) | (simp only [↓R0, R1, simprocAttr, -Int.reduceAbs, h1]; rfl) | rfl)
      · (first | (simp only [↓R0, R1, simprocAttr, -Int.reduceAbs, h6]; done) | (simp only [↓R0, R1, simprocAttr, -Int.reduceAbs, h6]; rfl) | rfl)
      · (first | (simp only [↓R0, R1, simprocAttr, -Int.reduceAbs]; done) | (simp only [↓R0, R1, simprocAttr, -Int.reduceAbs]; rfl) | rfl)
      · (first | (simp only [↓R0, R1, simprocAttr, -Int.reduceAbs]; done) | (simp only [↓R0, R1, simprocAttr, -Int.reduceAbs]; rfl) | rfl)
      · (first | (simp only [↓R0, R1, simprocAttr, -Int.reduceAbs, h5]; done) | (simp only [↓R0, R1, simprocAttr, -Int.reduceAbs, h5]; rfl) | rfl)
    · have ei : i = l.length := by omega
      subst ei
      rw [List.take_length] at hval
      simp only [↓R0, R1, simprocAttr, -Int.reduceAbs, h0, h1, h6, h5, c1]
      refine lp_parts (fun n2 tm hp nx => ∃ (i j k : Nat) (out : List UInt8) (x : Bool), n2 + i = l.length + m.length + 1 ∧ tmget tm 64 = .int .i64 i ∧ tmget tm 63 = .int .i64 ((l.length + m.length + 1 : Nat) : Int) ∧
        tmget tm 62 = .slice (some ⟨N + 0, 0, none⟩) (l.length + m.length + 1) (l.length + m.length + 1) ∧ hget hp (N + 0) = some ⟨3, 1, false, ic c⟩ ∧
        tmget tm 10 = .slice (some ⟨N + (k + 1), 0, none⟩) i i ∧ hget hp (N + (k + 1)) = some ⟨5, 1, x, bc out⟩ ∧ out.length = i ∧ out = (c.take i).map UInt8.ofNat ∧ (∀ q, q < N → hget hp q = hget h q) ∧ nx = N + j ∧ k + 1 < j) ?_ (l.length + m.length + 1)
        ⟨0, 2, 0, [], true, by omega, ?_, ?_, ?_, ?_, ?_, ?_, rfl, by simp, ?_, rfl, by omega⟩
      · clear h0 h1 h5 hk hh h6
        clear tm hp
        intro n2 tm hp nx ⟨i, j, k, out, x, hn2, h64, h63, h62, hk0, h10, hk, ho, hout, hh, hnx, hkj⟩
        subst hnx
        by_cases c2 : i < l.length + m.length + 1
        · obtain ⟨v, hv⟩ : ∃ v, c[i]? = some v := ⟨_, List.getElem?_eq_getElem (by omega)⟩
          have hv1 := hcb _ _ hv
          have hv2 := ic_get hv
          have e1 : IntKind.u8.wrap (v : Int) = ((UInt8.ofNat v).toNat : Int) := by rw [u8_in _ (by omega)]; simp; omega
          have e2 : IntKind.i64.wrap ((i : Int) + 1) = ((i + 1 : Nat) : Int) := by rw [i64_in _ (by omega)]; omega
          have f1 : ¬ (i + 1 ≤ i) := by omega
          have f2 : i + 1 ≤ 140737488355328 := by omega
          have f3 : ¬ (j = k + 1) := by omega
          simp only [↓R0, R1, simprocAttr, -Int.reduceAbs, h64, h63, h62, h10, hk0, hk, c2, hv2, e1, e2, f1, f2, f3, ho]
          refine ⟨n2 - 1, by omega, i + 1, j + 2, j, out ++ [UInt8.ofNat v], false, by omega, rfl, ?_, rfl, ?_, by simp [ho], ?_, ?_, rfl, by omega⟩
          · rw [if_neg (by omega)]
          · rw [if_pos rfl, bc_append]; rfl
          · rw [hout, List.take_add_one, hv]; simp
          · intro q hq
            simp only [if_neg (show ¬ N + (j + 1) = q by omega), if_neg (show ¬ N + (k + 1) = q by omega), if_neg (show ¬ N + j = q by omega)]
            exact hh q hq
        · have ei : i = l.length + m.length + 1 := by omega
          have so : out.length ≤ 1099511627776 := by omega
          rw [ei, ← hc, List.take_length] at hout
          subst ho
          simp only [↓R0, R1, simprocAttr, -Int.reduceAbs, h64, h63, h62, h10, hk, c2, List.drop_zero, bc_take_all, byteList_bc, so, spNorm]
          refine fin_t trivial ?_ hh
          simp only [↓R0, R1, simprocAttr, -Int.reduceAbs]
          rw [hout, vl_bytes c hcb, hval]
      · (first | (simp only [↓R0, R1, simprocAttr, -Int.reduceAbs]; done) | (simp only [↓R0, R1, simprocAttr, -Int.reduceAbs]; rfl) | rfl)
      · (first | (simp only [↓R0, R1, simprocAttr, -Int.reduceAbs]; done) | (simp only [↓R0, R1, simprocAttr, -Int.reduceAbs]; rfl) | rfl)
      · (first | (simp only [↓R0, R1, simprocAttr, -Int.reduceAbs]; done) | (simp only [↓R0, R1, simprocAttr, -Int.reduceAbs]; rfl) | rfl)
      · rw [h_get, if_neg (by omega)]; exact hk
      · (first | (simp only [↓R0, R1, simprocAttr, -Int.reduceAbs]; done) | (simp only [↓R0, R1, simprocAttr, -Int.reduceAbs]; rfl) | rfl)
      · (first | (simp only [↓R0, R1, simprocAttr, -Int.reduceAbs]; done) | (simp only [↓R0, R1, simprocAttr, -Int.reduceAbs]; rfl) | rfl)
      · intro q hq
        simp only [↓R0, R1, simprocAttr, -Int.reduceAbs, hget_new hq]
        exact hh q hq
  · (first | (simp only [↓R0, R1, simprocAttr, -Int.reduceAbs]; done) | (simp only [↓R0, R1, simprocAttr, -Int.reduceAbs]; rfl) | rfl)
  · (first | (simp only [↓R0, R1, simprocAttr, -Int.reduceAbs]; done) | (simp only [↓R0, R1, simprocAttr, -Int.reduceAbs]; rfl) | rfl)
  · (first | (simp only [↓R0, R1, simprocAttr, -Int.reduceAbs]; done) | (simp only [↓R0, R1, simprocAttr, -Int.reduceAbs]; rfl) | rfl)
  · (first | (simp only [↓R0, R1, simprocAttr, -Int.reduceAbs]; done) | (simp only [↓R0, R1, simprocAttr, -Int.reduceAbs]; rfl) | rfl)
  · (first | (simp only [↓R0, R1, simprocAttr, -Int.reduceAbs]; done) | (simp only [↓R0, R1, simprocAttr, -Int.reduceAbs]; rfl) | rfl)
  · intro j v hv
    rw [List.getElem?_replicate] at hv
    split at hv <;> simp at hv
    omega
  · rw [vl_zeros]; simp [nl]
  · intro q hq
    simp only [↓R0, R1, simprocAttr, -Int.reduceAbs, hget_new hq]
end Go.Eng
end
section
set_option linter.unusedVariables false
set_option linter.unusedSimpArgs false
set_option linter.unusedSectionVars false
set_option maxRecDepth 4000
namespace Go.Eng
open Go Go.Proofs Go.IntWalk
def spSmall : List Value → Option Value
  | [.string ⟨⟨l⟩⟩, .int .i64 n] => if l.length ≤ 137438953472 ∧ 0 ≤ n ∧ n ≤ 255 then some (.string ⟨⟨bl (nl l * n.toNat)⟩⟩) else none
  | _ => none
def c128 : ICode :=
  (.seq (.reg [qq 4 (.mv (.c e0))]) (.seq (.reg [qq 5 (.mv (.t 0)), qq 6 (.mv (.t 1)), qq 7 (.conv .u8 (.t 6)), qq 8 (.bslice 5 1 1 [(.int .u8 0)] [(0, 1, (.t 7))]), qq 9 (.b2s (.t 8)), qq 10 (.call 125 [(.t 5), (.t 9)]), qq 4 (.mv (.t 10))]) .ret))
theorem tr128 : trFun Tryz.prog 128 = some ⟨11, [.t 4], c128⟩ := by kernel_rfl
theorem ok_r1Small : SpecOK Tryz.prog 128 (flat spSmall) := by
  refine flat_run (env_cons ok_r1Mul (env_nil _)) mixed tr128 ?_
  intro args v h N hG
  unfold spSmall at hG
  split at hG
  case h_2 => cases hG
  rename_i l n
  split at hG
  case isFalse => cases hG
  rename_i hl
  cases hG
  refine ⟨rfl, by simp, ?_⟩
  have e1 : IntKind.u8.wrap n = ((UInt8.ofNat n.toNat).toNat : Int) := by rw [u8_in _ (by omega)]; simp; omega
  have e2 : byteList [Value.int .u8 ((UInt8.ofNat n.toNat).toNat : Int)] = some [UInt8.ofNat n.toNat] := byteList_bc [UInt8.ofNat n.toNat]
  have e3 : l.length + 1 ≤ 274877906944 := by omega
  simp only [c128, G0, Nat.reduceAdd]
  simp only [↓R0, R1, simprocAttr, -Int.reduceAbs, e1, e2, spMul, e3]
  refine fin_t trivial ?_ (fun k hk => by rw [hget_new hk])
  simp only [↓R0, R1, simprocAttr, -Int.reduceAbs]
  have t : (UInt8.ofNat n.toNat).toNat = n.toNat := by simp; omega
  simp only [nl, t, Nat.mul_zero, Nat.add_zero]
def spDiv : List Value → Option Value
  | [.string ⟨⟨l⟩⟩, .string ⟨⟨m⟩⟩] => if l.length ≤ 68719476736 ∧ m.length ≤ 68719476736 then
      (if nl m = 0 then some (.tuple ⟨[.string ⟨⟨[]⟩⟩, .string ⟨⟨[]⟩⟩, .bool false]⟩) else some (.tuple ⟨[.string ⟨⟨bl (nl l / nl m)⟩⟩, .string ⟨⟨bl (nl l % nl m)⟩⟩, .bool true]⟩)) else none
  | _ => none
theorem cmpN_le {a b : Nat} : (cmpN a b ≤ 0) = (a ≤ b) := by
  apply propext
  unfold cmpN
  split
  · simp; omega
  · split
    · simp; omega
    · simp; omega
theorem bc_set (l : List UInt8) (i : Nat) (b : UInt8) : (bc l).set i (.int .u8 b.toNat) = bc (l.set i b) := by simp [bc, List.map_set]
def c94 : ICode :=
  (.seq (.reg [qq 4 (.mv (.c e0)), qq 5 (.mv (.c e0)), qq 6 (.mv (.c (.bool false)))]) (.seq (.seq (.reg [qq 13 (.mv (.t 1)), qq 14 (.call 91 [(.t 13)]), qq 15 (.bin .eql (.t 14) (.c e0))]) (.cond (.t 15) (.seq (.reg [qq 4 (.mv (.c e0)), qq 5 (.mv (.c e0)), qq 6 (.mv (.c (.bool false)))]) .ret) .skip)) (.seq (.reg [qq 16 (.mv (.t 0)), qq 17 (.lens (.t 16)), qq 18 (.mkslice 5 1 1 [(.int .u8 0)] (.t 17) (.t 17)), qq 7 (.mv (.t 18))]) (.seq (.reg [qq 8 (.mv (.c e0))]) (.seq (.seq (.reg [qq 19 (.mv (.t 0)), qq 20 (.lens (.t 19)), qq 21 (.bin .sub (.t 20) (ci 1)), qq 9 (.mv (.t 21))]) (.block 0 (.loop (.seq (.seq (.reg [qq 22 (.mv (.t 9)), qq 23 (.bin .geq (.t 22) (ci 0))]) (.cond (.t 23) .skip (.exit 0))) (.seq (.block 1 (.seq (.reg [qq 26 (.mv (.t 0)), qq 27 (.mv (.t 9)), qq 28 (.mv (.t 9)), qq 29 (.bin .add (.t 28) (ci 1)), qq 30 (.slstr (.t 26) (some (.t 27)) (some (.t 29))), qq 31 (.mv (.t 8)), qq 32 (.bin .add (.t 30) (.t 31)), qq 33 (.call 91 [(.t 32)]), qq 8 (.mv (.t 33))]) (.seq (.reg [qq 10 (.mv (ci 0))]) (.seq (.reg [qq 11 (.mv (ci 255))]) (.seq (.block 2 (.loop (.seq (.seq (.reg [qq 34 (.mv (.t 10)), qq 35 (.mv (.t 11)), qq 36 (.bin .lss (.t 34) (.t 35))]) (.cond (.t 36) .skip (.exit 2))) (.block 3 (.seq (.reg [qq 37 (.mv (.t 10)), qq 38 (.mv (.t 11)), qq 39 (.bin .add (.t 37) (.t 38)), qq 40 (.bin .add (.t 39) (ci 1)), qq 41 (.bin .quo (.t 40) (ci 2)), qq 12 (.mv (.t 41))]) (.seq (.reg [qq 42 (.mv (.t 1)), qq 43 (.mv (.t 12)), qq 44 (.call 128 [(.t 42), (.t 43)]), qq 45 (.mv (.t 8)), qq 46 (.call 127 [(.t 44), (.t 45)]), qq 47 (.bin .leq (.t 46) (ci 0))]) (.cond (.t 47) (.reg [qq 48 (.mv (.t 12)), qq 10 (.mv (.t 48))]) (.reg [qq 49 (.mv (.t 12)), qq 50 (.bin .sub (.t 49) (ci 1)), qq 11 (.mv (.t 50))])))))))) (.seq (.reg [qq 52 (.mv (.t 8)), qq 53 (.mv (.t 1)), qq 54 (.mv (.t 10)), qq 55 (.call 128 [(.t 53), (.t 54)]), qq 56 (.call 129 [(.t 52), (.t 55)]), qq 51 (.mv (.t 56)), qq 57 (.ext (.t 51) 0), qq 58 (.ext (.t 51) 1), qq 8 (.mv (.t 57))]) (.reg [qq 59 (.mv (.t 7)), qq 60 (.mv (.t 9)), qq 61 (.mv (.t 10)), qq 62 (.conv .u8 (.t 61)), qq 63 (.ixsl 1 (.t 59) (.t 60)), qn (.store 1 (.t 63) (.t 62))]))))))) (.reg [qq 24 (.mv (.t 9)), qq 25 (.bin .sub (.t 24) (ci 1)), qq 9 (.mv (.t 25))])))))) (.seq (.reg [qq 64 (.mv (.t 7)), qq 65 (.b2s (.t 64)), qq 66 (.call 91 [(.t 65)]), qq 67 (.mv (.t 8)), qq 4 (.mv (.t 66)), qq 5 (.mv (.t 67)), qq 6 (.mv (.c (.bool true)))]) .ret))))))
theorem tr94 : trFun Tryz.prog 94 = some ⟨68, [.t 4, .t 5, .t 6], c94⟩ := by kernel_rfl
set_option maxHeartbeats 2000000 in
theorem ok_r1Div : SpecOK Tryz.prog 94 (flat spDiv) := by
  refine flat_run (env_cons ok_r1Norm (env_cons ok_r1Small (env_cons ok_r1Cmp (env_cons ok_r1Sub (env_nil _))))) mixed tr94 ?_
  intro args v h N hG
  unfold spDiv at hG
  split at hG
  case h_2 => cases hG
  rename_i l m
  split at hG
  case isFalse => cases hG
  rename_i hl
  obtain ⟨hl, hm⟩ := hl
  have sl : l.length ≤ 1099511627776 := by omega
  have sm : m.length ≤ 1099511627776 := by omega
  split at hG
  · rename_i h0
    cases hG
    refine ⟨rfl, by simp, ?_⟩
    simp only [c94, G0, Nat.reduceAdd]
    simp only [↓R0, R1, simprocAttr, -Int.reduceAbs, spNorm, sm, bl_eq_nil, h0]
    exact fin_3 trivial rfl rfl rfl (fun k hk => rfl)
  rename_i h0
  cases hG
  refine ⟨rfl, by simp, ?_⟩
  have e1 : (l.length : Int) ≤ 281474976710656 := by omega
  have e2 : (l.length : Int) ≤ 9223372036854775807 := by omega
  have e3 : IntKind.i64.wrap ((l.length : Int) - 1) = (l.length : Int) - 1 := by rw [i64_in _ (by omega)]
  have eL : (List.replicate l.length [Value.int IntKind.u8 0]).flatten = bc (List.replicate l.length 0) := by
    generalize l.length = L
    induction L with
    | zero => rfl
    | succ L ih => rw [List.replicate_succ, List.flatten_cons, ih]; rfl
  simp only [c94, G0, Nat.reduceAdd]
  simp only [↓R0, R1, simprocAttr, -Int.reduceAbs, spNorm, sm, bl_eq_nil, h0, e1, e2, e3, eL, Int.one_mul]
  clear eL e1 e2 e3
  have hB : 0 < nl m := by omega
  refine lp_parts (fun n tm hp nx => ∃ (R : Nat) (qs : List UInt8), n ≤ l.length ∧ tmget tm 0 = .string ⟨⟨l⟩⟩ ∧ tmget tm 1 = .string ⟨⟨m⟩⟩ ∧ tmget tm 9 = .int .i64 ((n : Int) - 1) ∧ tmget tm 8 = .string ⟨⟨bl R⟩⟩ ∧
      tmget tm 7 = .slice (some ⟨N + 0, 0, none⟩) l.length l.length ∧ hget hp (N + 0) = some ⟨5, 1, false, bc qs⟩ ∧ qs.length = l.length ∧ R < nl m ∧
      nl (l.drop n) = nl (qs.drop n) * nl m + R ∧ (∀ q, q < N → hget hp q = hget h q) ∧ nx = N + 1) ?_ l.length
    ⟨0, List.replicate l.length 0, by omega, ?_, ?_, ?_, ?_, ?_, ?_, by simp, hB, by simp [nl], ?_, rfl⟩
  · intro n tm hp nx ⟨R, qs, hn, t0, t1, t9, t8, t7, hk, hq, hR, hval, hh, hnx⟩
    subst hnx
    have hRm : (bl R).length ≤ m.length := by
      rw [bl_length_le]; exact Nat.lt_trans hR (nl_lt m)
    by_cases c1 : n = 0
    · subst c1
      have so : qs.length ≤ 1099511627776 := by omega
      rw [← hq] at t7
      simp only [↓R0, R1, simprocAttr, -Int.reduceAbs, t0, t1, t9, t8, t7, hk, List.drop_zero, bc_take_all, byteList_bc, so, spNorm]
      refine fin_3 trivial ?_ ?_ rfl hh
      · simp only [↓R0, R1, simprocAttr, -Int.reduceAbs]
        simp only [List.drop_zero] at hval
        rw [hval, Nat.add_comm, Nat.add_mul_div_right _ _ hB, Nat.div_eq_of_lt hR, Nat.zero_add]
      · simp only [↓R0, R1, simprocAttr, -Int.reduceAbs, t8]
        simp only [List.drop_zero] at hval
        rw [hval, Nat.add_comm, Nat.add_mul_mod_self_right, Nat.mod_eq_of_lt hR]
    · obtain ⟨n, rfl⟩ : ∃ n', n = n' + 1 := ⟨n - 1, by omega⟩
      have e0 : ((n + 1 : Nat) : Int) - 1 = (n : Int) := by omega
      have e1 : IntKind.i64.wrap ((n : Int) + 1) = ((n + 1 : Nat) : Int) := by rw [i64_in _ (by omega)]; omega
      have e2 : (l.take (n + 1)).drop n = [l[n]] := by rw [List.take_succ_eq_append_getElem (by omega), List.drop_append_of_le_length (by simp; omega)]; simp
      have e3 : 1 + (bl R).length ≤ 9223372036854775807 := by omega
      have e4 : (bl R).length + 1 ≤ 1099511627776 := by omega
      have e5 : n ≤ n + 1 := by omega
      have e6 : nl (l[n] :: bl R) = l[n].toNat + 256 * R := by rw [nl, nl_bl]
      simp only [↓R0, R1, simprocAttr, -Int.reduceAbs, t0, t1, t9, t8, t7, hk, e0, e1, e2, e3, e4, e5, e6, hn, spNorm]
      have hb := l[n].toNat_lt
      have hdrop : nl (l.drop n) = l[n].toNat + 256 * nl (l.drop (n + 1)) := by rw [List.drop_eq_getElem_cons (by omega)]; rfl
      generalize hR' : l[n].toNat + 256 * R = R' at *
      have hD : R' / nl m ≤ 255 := by
        have : R' < 256 * nl m := by omega
        have := (Nat.div_lt_iff_lt_mul hB).2 this
        omega
      generalize hDD : R' / nl m = D at *
      have hD1 : nl m * D ≤ R' := by rw [← hDD]; exact Nat.mul_div_le _ _
      have hD2 : R' < nl m * (D + 1) := by rw [← hDD]; have := Nat.lt_mul_div_succ R' hB; exact this
      have hRl : (bl R').length ≤ m.length + 1 := by
        rw [bl_length_le, Nat.pow_succ]
        have := nl_lt m
        omega
      have hsm : ∀ x, x ≤ 255 → (bl (nl m * x)).length ≤ m.length + 1 := by
        intro x hx
        rw [bl_length_le, Nat.pow_succ]
        have := nl_lt m
        calc nl m * x ≤ nl m * 255 := Nat.mul_le_mul_left _ hx
          _ < 256 ^ m.length * 256 := by omega
      have hm2 : m.length ≤ 137438953472 := by omega
      refine lp_parts (fun n2 tm hp nx => ∃ (lo hi : Nat), n2 = hi - lo ∧ tmget tm 0 = .string ⟨⟨l⟩⟩ ∧ tmget tm 1 = .string ⟨⟨m⟩⟩ ∧ tmget tm 9 = .int .i64 (n : Int) ∧ tmget tm 8 = .string ⟨⟨bl R'⟩⟩ ∧
        tmget tm 7 = .slice (some ⟨N + 0, 0, none⟩) l.length l.length ∧ tmget tm 10 = .int .i64 lo ∧ tmget tm 11 = .int .i64 hi ∧ hget hp (N + 0) = some ⟨5, 1, false, bc qs⟩ ∧
        lo ≤ D ∧ D ≤ hi ∧ hi ≤ 255 ∧ (∀ q, q < N → hget hp q = hget h q) ∧ nx = N + 1) ?_ 255
        ⟨0, 255, by omega, ?_, ?_, ?_, ?_, ?_, ?_, ?_, hk, by omega, hD, by omega, hh, rfl⟩
      · clear hk hh t0 t1 t9 t8 t7
        clear tm hp
        intro n2 tm hp nx ⟨lo, hi, hn2, t0, t1, t9, t8, t7, t10, t11, hk, hlo, hhi, hhi2, hh, hnx⟩
        subst hnx
        by_cases c2 : lo < hi
        · have g1 : IntKind.i64.wrap ((lo : Int) + (hi : Int)) = ((lo + hi : Nat) : Int) := by rw [i64_in _ (by omega)]; omega
          have g2 : IntKind.i64.wrap (((lo + hi : Nat) : Int) + 1) = ((lo + hi + 1 : Nat) : Int) := by rw [i64_in _ (by omega)]; omega
          have g3 : IntKind.i64.wrap (((lo + hi + 1 : Nat) : Int).tdiv 2) = (((lo + hi + 1) / 2 : Nat) : Int) := by rw [i64_quo _ _ (by omega)]; omega
          have hmid1 : lo < (lo + hi + 1) / 2 := by omega
          have hmid2 : (lo + hi + 1) / 2 ≤ hi := by omega
          generalize (lo + hi + 1) / 2 = mid at *
          have g4 : (mid : Int) ≤ 255 := by omega
          have g5 : (bl (nl m * mid)).length ≤ 1099511627776 := Nat.le_trans (hsm mid (by omega)) (by omega)
          have g6 : (bl R').length ≤ 1099511627776 := by omega
          have g7 : IntKind.i64.wrap ((mid : Int) - 1) = ((mid - 1 : Nat) : Int) := by rw [i64_in _ (by omega)]; omega
          simp only [↓R0, R1, simprocAttr, -Int.reduceAbs, t0, t1, t9, t8, t7, t10, t11, c2, g1, g2, g3, spSmall, hm2, g4, spCmp, g5, g6, nl_bl, cmpN_le]
          by_cases c3 : nl m * mid ≤ R'
          · simp only [↓R0, R1, simprocAttr, -Int.reduceAbs, t0, t1, t9, t8, t7, t10, t11, c3]
            refine ⟨_, ?_, mid, hi, rfl, rfl, rfl, hk, ?_, hhi, hhi2, hh⟩
            · omega
            · refine Nat.le_of_lt_succ (Nat.lt_of_mul_lt_mul_left (a := nl m) ?_)
              exact Nat.lt_of_le_of_lt c3 hD2
          · simp only [↓R0, R1, simprocAttr, -Int.reduceAbs, t0, t1, t9, t8, t7, t10, t11, c3, g7]
            refine ⟨_, ?_, lo, mid - 1, rfl, rfl, rfl, hk, hlo, ?_, by omega, hh⟩
            · omega
            · have : D < mid := Nat.lt_of_mul_lt_mul_left (a := nl m) (by omega)
              omega
        · have hD0 : lo = D := by omega
          subst hD0
          have g4 : (lo : Int) ≤ 255 := by omega
          have g5 : (bl (nl m * lo)).length ≤ 549755813888 := Nat.le_trans (hsm lo (by omega)) (by omega)
          have g6 : (bl R').length ≤ 549755813888 := by omega
          have g7 : ¬ R' < nl m * lo := by omega
          have g8 : IntKind.u8.wrap (lo : Int) = ((UInt8.ofNat lo).toNat : Int) := by rw [u8_in _ (by omega)]; simp; omega
          have g9 : (n : Int) < (l.length : Int) := by omega
          have g10 : n + 1 ≤ qs.length := by omega
          have g11 : IntKind.i64.wrap ((n : Int) - 1) = (n : Int) - 1 := by rw [i64_in _ (by omega)]
          have g12 : n < l.length := by omega
          simp only [↓R0, R1, simprocAttr, -Int.reduceAbs, t0, t1, t9, t8, t7, t10, t11, c2, spSmall, hm2, g4, spSub, g5, g6, nl_bl, g7, g8, g9, g10, g11, g12, hk, bc_set]
          refine ⟨n, by omega, R' - nl m * lo, qs.set n (UInt8.ofNat lo), by omega, rfl, rfl, rfl, by simp [hq], by rw [Nat.mul_add] at hD2; omega, ?_, ?_⟩
          · have ht : (UInt8.ofNat lo).toNat = lo := by simp; omega
            rw [hdrop, List.drop_eq_getElem_cons (l := qs.set n (UInt8.ofNat lo)) (i := n) (by rw [List.length_set]; omega), nl, List.getElem_set_self, ht, List.drop_set_of_lt (by omega), hval, Nat.add_mul, Nat.mul_comm lo, Nat.mul_assoc]
            omega
          · intro q hq
            rw [if_neg (by omega)]; exact hh q hq
      · (first | (simp only [↓R0, R1, simprocAttr, -Int.reduceAbs, t0]; done) | (simp only [↓R0, R1, simprocAttr, -Int.reduceAbs, t0]; rfl) | rfl)
      · (first | (simp only [↓R0, R1, simprocAttr, -Int.reduceAbs, t1]; done) | (simp only [↓R0, R1, simprocAttr, -Int.reduceAbs, t1]; rfl) | rfl)
      · (first | (simp only [↓R0, R1, simprocAttr, -Int.reduceAbs, t9, e0]; done) | (simp only [↓R0, R1, simprocAttr, -Int.reduceAbs, t9, e0]; rfl) | rfl)
      · (first | (simp only [↓R0, R1, simprocAttr, -Int.reduceAbs]; done) | (simp only [↓R0, R1, simprocAttr, -Int.reduceAbs]; rfl) | rfl)
      · (first | (simp only [↓R0, R1, simprocAttr, -Int.reduceAbs, t7]; done) | (simp only [↓R0, R1, simprocAttr, -Int.reduceAbs, t7]; rfl) | rfl)
      · (first | (simp only [↓R0, R1, simprocAttr, -Int.reduceAbs]; done) | (simp only [↓R0, R1, simprocAttr, -Int.reduceAbs]; rfl) | rfl)
      · (first | (simp only [↓R0, R1, simprocAttr, -Int.reduceAbs]; done) | (simp only [↓R0, R1, simprocAttr, -Int.reduceAbs]; rfl) | rfl)
  · (first | (simp only [↓R0, R1, simprocAttr, -Int.reduceAbs]; done) | (simp only [↓R0, R1, simprocAttr, -Int.reduceAbs]; rfl) | rfl)
  · (first | (simp only [↓R0, R1, simprocAttr, -Int.reduceAbs]; done) | (simp only [↓R0, R1, simprocAttr, -Int.reduceAbs]; rfl) | rfl)
  · (first | (simp only [↓R0, R1, simprocAttr, -Int.reduceAbs]; done) | (simp only [↓R0, R1, simprocAttr, -Int.reduceAbs]; rfl) | rfl)
  · (first | (simp only [↓R0, R1, simprocAttr, -Int.reduceAbs, bl_zero]; done) | (simp only [↓R0, R1, simprocAttr, -Int.reduceAbs, bl_zero]; rfl) | rfl)
  · (first | (simp only [↓R0, R1, simprocAttr, -Int.reduceAbs]; done) | (simp only [↓R0, R1, simprocAttr, -Int.reduceAbs]; rfl) | rfl)
  · (first | (simp only [↓R0, R1, simprocAttr, -Int.reduceAbs]; done) | (simp only [↓R0, R1, simprocAttr, -Int.reduceAbs]; rfl) | rfl)
  · intro q hq
    simp only [↓R0, R1, simprocAttr, -Int.reduceAbs, hget_new hq]
end Go.Eng
end
section
set_option linter.unusedVariables false
set_option linter.unusedSimpArgs false
set_option linter.unusedSectionVars false
set_option maxRecDepth 4000
namespace Go.Eng
open Go Go.Proofs Go.IntWalk
def spGcd : List Value → Option Value
  | [.string ⟨⟨l⟩⟩, .string ⟨⟨m⟩⟩] => if l.length ≤ 68719476736 ∧ m.length ≤ 68719476736 then some (.string ⟨⟨bl (Nat.gcd (nl l) (nl m))⟩⟩) else none
  | _ => none
def c93 : ICode :=
  (.seq (.reg [qq 4 (.mv (.c e0))]) (.seq (.reg [qq 10 (.mv (.t 0)), qq 11 (.call 91 [(.t 10)]), qq 12 (.mv (.t 1)), qq 13 (.call 91 [(.t 12)]), qq 5 (.mv (.t 11)), qq 6 (.mv (.t 13))]) (.seq (.block 0 (.loop (.seq (.seq (.reg [qq 14 (.mv (.t 6)), qq 15 (.bin .neq (.t 14) (.c e0))]) (.cond (.t 15) .skip (.exit 0))) (.block 1 (.seq (.reg [qq 17 (.mv (.t 5)), qq 18 (.mv (.t 6)), qq 19 (.call 94 [(.t 17), (.t 18)]), qq 16 (.mv (.t 19)), qq 20 (.ext (.t 16) 0), qq 21 (.ext (.t 16) 1), qq 22 (.ext (.t 16) 2), qq 7 (.mv (.t 20)), qq 8 (.mv (.t 21)), qq 9 (.mv (.t 22))]) (.seq (.reg [qq 23 (.mv (.t 6)), qq 5 (.mv (.t 23))]) (.reg [qq 24 (.mv (.t 8)), qq 6 (.mv (.t 24))]))))))) (.seq (.reg [qq 25 (.mv (.t 5)), qq 4 (.mv (.t 25))]) .ret))))
theorem tr93 : trFun Tryz.prog 93 = some ⟨26, [.t 4], c93⟩ := by kernel_rfl
theorem ok_r1Gcd : SpecOK Tryz.prog 93 (flat spGcd) := by
  refine flat_run (env_cons ok_r1Norm (env_cons ok_r1Div (env_nil _))) mixed tr93 ?_
  intro args v h N hG
  unfold spGcd at hG
  split at hG
  case h_2 => cases hG
  rename_i l m
  split at hG
  case isFalse => cases hG
  rename_i hl
  obtain ⟨hl, hm⟩ := hl
  have sl : l.length ≤ 1099511627776 := by omega
  have sm : m.length ≤ 1099511627776 := by omega
  cases hG
  refine ⟨rfl, by simp, ?_⟩
  simp only [c93, G0, Nat.reduceAdd]
  simp only [↓R0, R1, simprocAttr, -Int.reduceAbs, spNorm, sl, sm]
  have hX0 : (bl (nl l)).length ≤ 68719476736 := Nat.le_trans (bl_length_nl l) hl
  have hY0 : (bl (nl m)).length ≤ 68719476736 := Nat.le_trans (bl_length_nl m) hm
  refine lp_parts (fun n tm hp nx => ∃ (X : Nat), tmget tm 5 = .string ⟨⟨bl X⟩⟩ ∧ tmget tm 6 = .string ⟨⟨bl n⟩⟩ ∧ (bl X).length ≤ 68719476736 ∧ (bl n).length ≤ 68719476736 ∧
      Nat.gcd X n = Nat.gcd (nl l) (nl m) ∧ hp = h) ?_ (nl m) ⟨nl l, ?_, ?_, hX0, hY0, rfl, rfl⟩
  · intro Y tm hp nx ⟨X, t5, t6, hX, hY, hg, hh⟩
    subst hh
    by_cases c : Y = 0
    · subst c
      simp only [↓R0, R1, simprocAttr, -Int.reduceAbs, t5, t6, bl_zero]
      refine fin_t trivial ?_ (fun k hk => rfl)
      simp only [↓R0, R1, simprocAttr, -Int.reduceAbs, t5]
      rw [← hg, Nat.gcd_zero_right]
    · simp only [↓R0, R1, simprocAttr, -Int.reduceAbs, t5, t6, bl_eq_nil, c, spDiv, hX, hY, nl_bl]
      refine ⟨X % Y, Nat.mod_lt _ (by omega), Y, rfl, rfl, hY, ?_, ?_⟩
      · exact Nat.le_trans (bl_length_mono (Nat.le_of_lt (Nat.mod_lt _ (by omega)))) hY
      · rw [← hg, Nat.gcd_comm X Y, Nat.gcd_rec Y X, Nat.gcd_comm]
  · (first | (simp only [↓R0, R1, simprocAttr, -Int.reduceAbs]; done) | (simp only [↓R0, R1, simprocAttr, -Int.reduceAbs]; rfl) | rfl)
  · (first | (simp only [↓R0, R1, simprocAttr, -Int.reduceAbs]; done) | (simp only [↓R0, R1, simprocAttr, -Int.reduceAbs]; rfl) | rfl)
end Go.Eng
end
section
set_option linter.unusedVariables false
set_option linter.unusedSimpArgs false
set_option linter.unusedSectionVars false
set_option maxRecDepth 4000
namespace Go.Eng
open Go Go.Proofs Go.IntWalk
def spI2of : List Value → Option Value
  | [.bool s, .string ⟨⟨l⟩⟩] => if l.length ≤ 1099511627776 then some (.agg ⟨iE (sv s l)⟩) else none
  | _ => none
def c90 : ICode :=
  (.seq (.reg [qq 4 (.alloc 23 2 [(.bool false), e0])]) (.seq (.reg [qq 6 (.mv (.t 1)), qq 7 (.call 91 [(.t 6)]), qq 5 (.mv (.t 7))]) (.seq (.reg [qq 8 (.mv (.t 0)), qq 9 (.mv (.t 8)), ⟨(some 10), (some (9, true)), (.mv (.t 5))⟩, ⟨(some 11), (some (9, true)), (.bin .neq (.t 10) (.c e0))⟩, qq 12 (.pick (.t 9) (.t 11) (.c (.bool false))), qq 13 (.mv (.t 5)), qq 14 (.build [(.bool false), e0] [(0, 1, (.t 12)), (1, 1, (.t 13))]), qn (.store 2 (.t 4) (.t 14))]) .ret)))
theorem tr90 : trFun Tryz.prog 90 = some ⟨15, [.cell 4 true 2], c90⟩ := by kernel_rfl
theorem ok_r2of : SpecOK Tryz.prog 90 (flat spI2of) := by
  refine flat_run (env_cons ok_r1Norm (env_nil _)) mixed tr90 ?_
  intro args v h N hG
  unfold spI2of at hG
  split at hG
  case h_2 => cases hG
  rename_i s l
  split at hG
  case isFalse => cases hG
  rename_i hl
  cases hG
  refine ⟨rfl, by simp, ?_⟩
  rw [iE_sv]
  simp only [c90, G0, Nat.reduceAdd]
  simp only [↓R0, R1, simprocAttr, -Int.reduceAbs, spNorm, hl]
  refine gd_case (fun hb => ?_) (fun hb => ?_)
  · simp only [↓R0, R1, simprocAttr, -Int.reduceAbs, hb, Fin, isEnd, resL, res1]
    refine ⟨_, rfl, rfl, fun k hk => ?_⟩
    rw [if_neg (by omega), if_neg (by omega)]
  · simp only [↓R0, R1, simprocAttr, -Int.reduceAbs, hb, Fin, isEnd, resL, res1]
    refine ⟨_, rfl, rfl, fun k hk => ?_⟩
    rw [if_neg (by omega), if_neg (by omega)]
def spI2Norm : List Value → Option Value
  | [.agg ⟨[.bool s, .string ⟨⟨l⟩⟩]⟩] => if l.length ≤ 1099511627776 then some (.agg ⟨iE (sv s l)⟩) else none
  | _ => none
def c46 : ICode :=
  (.seq (.reg [qq 1 (.box 23 2 (.t 0)), qq 2 (.alloc 23 2 [(.bool false), e0])]) (.seq (.reg [qq 3 (.faddr 0 (.t 1)), qq 4 (.load false 1 (.t 3)), qq 5 (.faddr 1 (.t 1)), qq 6 (.load false 1 (.t 5)), qq 7 (.call 90 [(.t 4), (.t 6)]), qn (.store 2 (.t 2) (.t 7))]) .ret))
theorem tr46 : trFun Tryz.prog 46 = some ⟨8, [.cell 2 true 2], c46⟩ := by kernel_rfl
theorem ok_r2Norm : SpecOK Tryz.prog 46 (flat spI2Norm) := by
  refine flat_run (env_cons ok_r2of (env_nil _)) mixed tr46 ?_
  intro args v h N hG
  unfold spI2Norm at hG
  split at hG
  case h_2 => cases hG
  rename_i s l
  split at hG
  case isFalse => cases hG
  rename_i hl
  cases hG
  refine ⟨rfl, by simp, ?_⟩
  simp only [c46, G0, Nat.reduceAdd]
  simp only [↓R0, R1, simprocAttr, -Int.reduceAbs, spI2of, hl, iE, Fin, isEnd, resL, res1]
  refine ⟨_, rfl, rfl, fun k hk => ?_⟩
  simp only [if_neg (show ¬ N + 1 = k by omega), if_neg (show ¬ N + 0 = k by omega)]
def spI2Neg : List Value → Option Value
  | [.agg ⟨[.bool s, .string ⟨⟨l⟩⟩]⟩] => if l.length ≤ 1099511627776 then some (.agg ⟨iE (- sv s l)⟩) else none
  | _ => none
def c50 : ICode :=
  (.seq (.reg [qq 1 (.box 23 2 (.t 0)), qq 2 (.alloc 23 2 [(.bool false), e0])]) (.seq (.reg [qq 3 (.faddr 0 (.t 1)), qq 4 (.load false 1 (.t 3)), qq 5 (.un .not (.t 4)), qq 6 (.faddr 1 (.t 1)), qq 7 (.load false 1 (.t 6)), qq 8 (.call 90 [(.t 5), (.t 7)]), qn (.store 2 (.t 2) (.t 8))]) .ret))
theorem tr50 : trFun Tryz.prog 50 = some ⟨9, [.cell 2 true 2], c50⟩ := by kernel_rfl
theorem ok_r2Neg : SpecOK Tryz.prog 50 (flat spI2Neg) := by
  refine flat_run (env_cons ok_r2of (env_nil _)) mixed tr50 ?_
  intro args v h N hG
  unfold spI2Neg at hG
  split at hG
  case h_2 => cases hG
  rename_i s l
  split at hG
  case isFalse => cases hG
  rename_i hl
  cases hG
  refine ⟨rfl, by simp, ?_⟩
  rw [← sv_neg]
  simp only [c50, G0, Nat.reduceAdd]
  simp only [↓R0, R1, simprocAttr, -Int.reduceAbs, spI2of, hl, iE, Fin, isEnd, resL, res1]
  refine ⟨_, rfl, rfl, fun k hk => ?_⟩
  simp only [if_neg (show ¬ N + 1 = k by omega), if_neg (show ¬ N + 0 = k by omega)]
def spI2Sign : List Value → Option Value
  | [.agg ⟨[.bool s, .string ⟨⟨l⟩⟩]⟩] => if l.length ≤ 1099511627776 then some (.int .i64 (sv s l).sign) else none
  | _ => none
def c47 : ICode :=
  (.seq (.reg [qq 1 (.box 23 2 (.t 0)), qq 2 (.mv (ci 0))]) (.seq (.seq (.reg [qq 3 (.faddr 1 (.t 1)), qq 4 (.load false 1 (.t 3)), qq 5 (.call 91 [(.t 4)]), qq 6 (.bin .eql (.t 5) (.c e0))]) (.cond (.t 6) (.seq (.reg [qq 2 (.mv (ci 0))]) .ret) .skip)) (.seq (.seq (.reg [qq 7 (.faddr 0 (.t 1)), qq 8 (.load false 1 (.t 7))]) (.cond (.t 8) (.seq (.reg [qq 2 (.mv (ci (-1)))]) .ret) .skip)) (.seq (.reg [qq 2 (.mv (ci 1))]) .ret))))
theorem tr47 : trFun Tryz.prog 47 = some ⟨9, [.t 2], c47⟩ := by kernel_rfl
theorem ok_r2Sign : SpecOK Tryz.prog 47 (flat spI2Sign) := by
  refine flat_run (env_cons ok_r1Norm (env_nil _)) mixed tr47 ?_
  intro args v h N hG
  unfold spI2Sign at hG
  split at hG
  case h_2 => cases hG
  rename_i s l
  split at hG
  case isFalse => cases hG
  rename_i hl
  cases hG
  refine ⟨rfl, by simp, ?_⟩
  rw [sgn_sv]
  simp only [c47, G0, Nat.reduceAdd]
  simp only [↓R0, R1, simprocAttr, -Int.reduceAbs, spNorm, hl, bl_eq_nil]
  refine cd_case (fun hb => ?_) (fun hb => ?_)
  · have hb' : nl l = 0 := by simpa using hb
    rw [if_pos hb']
    simp only [↓R0, R1, simprocAttr, -Int.reduceAbs]
    exact fin_t trivial rfl (fun k hk => by rw [hget_new hk])
  · have hb' : ¬ nl l = 0 := by simpa using hb
    rw [if_neg hb']
    simp only [↓R0, R1, simprocAttr, -Int.reduceAbs]
    cases s
    · simp only [↓R0, R1, simprocAttr, -Int.reduceAbs]
      exact fin_t trivial rfl (fun k hk => by rw [hget_new hk])
    · simp only [↓R0, R1, simprocAttr, -Int.reduceAbs]
      exact fin_t trivial rfl (fun k hk => by rw [hget_new hk])
end Go.Eng
end
section
set_option linter.unusedVariables false
set_option linter.unusedSimpArgs false
set_option linter.unusedSectionVars false
set_option maxRecDepth 4000
namespace Go.Eng
open Go Go.Proofs Go.IntWalk
def spI2From : List Value → Option Value
  | [.int .i64 n] => if -9223372036854775808 ≤ n ∧ n ≤ 9223372036854775807 then some (.agg ⟨iE n⟩) else none
  | _ => none
def c48 : ICode :=
  (.seq (.reg [qq 2 (.alloc 23 2 [(.bool false), e0])]) (.seq (.seq (.reg [qq 3 (.mv (.t 0)), qq 4 (.bin .lss (.t 3) (ci 0))]) (.cond (.t 4) (.seq (.reg [qq 5 (.mv (.t 0)), qq 6 (.bin .add (.t 5) (ci 1)), qq 7 (.un .neg (.t 6)), qq 8 (.conv .u64 (.t 7)), qq 9 (.bin .add (.t 8) (.c (.int .u64 1))), qq 10 (.call 92 [(.t 9)]), qq 11 (.call 90 [(.c (.bool true)), (.t 10)]), qn (.store 2 (.t 2) (.t 11))]) .ret) .skip)) (.seq (.reg [qq 12 (.mv (.t 0)), qq 13 (.conv .u64 (.t 12)), qq 14 (.call 92 [(.t 13)]), qq 15 (.call 90 [(.c (.bool false)), (.t 14)]), qn (.store 2 (.t 2) (.t 15))]) .ret)))
theorem tr48 : trFun Tryz.prog 48 = some ⟨16, [.cell 2 true 2], c48⟩ := by kernel_rfl
theorem ok_r2From : SpecOK Tryz.prog 48 (flat spI2From) := by
  refine flat_run (env_cons ok_r2of (env_cons ok_r1Of (env_nil _))) mixed tr48 ?_
  intro args v h N hG
  unfold spI2From at hG
  split at hG
  case h_2 => cases hG
  rename_i n
  split at hG
  case isFalse => cases hG
  rename_i hl
  cases hG
  refine ⟨rfl, by simp, ?_⟩
  have hlen : (bl n.natAbs).length ≤ 1099511627776 := Nat.le_trans (bl_length_le (k := 8).2 (by omega)) (by omega)
  simp only [c48, G0, Nat.reduceAdd]
  simp only [↓R0, R1, simprocAttr, -Int.reduceAbs]
  refine cd_case (fun hb => ?_) (fun hb => ?_)
  · have hn : n < 0 := by simpa using hb
    have hz : sv true (bl n.natAbs) = n := by rw [sv_true, nl_bl]; omega
    have e1 : IntKind.i64.wrap (n + 1) = n + 1 := by rw [i64_in _ (by omega)]
    have e2 : IntKind.i64.wrap (0 - (n + 1)) = (n.natAbs : Int) - 1 := by rw [i64_in _ (by omega)]; omega
    have e3 : IntKind.u64.wrap ((n.natAbs : Int) - 1) = (n.natAbs : Int) - 1 := by rw [u64_in _ (by omega)]
    have e4 : IntKind.u64.wrap ((n.natAbs : Int) - 1 + 1) = (n.natAbs : Int) := by rw [u64_in _ (by omega)]; omega
    have e5 : (n.natAbs : Int) ≤ 18446744073709551615 := by omega
    simp only [↓R0, R1, simprocAttr, -Int.reduceAbs, e1, e2, e3, e4, e5, spOf, spI2of, hlen, iE, hz, Fin, isEnd, resL, res1]
    refine ⟨_, rfl, ?_, fun k hk => ?_⟩
    · rfl
    · rw [if_neg (by omega), if_neg (by omega)]
  · have hn : 0 ≤ n := by simpa using hb
    have hz : sv false (bl n.natAbs) = n := by rw [sv_false, nl_bl]; omega
    have e3 : IntKind.u64.wrap n = (n.natAbs : Int) := by rw [u64_in _ (by omega)]; omega
    have e5 : (n.natAbs : Int) ≤ 18446744073709551615 := by omega
    simp only [↓R0, R1, simprocAttr, -Int.reduceAbs, e3, e5, spOf, spI2of, hlen, iE, hz, Fin, isEnd, resL, res1]
    refine ⟨_, rfl, ?_, fun k hk => ?_⟩
    · rfl
    · rw [if_neg (by omega), if_neg (by omega)]
def spI2Add : List Value → Option Value
  | [.agg ⟨[.bool s, .string ⟨⟨l⟩⟩]⟩, .agg ⟨[.bool t, .string ⟨⟨m⟩⟩]⟩] => if l.length ≤ 549755813888 ∧ m.length ≤ 549755813888 then some (.agg ⟨iE (sv s l + sv t m)⟩) else none
  | _ => none
def c95 : ICode :=
  (.seq (.reg [qq 2 (.box 23 2 (.t 0)), qq 3 (.box 23 2 (.t 1)), qq 4 (.alloc 23 2 [(.bool false), e0])]) (.seq (.seq (.reg [qq 7 (.faddr 0 (.t 2)), qq 8 (.load false 1 (.t 7)), qq 9 (.faddr 0 (.t 3)), qq 10 (.load false 1 (.t 9)), qq 11 (.eqb false (.t 8) (.t 10))]) (.cond (.t 11) (.seq (.dreg [qu 12 (.faddr 0 (.t 2)), qu 13 (.load false 1 (.t 12)), qu 14 (.faddr 1 (.t 2)), qu 15 (.load false 1 (.t 14)), qu 16 (.faddr 1 (.t 3)), qu 17 (.load false 1 (.t 16)), qu 18 (.call 130 [(.t 15), (.t 17)]), qu 19 (.call 90 [(.t 13), (.t 18)]), qm (.store 2 (.t 4) (.t 19))]) .ret) .skip)) (.seq (.reg [qq 21 (.faddr 1 (.t 2)), qq 22 (.load false 1 (.t 21)), qq 23 (.faddr 1 (.t 3)), qq 24 (.load false 1 (.t 23)), qq 25 (.call 129 [(.t 22), (.t 24)]), qq 20 (.mv (.t 25)), qq 26 (.ext (.t 20) 0), qq 27 (.ext (.t 20) 1), qq 5 (.mv (.t 26)), qq 6 (.mv (.t 27))]) (.seq (.seq (.reg [qq 28 (.mv (.t 6))]) (.cond (.t 28) (.seq (.reg [qq 29 (.faddr 0 (.t 2)), qq 30 (.load false 1 (.t 29)), qq 31 (.mv (.t 5)), qq 32 (.call 90 [(.t 30), (.t 31)]), qn (.store 2 (.t 4) (.t 32))]) .ret) .skip)) (.seq (.reg [qq 34 (.faddr 1 (.t 3)), qq 35 (.load false 1 (.t 34)), qq 36 (.faddr 1 (.t 2)), qq 37 (.load false 1 (.t 36)), qq 38 (.call 129 [(.t 35), (.t 37)]), qq 33 (.mv (.t 38)), qq 39 (.ext (.t 33) 0), qq 40 (.ext (.t 33) 1), qq 5 (.mv (.t 39))]) (.seq (.reg [qq 41 (.faddr 0 (.t 3)), qq 42 (.load false 1 (.t 41)), qq 43 (.mv (.t 5)), qq 44 (.call 90 [(.t 42), (.t 43)]), qn (.store 2 (.t 4) (.t 44))]) .ret))))))
theorem tr95 : trFun Tryz.prog 95 = some ⟨45, [.cell 4 true 2], c95⟩ := by kernel_rfl
theorem ok_r2Add : SpecOK Tryz.prog 95 (flat spI2Add) := by
  refine flat_run (env_cons ok_r2of (env_cons ok_r1Add (env_cons ok_r1Sub (env_nil _)))) mixed tr95 ?_
  intro args v h N hG
  unfold spI2Add at hG
  split at hG
  case h_2 => cases hG
  rename_i s l t m
  split at hG
  case isFalse => cases hG
  rename_i hl
  obtain ⟨hl, hm⟩ := hl
  cases hG
  refine ⟨rfl, by simp, ?_⟩
  have la := bl_length_nl l
  have lb := bl_length_nl m
  have ls : (bl (nl l + nl m)).length ≤ 1099511627776 := Nat.le_trans (bl_length_add (k := max l.length m.length) (by omega) (by omega)) (by omega)
  have ld1 : (bl (nl l - nl m)).length ≤ 1099511627776 := Nat.le_trans (bl_length_mono (Nat.sub_le _ _)) (by omega)
  have ld2 : (bl (nl m - nl l)).length ≤ 1099511627776 := Nat.le_trans (bl_length_mono (Nat.sub_le _ _)) (by omega)
  by_cases hst : s = t
  · subst hst
    have hz : sv s l + sv s m = sv s (bl (nl l + nl m)) := by rw [sv_bl]; cases s <;> simp [sv] <;> omega
    rw [hz]
    simp only [c95, G0, Nat.reduceAdd]
    simp only [↓R0, R1, simprocAttr, -Int.reduceAbs, spAdd, spI2of, hl, hm, ls, iE, Fin, isEnd, resL, res1]
    refine ⟨_, rfl, rfl, fun k hk => ?_⟩
    simp only [if_neg (show ¬ N + 2 = k by omega), if_neg (show ¬ N + 1 = k by omega), if_neg (show ¬ N + 0 = k by omega)]
  · by_cases hlt : nl l < nl m
    · have hlt2 : ¬ nl m < nl l := by omega
      have hz : sv s l + sv t m = sv t (bl (nl m - nl l)) := by rw [sv_bl]; cases s <;> cases t <;> simp [sv] at hst ⊢ <;> omega
      rw [hz]
      simp only [c95, G0, Nat.reduceAdd]
      simp only [↓R0, R1, simprocAttr, -Int.reduceAbs, hst, spSub, spI2of, hl, hm, hlt, hlt2, ld2, iE, Fin, isEnd, resL, res1]
      refine ⟨_, rfl, rfl, fun k hk => ?_⟩
      simp only [if_neg (show ¬ N + 2 = k by omega), if_neg (show ¬ N + 1 = k by omega), if_neg (show ¬ N + 0 = k by omega)]
    · have hz : sv s l + sv t m = sv s (bl (nl l - nl m)) := by rw [sv_bl]; cases s <;> cases t <;> simp [sv] at hst ⊢ <;> omega
      rw [hz]
      simp only [c95, G0, Nat.reduceAdd]
      simp only [↓R0, R1, simprocAttr, -Int.reduceAbs, hst, spSub, spI2of, hl, hm, hlt, ld1, iE, Fin, isEnd, resL, res1]
      refine ⟨_, rfl, rfl, fun k hk => ?_⟩
      simp only [if_neg (show ¬ N + 2 = k by omega), if_neg (show ¬ N + 1 = k by omega), if_neg (show ¬ N + 0 = k by omega)]
end Go.Eng
end
section
set_option linter.unusedVariables false
set_option linter.unusedSimpArgs false
set_option linter.unusedSectionVars false
set_option maxRecDepth 4000
namespace Go.Eng
open Go Go.Proofs Go.IntWalk
def spI2Sub : List Value → Option Value
  | [.agg ⟨[.bool s, .string ⟨⟨l⟩⟩]⟩, .agg ⟨[.bool t, .string ⟨⟨m⟩⟩]⟩] => if l.length ≤ 549755813888 ∧ m.length ≤ 549755813888 then some (.agg ⟨iE (sv s l - sv t m)⟩) else none
  | _ => none
def c96 : ICode :=
  (.seq (.reg [qq 2 (.box 23 2 (.t 0)), qq 3 (.box 23 2 (.t 1)), qq 4 (.alloc 23 2 [(.bool false), e0])]) (.seq (.dreg [qu 5 (.load true 2 (.t 2)), qu 6 (.load true 2 (.t 3)), qu 7 (.call 50 [(.t 6)]), qu 8 (.call 95 [(.t 5), (.t 7)]), qm (.store 2 (.t 4) (.t 8))]) .ret))
theorem tr96 : trFun Tryz.prog 96 = some ⟨9, [.cell 4 true 2], c96⟩ := by kernel_rfl
theorem ok_r2Sub : SpecOK Tryz.prog 96 (flat spI2Sub) := by
  refine flat_run (env_cons ok_r2Neg (env_cons ok_r2Add (env_nil _))) mixed tr96 ?_
  intro args v h N hG
  unfold spI2Sub at hG
  split at hG
  case h_2 => cases hG
  rename_i s l t m
  split at hG
  case isFalse => cases hG
  rename_i hl
  obtain ⟨hl, hm⟩ := hl
  cases hG
  refine ⟨rfl, by simp, ?_⟩
  have hm2 : m.length ≤ 1099511627776 := by omega
  have hn : (bl (-sv t m).natAbs).length ≤ 549755813888 := by rw [Int.natAbs_neg, sv_natAbs]; exact Nat.le_trans (bl_length_nl m) hm
  rw [Int.sub_eq_add_neg]
  simp only [c96, G0, Nat.reduceAdd]
  simp only [↓R0, R1, simprocAttr, -Int.reduceAbs, spI2Neg, spI2Add, iE, hl, hm2, hn, Fin, isEnd, resL, res1]
  refine ⟨_, rfl, rfl, fun k hk => ?_⟩
  simp only [if_neg (show ¬ N + 2 = k by omega), if_neg (show ¬ N + 1 = k by omega), if_neg (show ¬ N + 0 = k by omega)]
theorem sv_mul (s t : Bool) (l m : List UInt8) : sv (decide (s ≠ t)) (bl (nl l * nl m)) = sv s l * sv t m := by
  rw [sv_bl]
  cases s <;> cases t <;> simp [sv, Int.neg_mul, Int.mul_neg]
end Go.Eng
end
section
set_option linter.unusedVariables false
set_option linter.unusedSimpArgs false
set_option linter.unusedSectionVars false
set_option maxRecDepth 4000
namespace Go.Eng
open Go Go.Proofs Go.IntWalk
def spI2Div : List Value → Option Value
  | [.agg ⟨[.bool s, .string ⟨⟨l⟩⟩]⟩, .agg ⟨[.bool t, .string ⟨⟨m⟩⟩]⟩] => if l.length ≤ 68719476736 ∧ m.length ≤ 68719476736 then
      (if nl m = 0 then some (.tuple ⟨[.agg ⟨[.bool false, .string ⟨⟨[]⟩⟩]⟩, .agg ⟨[.bool false, .string ⟨⟨[]⟩⟩]⟩, .bool false]⟩) else
        some (.tuple ⟨[.agg ⟨iE (sv s l / sv t m)⟩, .agg ⟨iE (sv s l % sv t m)⟩, .bool true]⟩)) else none
  | _ => none
def c51 : ICode :=
  (.seq (.reg [qq 2 (.box 23 2 (.t 0)), qq 3 (.box 23 2 (.t 1)), qq 4 (.alloc 23 2 [(.bool false), e0]), qq 5 (.alloc 23 2 [(.bool false), e0]), qq 6 (.mv (.c (.bool false)))]) (.seq (.reg [qq 13 (.faddr 1 (.t 2)), qq 14 (.load false 1 (.t 13)), qq 15 (.faddr 1 (.t 3)), qq 16 (.load false 1 (.t 15)), qq 17 (.call 94 [(.t 14), (.t 16)]), qq 12 (.mv (.t 17)), qq 18 (.ext (.t 12) 0), qq 19 (.ext (.t 12) 1), qq 20 (.ext (.t 12) 2), qq 7 (.mv (.t 18)), qq 8 (.mv (.t 19)), qq 9 (.mv (.t 20))]) (.seq (.seq (.reg [qq 21 (.mv (.t 9)), qq 22 (.un .not (.t 21))]) (.cond (.t 22) (.seq (.reg [qq 23 (.build [(.bool false), e0] []), qq 24 (.build [(.bool false), e0] []), qn (.store 2 (.t 4) (.t 23)), qn (.store 2 (.t 5) (.t 24)), qq 6 (.mv (.c (.bool false)))]) .ret) .skip)) (.seq (.reg [qq 25 (.faddr 0 (.t 2)), qq 26 (.load false 1 (.t 25)), qq 27 (.mv (.t 8)), qq 28 (.call 90 [(.t 26), (.t 27)]), qq 10 (.alloc 23 2 [(.bool false), e0]), qn (.store 2 (.t 10) (.t 28))]) (.seq (.reg [qq 29 (.faddr 0 (.t 2)), qq 30 (.load false 1 (.t 29)), qq 31 (.faddr 0 (.t 3)), qq 32 (.load false 1 (.t 31)), qq 33 (.eqb true (.t 30) (.t 32)), qq 34 (.mv (.t 7)), qq 35 (.call 90 [(.t 33), (.t 34)]), qq 11 (.alloc 23 2 [(.bool false), e0]), qn (.store 2 (.t 11) (.t 35))]) (.seq (.seq (.reg [qq 36 (.load true 2 (.t 10)), qq 37 (.call 47 [(.t 36)]), qq 38 (.bin .lss (.t 37) (ci 0))]) (.cond (.t 38) (.seq (.dreg [qu 39 (.load true 2 (.t 10)), qu 40 (.faddr 1 (.t 3)), qu 41 (.load false 1 (.t 40)), qu 42 (.call 90 [(.c (.bool false)), (.t 41)]), qu 43 (.call 95 [(.t 39), (.t 42)]), qm (.store 2 (.t 10) (.t 43))]) (.seq (.reg [qq 44 (.load true 2 (.t 3)), qq 45 (.call 47 [(.t 44)]), qq 46 (.bin .gtr (.t 45) (ci 0))]) (.cond (.t 46) (.dreg [qu 47 (.load true 2 (.t 11)), qu 48 (.call 48 [(ci 1)]), qu 49 (.call 96 [(.t 47), (.t 48)]), qm (.store 2 (.t 11) (.t 49))]) (.dreg [qu 50 (.load true 2 (.t 11)), qu 51 (.call 48 [(ci 1)]), qu 52 (.call 95 [(.t 50), (.t 51)]), qm (.store 2 (.t 11) (.t 52))])))) .skip)) (.seq (.dreg [qu 53 (.load true 2 (.t 11)), qu 54 (.load true 2 (.t 10)), ⟨none, none, [1001], (.store 2 (.t 4) (.t 53))⟩, qm (.store 2 (.t 5) (.t 54)), qu 6 (.mv (.c (.bool true)))]) .ret)))))))
theorem tr51 : trFun Tryz.prog 51 = some ⟨55, [.cell 4 true 2, .cell 5 true 2, .t 6], c51⟩ := by kernel_rfl
theorem sv_div {s t : Bool} {l m : List UInt8} (hm : nl m ≠ 0) :
    (s = false ∨ nl l % nl m = 0 → sv s l / sv t m = sv (decide (s ≠ t)) (bl (nl l / nl m)) ∧ sv s l % sv t m = sv s (bl (nl l % nl m))) ∧
    (s = true → nl l % nl m ≠ 0 → sv s l % sv t m = sv s (bl (nl l % nl m)) + sv false (bl (nl m)) ∧
      sv s l / sv t m = if t then sv (decide (s ≠ t)) (bl (nl l / nl m)) + 1 else sv (decide (s ≠ t)) (bl (nl l / nl m)) - 1) := by
  have hd := Nat.div_add_mod (nl l) (nl m)
  have hr := Nat.mod_lt (nl l) (Nat.pos_of_ne_zero hm)
  simp only [sv_bl]
  generalize nl l / nl m = q at *
  generalize nl l % nl m = r at *
  generalize hL : nl l = L at *
  generalize hM : nl m = M at *
  have hdi : (M : Int) * (q : Int) + (r : Int) = (L : Int) := by rw [← hd]; simp
  have pos : ∀ A Q R : Int, R + (M : Int) * Q = A → 0 ≤ R → R < M → A / (M : Int) = Q ∧ A % (M : Int) = R := fun A Q R h1 h2 h3 => (Int.ediv_emod_unique (by omega)).2 ⟨h1, h2, h3⟩
  have neg : ∀ A Q R : Int, R + -(M : Int) * Q = A → 0 ≤ R → R < M → A / -(M : Int) = Q ∧ A % -(M : Int) = R := by
    intro A Q R h1 h2 h3
    have := pos A (-Q) R (by rw [Int.mul_neg, ← Int.neg_mul]; exact h1) h2 h3
    rw [Int.ediv_neg, Int.emod_neg, this.1, this.2]
    simp
  have e1 : (M : Int) * (-(q : Int)) = -((M : Int) * (q : Int)) := by rw [Int.mul_neg]
  have e2 : -(M : Int) * (q : Int) = -((M : Int) * (q : Int)) := by rw [Int.neg_mul]
  have e3 : -(M : Int) * (-(q : Int)) = ((M : Int) * (q : Int)) := by rw [Int.neg_mul, Int.mul_neg]; simp
  constructor
  · intro h
    cases s <;> cases t <;> simp only [sv, hL, hM, ne_eq, reduceCtorEq, not_true_eq_false, not_false_eq_true, decide_true, decide_false, if_true, if_false, Bool.false_eq_true]
    · exact pos _ _ _ (by omega) (by omega) (by omega)
    · exact neg _ _ _ (by omega) (by omega) (by omega)
    · have : r = 0 := by simpa using h
      exact pos _ _ _ (by omega) (by omega) (by omega)
    · have : r = 0 := by simpa using h
      exact neg _ _ _ (by omega) (by omega) (by omega)
  · intro hs h
    subst hs
    cases t <;> simp only [sv, hL, hM, ne_eq, reduceCtorEq, not_true_eq_false, not_false_eq_true, decide_true, decide_false, if_true, if_false, Bool.false_eq_true]
    · have := pos (-(L : Int)) (-(q : Int) - 1) (-(r : Int) + M) (by rw [Int.mul_sub, e1]; omega) (by omega) (by omega)
      exact ⟨this.2, this.1⟩
    · have := neg (-(L : Int)) ((q : Int) + 1) (-(r : Int) + M) (by rw [Int.mul_add, e2]; omega) (by omega) (by omega)
      exact ⟨this.2, this.1⟩
theorem ok_r2Div : SpecOK Tryz.prog 51 (flat spI2Div) := by
  refine flat_run (env_cons ok_r2of (env_cons ok_r1Div (env_cons ok_r2Sign (env_cons ok_r2Add (env_cons ok_r2Sub (env_cons ok_r2From (env_nil _))))))) mixed tr51 ?_
  intro args v h N hG
  unfold spI2Div at hG
  split at hG
  case h_2 => cases hG
  rename_i s l t m
  split at hG
  case isFalse => cases hG
  rename_i hl
  obtain ⟨hl, hm⟩ := hl
  split at hG
  · rename_i h0
    cases hG
    refine ⟨rfl, by simp, ?_⟩
    simp only [c51, G0, Nat.reduceAdd]
    simp only [↓R0, R1, simprocAttr, -Int.reduceAbs, spDiv, hl, hm, h0, Bool.not_false, Fin, isEnd, resL, res1]
    refine ⟨_, rfl, rfl, fun k hk => ?_⟩
    simp only [if_neg (show ¬ N + 3 = k by omega), if_neg (show ¬ N + 2 = k by omega), if_neg (show ¬ N + 1 = k by omega), if_neg (show ¬ N + 0 = k by omega)]
  rename_i h0
  cases hG
  refine ⟨rfl, by simp, ?_⟩
  have la := bl_length_nl l
  have lb := bl_length_nl m
  have q1 : (bl (nl l / nl m)).length ≤ 68719476736 := Nat.le_trans (bl_length_mono (Nat.div_le_self _ _)) (by omega)
  have r1 : (bl (nl l % nl m)).length ≤ 68719476736 := Nat.le_trans (bl_length_mono (Nat.mod_le _ _)) (by omega)
  have q2 : (bl (nl l / nl m)).length ≤ 1099511627776 := by omega
  have r2 : (bl (nl l % nl m)).length ≤ 1099511627776 := by omega
  have m2 : m.length ≤ 1099511627776 := by omega
  have X1 : (bl (sv s (bl (nl l % nl m))).natAbs).length ≤ 1099511627776 := by rw [sv_natAbs, nl_bl]; omega
  have X2 : (bl (sv s (bl (nl l % nl m))).natAbs).length ≤ 549755813888 := by rw [sv_natAbs, nl_bl]; omega
  have M2 : (bl (sv false m).natAbs).length ≤ 549755813888 := by rw [sv_natAbs]; omega
  have Y2 : (bl (sv (decide (s ≠ t)) (bl (nl l / nl m))).natAbs).length ≤ 549755813888 := by rw [sv_natAbs, nl_bl]; omega
  simp only [ne_eq] at Y2
  have o1 : sv false (bl (Int.natAbs 1)) = 1 := by rw [sv_false, nl_bl]; rfl
  have o2 : (bl (Int.natAbs 1)).length ≤ 549755813888 := Nat.le_trans (bl_length_le (k := 1).2 (by decide)) (by omega)
  obtain ⟨d1, d2⟩ := sv_div (s := s) (t := t) (l := l) (m := m) h0
  simp only [ne_eq] at d1 d2
  by_cases hc : s = false ∨ nl l % nl m = 0
  · have hs : ¬ (sv s (bl (nl l % nl m))).sign < 0 := by
      rw [sgn_sv, nl_bl]
      rcases hc with hc | hc
      · subst hc; split <;> simp
      · rw [if_pos hc]; simp
    obtain ⟨d3, d4⟩ := d1 hc
    rw [d3, d4]
    simp only [c51, G0, Nat.reduceAdd]
    simp only [↓R0, R1, simprocAttr, -Int.reduceAbs, spDiv, spI2of, spI2Sign, iE, hl, hm, h0, q2, r2, X1, hs, Bool.not_true, Fin, isEnd, resL, res1]
    refine ⟨_, rfl, rfl, fun k hk => ?_⟩
    simp only [if_neg (show ¬ N + 5 = k by omega), if_neg (show ¬ N + 4 = k by omega), if_neg (show ¬ N + 3 = k by omega), if_neg (show ¬ N + 2 = k by omega), if_neg (show ¬ N + 1 = k by omega), if_neg (show ¬ N + 0 = k by omega)]
  · have hs1 : s = true := by
      cases s
      · simp at hc
      · rfl
    have hr0 : nl l % nl m ≠ 0 := fun e => hc (.inr e)
    have hs : (sv s (bl (nl l % nl m))).sign < 0 := by
      rw [sgn_sv, nl_bl, if_neg hr0, hs1]; simp
    obtain ⟨d3, d4⟩ := d2 hs1 hr0
    have hfm : sv false (bl (nl m)) = sv false m := by rw [sv_false, nl_bl]; rfl
    rw [d3, d4, hfm]
    have ht : (sv t m).sign > 0 ↔ t = false := by
      rw [sgn_sv, if_neg h0]
      cases t <;> simp
    cases t
    · have ht' : (sv false m).sign > 0 := ht.2 rfl
      simp only [c51, G0, Nat.reduceAdd]
      simp only [↓R0, R1, simprocAttr, -Int.reduceAbs, spDiv, spI2of, spI2Sign, spI2Add, spI2From, spI2Sub, iE, hl, hm, h0, q2, r2, m2, X1, X2, M2, Y2, o1, o2, hs, ht', Bool.not_true, Fin, isEnd, resL, res1]
      refine ⟨_, rfl, rfl, fun k hk => ?_⟩
      simp only [if_neg (show ¬ N + 5 = k by omega), if_neg (show ¬ N + 4 = k by omega), if_neg (show ¬ N + 3 = k by omega), if_neg (show ¬ N + 2 = k by omega), if_neg (show ¬ N + 1 = k by omega), if_neg (show ¬ N + 0 = k by omega)]
    · have ht' : ¬ (sv true m).sign > 0 := fun e => by have := ht.1 e; cases this
      simp only [c51, G0, Nat.reduceAdd]
      simp only [↓R0, R1, simprocAttr, -Int.reduceAbs, spDiv, spI2of, spI2Sign, spI2Add, spI2From, iE, hl, hm, h0, q2, r2, m2, X1, X2, M2, Y2, o1, o2, hs, ht', Bool.not_true, Fin, isEnd, resL, res1]
      refine ⟨_, rfl, rfl, fun k hk => ?_⟩
      simp only [if_neg (show ¬ N + 5 = k by omega), if_neg (show ¬ N + 4 = k by omega), if_neg (show ¬ N + 3 = k by omega), if_neg (show ¬ N + 2 = k by omega), if_neg (show ¬ N + 1 = k by omega), if_neg (show ¬ N + 0 = k by omega)]
end Go.Eng
end
section
set_option linter.unusedVariables false
set_option linter.unusedSimpArgs false
set_option linter.unusedSectionVars false
set_option maxRecDepth 4000
namespace Go.Eng
open Go Go.Proofs Go.IntWalk
def ints : List Value → Option (List (Bool × List UInt8))
  | [] => some []
  | .bool s :: .string ⟨⟨l⟩⟩ :: r => (ints r).map ((s, l) :: ·)
  | _ => none
theorem ints_get : ∀ (zs : List (Bool × List UInt8)) {cells : List Value}, ints cells = some zs → ∀ (i : Nat) s l, zs[i]? = some (s, l) → cells[i * 2]? = some (.bool s) ∧ cells[i * 2 + 1]? = some (.string ⟨⟨l⟩⟩)
  | [], cells, h, i, s, l, hi => by simp at hi
  | z :: zs, cells, h, i, s, l, hi => by
    unfold ints at h
    split at h
    · cases h
    · rename_i s' l' r
      simp only [Option.map_eq_some_iff] at h
      obtain ⟨zs', h1, h2⟩ := h
      cases h2
      cases i with
      | zero => simp at hi; obtain ⟨rfl, rfl⟩ := hi; simp
      | succ i =>
        have := ints_get zs h1 i s l (by simpa using hi)
        have e : (i + 1) * 2 = i * 2 + 2 := by omega
        rw [e]
        simpa using this
    · cases h
def gcds (zs : List (Bool × List UInt8)) : Nat := zs.foldl (fun g z => Nat.gcd g (nl z.2)) 0
def spI2Gcd : List Value → Heap → Option Value
  | [.slice (some ⟨k, 0, none⟩) len _], h => match hget h k with
    | some blk => match ints blk.cells with
      | some zs => if len ≤ zs.length ∧ len ≤ 1000 ∧ (∀ z ∈ zs, z.2.length ≤ 68719476736) then some (.agg ⟨iE (gcds (zs.take len) : Int)⟩) else none
      | none => none
    | none => none
  | _, _ => none
def c49 : ICode :=
  (.seq (.reg [qq 2 (.alloc 23 2 [(.bool false), e0])]) (.seq (.reg [qq 3 (.mv (.c e0))]) (.seq (.seq (.reg [qq 4 (.mv (ci 0))]) (.block 0 (.loop (.seq (.seq (.reg [qq 5 (.mv (.t 4)), qq 6 (.mv (.t 0)), qq 7 (.lensl (.t 6)), qq 8 (.bin .lss (.t 5) (.t 7))]) (.cond (.t 8) .skip (.exit 0))) (.seq (.block 1 (.reg [qq 11 (.mv (.t 3)), qq 12 (.mv (.t 0)), qq 13 (.mv (.t 4)), qq 14 (.ixsl 2 (.t 12) (.t 13)), qq 15 (.faddr 1 (.t 14)), qq 16 (.load false 1 (.t 15)), qq 17 (.call 93 [(.t 11), (.t 16)]), qq 3 (.mv (.t 17))])) (.reg [qq 9 (.mv (.t 4)), qq 10 (.bin .add (.t 9) (ci 1)), qq 4 (.mv (.t 10))])))))) (.seq (.reg [qq 18 (.mv (.t 3)), qq 19 (.call 90 [(.c (.bool false)), (.t 18)]), qn (.store 2 (.t 2) (.t 19))]) .ret))))
theorem tr49 : trFun Tryz.prog 49 = some ⟨20, [.cell 2 true 2], c49⟩ := by kernel_rfl
theorem ok_r2Gcd : SpecOK Tryz.prog 49 (rdS spI2Gcd) := by
  refine rd_run (env_cons ok_r2of (env_cons ok_r1Gcd (env_nil _))) mixed tr49 ?_ ?_
  · intro args h h' v hle e
    unfold spI2Gcd at e ⊢
    split at e
    · rename_i k len c
      split at e
      · rename_i blk hb
        simp only [hle _ _ hb]; exact e
      · cases e
    · cases e
  intro args v h N hG hN
  unfold spI2Gcd at hG
  split at hG
  case h_2 => cases hG
  rename_i k len c
  split at hG
  case h_2 => cases hG
  rename_i blk hb
  split at hG
  case h_2 => cases hG
  rename_i zs hz
  split at hG
  case isFalse => cases hG
  rename_i hl
  obtain ⟨hl1, hl2, hl3⟩ := hl
  cases hG
  have hk := hN _ _ hb
  have hne : ¬ (N + 0 = k) := by omega
  refine ⟨rfl, by simp, ?_⟩
  simp only [c49, G0, Nat.reduceAdd]
  simp only [↓R0, R1, simprocAttr, -Int.reduceAbs]
  refine lp_parts (fun n tm hp nx => ∃ (i : Nat), n + i = len ∧ tmget tm 0 = .slice (some ⟨k, 0, none⟩) len c ∧ tmget tm 4 = .int .i64 i ∧ tmget tm 3 = .string ⟨⟨bl (gcds (zs.take i))⟩⟩ ∧
      tmget tm 2 = .pointer (some ⟨N + 0, 0, none⟩) ∧ hp = (N + 0, some ⟨23, 2, true, [.bool false, .string ⟨⟨[]⟩⟩]⟩) :: h ∧ (bl (gcds (zs.take i))).length ≤ 68719476736) ?_ len
    ⟨0, by omega, ?_, ?_, ?_, ?_, rfl, ?_⟩
  · intro n tm hp nx ⟨i, hn, t0, t4, t3, t2, hh, hg⟩
    subst hh
    by_cases c1 : i < len
    · obtain ⟨⟨s, l⟩, hi⟩ : ∃ z, zs[i]? = some z := ⟨_, List.getElem?_eq_getElem (by omega)⟩
      obtain ⟨g1, g2⟩ := ints_get zs hz i s l hi
      have hll : l.length ≤ 68719476736 := hl3 (s, l) (List.mem_of_getElem? hi)
      have e1 : IntKind.i64.wrap ((i : Int) + 1) = ((i + 1 : Nat) : Int) := by rw [i64_in _ (by omega)]; omega
      have hgs : gcds (zs.take (i + 1)) = Nat.gcd (gcds (zs.take i)) (nl l) := by
        unfold gcds; rw [List.take_add_one, hi]; simp
      simp only [↓R0, R1, simprocAttr, -Int.reduceAbs, t0, t4, t3, t2, c1, hne, hb, g2, e1, spGcd, hg, hll, nl_bl]
      refine ⟨n - 1, by omega, i + 1, by omega, rfl, ?_, ?_⟩
      · rw [hgs]
      · rw [hgs]
        rcases Nat.eq_zero_or_pos (nl l) with e | e
        · rw [e, Nat.gcd_zero_right]; exact hg
        · exact Nat.le_trans (bl_length_mono (Nat.gcd_le_right _ e)) (Nat.le_trans (bl_length_nl l) hll)
    · have ei : i = len := by omega
      subst ei
      have hg2 : (bl (gcds (zs.take i))).length ≤ 1099511627776 := by omega
      have hz2 : sv false (bl (gcds (zs.take i))) = (gcds (zs.take i) : Int) := by rw [sv_false, nl_bl]
      simp only [↓R0, R1, simprocAttr, -Int.reduceAbs, t0, t4, t3, t2, c1, spI2of, hg2, hz2, iE, Fin, isEnd, resL, res1]
      refine ⟨_, rfl, rfl, fun k hk => ?_⟩
      simp only [if_neg (show ¬ N + 0 = k by omega)]
  · (first | (simp only [↓R0, R1, simprocAttr, -Int.reduceAbs]; done) | (simp only [↓R0, R1, simprocAttr, -Int.reduceAbs]; rfl) | rfl)
  · (first | (simp only [↓R0, R1, simprocAttr, -Int.reduceAbs]; done) | (simp only [↓R0, R1, simprocAttr, -Int.reduceAbs]; rfl) | rfl)
  · (first | (simp only [↓R0, R1, simprocAttr, -Int.reduceAbs, gcds, List.foldl_nil, bl_zero]; done) | (simp only [↓R0, R1, simprocAttr, -Int.reduceAbs, gcds, List.foldl_nil, bl_zero]; rfl) | rfl)
  · (first | (simp only [↓R0, R1, simprocAttr, -Int.reduceAbs]; done) | (simp only [↓R0, R1, simprocAttr, -Int.reduceAbs]; rfl) | rfl)
  · simp [gcds, bl_zero]
end Go.Eng
end
section
set_option linter.unusedVariables false
set_option linter.unusedSimpArgs false
set_option linter.unusedSectionVars false
namespace Go.Eng
def rE (q : Rat) : List Value := [.bool (decide (q.num < 0)), .string ⟨⟨bl q.num.natAbs⟩⟩, .string ⟨⟨if q.den = 1 then [] else bl q.den⟩⟩]
def dv (d : List UInt8) : Int := if nl d = 0 then 1 else (nl d : Int)
def rv (s : Bool) (n d : List UInt8) : Rat := Rat.divInt (sv s n) (dv d)
theorem dv_pos (d : List UInt8) : 0 < dv d := by unfold dv; split <;> omega
theorem dv_can (q : Rat) : dv (if q.den = 1 then [] else bl q.den) = (q.den : Int) := by
  unfold dv
  by_cases h : q.den = 1
  · rw [if_pos h]; simp [nl, h]
  · rw [if_neg h, nl_bl, if_neg q.den_nz]
theorem rv_can (q : Rat) : rv (decide (q.num < 0)) (bl q.num.natAbs) (if q.den = 1 then [] else bl q.den) = q := by
  unfold rv; rw [sv_can, dv_can, Rat.num_divInt_den]
theorem divInt_cells {N D : Int} (hD : D ≠ 0) : (Rat.divInt N D).num.natAbs = N.natAbs / Nat.gcd N.natAbs D.natAbs ∧ (Rat.divInt N D).den = D.natAbs / Nat.gcd N.natAbs D.natAbs ∧
    ((Rat.divInt N D).num < 0 ↔ (decide (N < 0) ≠ decide (D < 0) ∧ N ≠ 0)) := by
  have hg : D.gcd N = Nat.gcd N.natAbs D.natAbs := by rw [Int.gcd_comm]; rfl
  have hG : 0 < Nat.gcd N.natAbs D.natAbs := Nat.gcd_pos_of_pos_right _ (by omega)
  rw [Rat.num_divInt, Rat.den_divInt, if_neg hD, hg]
  obtain ⟨k, hk⟩ : ∃ k, N.natAbs = Nat.gcd N.natAbs D.natAbs * k := Nat.gcd_dvd_left _ _
  generalize Nat.gcd N.natAbs D.natAbs = G at *
  have e : D.sign * N = (G : Int) * (D.sign * N.sign * (k : Int)) := by
    have : N = N.sign * (N.natAbs : Int) := by rw [Int.sign_mul_natAbs]
    conv => lhs; rw [this, hk]
    rw [Int.natCast_mul]
    grind
  rw [e, Int.mul_ediv_cancel_left _ (by omega)]
  refine ⟨?_, rfl, ?_⟩
  · rw [Int.natAbs_mul, Int.natAbs_mul, hk, Nat.mul_div_cancel_left _ hG]
    rcases Int.lt_trichotomy N 0 with h | h | h
    · rw [Int.sign_eq_neg_one_of_neg h]
      rcases Int.lt_trichotomy D 0 with h' | h' | h'
      · rw [Int.sign_eq_neg_one_of_neg h']; simp
      · exact absurd h' hD
      · rw [Int.sign_eq_one_of_pos h']; simp
    · subst h
      have : k = 0 := by
        rcases Nat.eq_zero_or_pos k with h | h
        · exact h
        · have := Nat.mul_pos hG h; simp at hk; omega
      subst this; simp
    · rw [Int.sign_eq_one_of_pos h]
      rcases Int.lt_trichotomy D 0 with h' | h' | h'
      · rw [Int.sign_eq_neg_one_of_neg h']; simp
      · exact absurd h' hD
      · rw [Int.sign_eq_one_of_pos h']; simp
  · have hk0 : N ≠ 0 → 0 < k := by
      intro h
      rcases Nat.eq_zero_or_pos k with e | e
      · subst e; simp at hk; omega
      · exact e
    rcases Int.lt_trichotomy N 0 with h | h | h
    · have := hk0 (by omega)
      rw [Int.sign_eq_neg_one_of_neg h]
      rcases Int.lt_trichotomy D 0 with h' | h' | h'
      · rw [Int.sign_eq_neg_one_of_neg h']; simp [h, h']
      · exact absurd h' hD
      · rw [Int.sign_eq_one_of_pos h']; simp [h]; omega
    · subst h; simp
    · have := hk0 (by omega)
      rw [Int.sign_eq_one_of_pos h]
      rcases Int.lt_trichotomy D 0 with h' | h' | h'
      · rw [Int.sign_eq_neg_one_of_neg h']; simp [h']; omega
      · exact absurd h' hD
      · rw [Int.sign_eq_one_of_pos h']; simp; omega
end Go.Eng
end
section
set_option linter.unusedVariables false
set_option linter.unusedSimpArgs false
set_option linter.unusedSectionVars false
set_option maxRecDepth 4000
namespace Go.Eng
open Go Go.Proofs Go.IntWalk
end Go.Eng
end
section
set_option linter.unusedVariables false
set_option linter.unusedSimpArgs false
set_option linter.unusedSectionVars false
set_option maxRecDepth 4000
namespace Go.Eng
open Go Go.Proofs Go.IntWalk
end Go.Eng
end
section
set_option linter.unusedVariables false
set_option linter.unusedSimpArgs false
set_option linter.unusedSectionVars false
set_option maxRecDepth 4000
namespace Go.Eng
open Go Go.Proofs Go.IntWalk
theorem bl_dv (d : List UInt8) : (bl (dv d).natAbs).length ≤ d.length + 1 := by
  unfold dv
  split
  · exact Nat.le_trans (bl_length_le (k := 1).2 (by decide)) (by omega)
  · exact Nat.le_trans (bl_length_nl d) (by omega)
theorem dv_nl (d : List UInt8) : ¬ (dv d).natAbs = 0 := by have := dv_pos d; omega
end Go.Eng
end
section
set_option linter.unusedVariables false
set_option linter.unusedSimpArgs false
set_option linter.unusedSectionVars false
set_option maxRecDepth 4000
namespace Go.Eng
open Go Go.Proofs Go.IntWalk
theorem len_mul {a b : Int} {j k : Nat} (ha : (bl a.natAbs).length ≤ j) (hb : (bl b.natAbs).length ≤ k) : (bl (a * b).natAbs).length ≤ j + k := by
  rw [Int.natAbs_mul]; exact Nat.le_trans (bl_length_mul _ _) (by omega)
theorem len_add {a b : Int} {k : Nat} (ha : (bl a.natAbs).length ≤ k) (hb : (bl b.natAbs).length ≤ k) : (bl (a + b).natAbs).length ≤ k + 1 :=
  Nat.le_trans (bl_length_mono (Int.natAbs_add_le a b)) (bl_length_add ha hb)
theorem len_sv {s : Bool} {n : List UInt8} {k : Nat} (h : n.length ≤ k) : (bl (sv s n).natAbs).length ≤ k := by rw [sv_natAbs]; exact Nat.le_trans (bl_length_nl n) h
theorem len_dv {d : List UInt8} {k : Nat} (h : d.length + 1 ≤ k) : (bl (dv d).natAbs).length ≤ k := Nat.le_trans (bl_dv d) h
end Go.Eng
end
section
set_option linter.unusedVariables false
set_option linter.unusedSimpArgs false
set_option linter.unusedSectionVars false
set_option maxRecDepth 4000
namespace Go.Eng
open Go Go.Proofs Go.IntWalk
end Go.Eng
end
section
set_option linter.unusedVariables false
set_option linter.unusedSimpArgs false
set_option linter.unusedSectionVars false
set_option maxRecDepth 4000
namespace Go.Eng
open Go Go.Proofs Go.IntWalk
theorem len_rneg (q : Rat) : (-q).num.natAbs = q.num.natAbs ∧ (-q).den = q.den := by
  constructor
  · rw [Rat.neg_num]; simp
  · rw [Rat.neg_den]
theorem len_den (q : Rat) {k : Nat} (h : (bl q.den).length ≤ k) : (if q.den = 1 then ([] : List UInt8) else bl q.den).length ≤ k := by
  split
  · simp
  · exact h
theorem divInt_le {N D : Int} (hD : 0 < D) : (Rat.divInt N D).num.natAbs ≤ N.natAbs ∧ (Rat.divInt N D).den ≤ D.natAbs := by
  obtain ⟨h1, h2, _⟩ := divInt_cells (N := N) (D := D) (by omega)
  rw [h1, h2]
  exact ⟨Nat.div_le_self _ _, Nat.div_le_self _ _⟩
end Go.Eng
end
section
set_option linter.unusedVariables false
set_option linter.unusedSimpArgs false
set_option linter.unusedSectionVars false
namespace Go.Eng
def pW (w : Int) : Int := if w = 0 then 1 else w
def pG (x y z w : Int) : Nat := Nat.gcd (Nat.gcd (Nat.gcd x.natAbs y.natAbs) z.natAbs) (pW w).natAbs
def pQ (x y z w a : Int) : Int := (if pW w < 0 then -a else a) / (pG x y z w : Int)
def pE (x y z w : Int) : List Value := iE (pQ x y z w x) ++ iE (pQ x y z w y) ++ iE (pQ x y z w z) ++ iE (pQ x y z w (pW w))
theorem pW_ne (w : Int) : pW w ≠ 0 := by unfold pW; split <;> omega
theorem pG_pos (x y z w : Int) : 0 < pG x y z w := Nat.gcd_pos_of_pos_right _ (by have := pW_ne w; omega)
theorem pW_of {w : Int} (h : w ≠ 0) : pW w = w := by unfold pW; rw [if_neg h]
theorem pQ_scale {x y z w a k : Int} (hw : w ≠ 0) (hk : k ≠ 0) : pQ (k * x) (k * y) (k * z) (k * w) (k * a) = pQ x y z w a := by
  have hkw : k * w ≠ 0 := by simp [hk, hw]
  unfold pQ
  rw [pW_of hkw, pW_of hw]
  have hG : pG (k * x) (k * y) (k * z) (k * w) = k.natAbs * pG x y z w := by
    unfold pG
    rw [pW_of hkw, pW_of hw, Int.natAbs_mul, Int.natAbs_mul, Int.natAbs_mul, Int.natAbs_mul, Nat.gcd_mul_left, Nat.gcd_mul_left, Nat.gcd_mul_left]
  rw [hG, Int.natCast_mul]
  have hk0 : 0 < (k.natAbs : Int) := by omega
  rcases Int.lt_trichotomy k 0 with h | h | h
  · have e : k = -(k.natAbs : Int) := by omega
    generalize (k.natAbs : Int) = n at *
    subst e
    rcases Int.lt_trichotomy w 0 with g | g | g
    · have g2 : ¬ -n * w < 0 := by
        have := Int.mul_pos_of_neg_of_neg h g; omega
      rw [if_neg g2, if_pos g, Int.neg_mul, ← Int.mul_neg, Int.mul_ediv_mul_of_pos _ _ hk0]
    · exact absurd g hw
    · have g2 : -n * w < 0 := Int.mul_neg_of_neg_of_pos h g
      rw [if_pos g2, if_neg (by omega), Int.neg_mul, Int.neg_neg, Int.mul_ediv_mul_of_pos _ _ hk0]
  · exact absurd h hk
  · have e : k = (k.natAbs : Int) := by omega
    generalize (k.natAbs : Int) = n at *
    subst e
    rcases Int.lt_trichotomy w 0 with g | g | g
    · have g2 : k * w < 0 := Int.mul_neg_of_pos_of_neg h g
      rw [if_pos g2, if_pos g, ← Int.mul_neg, Int.mul_ediv_mul_of_pos _ _ hk0]
    · exact absurd g hw
    · have g2 : ¬ k * w < 0 := by have := Int.mul_pos h g; omega
      rw [if_neg g2, if_neg (by omega), Int.mul_ediv_mul_of_pos _ _ hk0]
theorem pE_scale {x y z w k : Int} (hw : w ≠ 0) (hk : k ≠ 0) : pE (k * x) (k * y) (k * z) (k * w) = pE x y z w := by
  have hkw : k * w ≠ 0 := by simp [hk, hw]
  unfold pE
  rw [pW_of hkw, pW_of hw, pQ_scale hw hk, pQ_scale hw hk, pQ_scale hw hk, pQ_scale hw hk]
theorem pE_eq {x y z w x' y' z' w' : Int} (hw : w ≠ 0) (hw' : w' ≠ 0) (hx : x * w' = x' * w) (hy : y * w' = y' * w) (hz : z * w' = z' * w) : pE x y z w = pE x' y' z' w' := by
  rw [← pE_scale (k := w') hw hw', ← pE_scale (k := w) hw' hw, Int.mul_comm w' x, Int.mul_comm w' y, Int.mul_comm w' z, Int.mul_comm w' w, hx, hy, hz, Int.mul_comm x', Int.mul_comm y', Int.mul_comm z']
end Go.Eng
end
section
set_option linter.unusedVariables false
set_option linter.unusedSimpArgs false
set_option linter.unusedSectionVars false
set_option maxRecDepth 4000
namespace Go.Eng
open Go Go.Proofs Go.IntWalk
def spR4Norm : List Value → Option Value
  | [.agg ⟨[.bool s1, .string ⟨⟨l1⟩⟩, .bool s2, .string ⟨⟨l2⟩⟩, .bool s3, .string ⟨⟨l3⟩⟩, .bool s4, .string ⟨⟨l4⟩⟩]⟩] =>
    if l1.length ≤ 34359738368 ∧ l2.length ≤ 34359738368 ∧ l3.length ≤ 34359738368 ∧ l4.length ≤ 34359738368 then some (.agg ⟨pE (sv s1 l1) (sv s2 l2) (sv s3 l3) (sv s4 l4)⟩) else none
  | _ => none
def c14 : ICode :=
  (.seq (.reg [qq 1 (.box 30 8 (.t 0)), qq 2 (.alloc 30 8 [(.bool false), e0, (.bool false), e0, (.bool false), e0, (.bool false), e0])]) (.seq (.dreg [qu 7 (.faddr 0 (.t 1)), qu 8 (.load true 2 (.t 7)), qu 9 (.call 46 [(.t 8)]), qu 10 (.faddr 2 (.t 1)), qv 11 [2] (.load true 2 (.t 10)), qu 12 (.call 46 [(.t 11)]), qu 13 (.faddr 4 (.t 1)), qv 14 [2, 5] (.load true 2 (.t 13)), qu 15 (.call 46 [(.t 14)]), qu 16 (.faddr 6 (.t 1)), qv 17 [2, 5, 8] (.load true 2 (.t 16)), qu 18 (.call 46 [(.t 17)]), qu 19 (.bslice 23 2 4 [(.bool false), e0, (.bool false), e0, (.bool false), e0, (.bool false), e0] [(0, 2, (.t 9)), (2, 2, (.t 12)), (4, 2, (.t 15)), (6, 2, (.t 18))]), qu 3 (.mv (.t 19))]) (.seq (.seq (.reg [qq 20 (.mv (.t 3)), qq 21 (.ixsl 2 (.t 20) (ci 3)), qq 22 (.load true 2 (.t 21)), qq 23 (.call 47 [(.t 22)]), qq 24 (.bin .eql (.t 23) (ci 0))]) (.cond (.t 24) (.reg [qq 25 (.mv (.t 3)), qq 26 (.call 48 [(ci 1)]), qq 27 (.ixsl 2 (.t 25) (ci 3)), qn (.store 2 (.t 27) (.t 26))]) .skip)) (.seq (.reg [qq 28 (.mv (.t 3)), qq 29 (.ixsl 2 (.t 28) (ci 3)), qq 30 (.load true 2 (.t 29)), qq 31 (.call 47 [(.t 30)]), qq 32 (.bin .lss (.t 31) (ci 0)), qq 4 (.mv (.t 32))]) (.seq (.reg [qq 33 (.mv (.t 3)), qq 34 (.call 49 [(.t 33)]), qq 5 (.alloc 23 2 [(.bool false), e0]), qn (.store 2 (.t 5) (.t 34))]) (.seq (.seq (.reg [qq 35 (.mv (.t 3)), qq 36 (.lensl (.t 35)), qq 37 (.mv (ci 0))]) (.block 0 (.loop (.seq (.reg [qq 38 (.bin .lss (.t 37) (.t 36))]) (.seq (.cond (.t 38) .skip (.exit 0)) (.seq (.block 1 (.seq (.reg [qq 39 (.mv (.t 37)), qq 6 (.mv (.t 39))]) (.seq (.seq (.reg [qq 40 (.mv (.t 4))]) (.cond (.t 40) (.reg [qq 41 (.mv (.t 3)), qq 42 (.mv (.t 6)), qq 43 (.mv (.t 3)), qq 44 (.mv (.t 6)), qq 45 (.ixsl 2 (.t 43) (.t 44)), qq 46 (.load true 2 (.t 45)), qq 47 (.call 50 [(.t 46)]), qq 48 (.ixsl 2 (.t 41) (.t 42)), qn (.store 2 (.t 48) (.t 47))]) .skip)) (.dreg [qu 50 (.mv (.t 3)), qu 51 (.mv (.t 6)), qu 52 (.mv (.t 3)), qu 53 (.mv (.t 6)), qu 54 (.ixsl 2 (.t 52) (.t 53)), qu 55 (.load true 2 (.t 54)), qu 56 (.load true 2 (.t 5)), qu 57 (.call 51 [(.t 55), (.t 56)]), qu 49 (.mv (.t 57)), qu 58 (.ext (.t 49) 0), qu 59 (.ext (.t 49) 1), qu 60 (.ext (.t 49) 2), qu 61 (.ixsl 2 (.t 50) (.t 51)), qm (.store 2 (.t 61) (.t 58))])))) (.reg [qq 62 (.bin .add (.t 37) (ci 1)), qq 37 (.mv (.t 62))]))))))) (.seq (.dreg [qu 63 (.mv (.t 3)), qu 64 (.ixsl 2 (.t 63) (ci 0)), qu 65 (.load true 2 (.t 64)), qu 66 (.mv (.t 3)), qu 67 (.ixsl 2 (.t 66) (ci 1)), qu 68 (.load true 2 (.t 67)), qu 69 (.mv (.t 3)), qu 70 (.ixsl 2 (.t 69) (ci 2)), qu 71 (.load true 2 (.t 70)), qu 72 (.mv (.t 3)), qu 73 (.ixsl 2 (.t 72) (ci 3)), qu 74 (.load true 2 (.t 73)), qu 75 (.build [(.bool false), e0, (.bool false), e0, (.bool false), e0, (.bool false), e0] [(0, 2, (.t 65)), (2, 2, (.t 68)), (4, 2, (.t 71)), (6, 2, (.t 74))]), qm (.store 8 (.t 2) (.t 75))]) .ret)))))))
theorem tr14 : trFun Tryz.prog 14 = some ⟨76, [.cell 2 true 8], c14⟩ := by kernel_rfl
set_option maxHeartbeats 1000000 in
theorem ok_r4Norm : SpecOK Tryz.prog 14 (flat spR4Norm) := by
  refine flat_run (env_cons ok_r2Norm (env_cons ok_r2Sign (env_cons ok_r2From (env_cons ok_r2Gcd (env_cons ok_r2Neg (env_cons ok_r2Div (env_nil _))))))) mixed tr14 ?_
  intro args v h N hG
  unfold spR4Norm at hG
  split at hG
  case h_2 => cases hG
  rename_i s1 l1 s2 l2 s3 l3 s4 l4
  split at hG
  case isFalse => cases hG
  rename_i hl
  obtain ⟨h1, h2, h3, h4⟩ := hl
  cases hG
  refine ⟨rfl, by simp, ?_⟩
  have k1 : l1.length ≤ 1099511627776 := by omega
  have k2 : l2.length ≤ 1099511627776 := by omega
  have k3 : l3.length ≤ 1099511627776 := by omega
  have k4 : l4.length ≤ 1099511627776 := by omega
  have n1 := len_sv (s := s1) h1
  have n2 := len_sv (s := s2) h2
  have n3 := len_sv (s := s3) h3
  have n4 := len_sv (s := s4) h4
  have n4' : (bl (sv s4 l4).natAbs).length ≤ 1099511627776 := by omega
  simp only [c14, G0, Nat.reduceAdd]
  simp only [↓R0, R1, simprocAttr, -Int.reduceAbs, spI2Norm, k1, k2, k3, k4, iE]
  generalize sv s1 l1 = x at *
  generalize sv s2 l2 = y at *
  generalize sv s3 l3 = z at *
  generalize sv s4 l4 = w at *
  have e1 : (w.sign = 0) = (w = 0) := propext Int.sign_eq_zero_iff_zero
  simp only [↓R0, R1, simprocAttr, -Int.reduceAbs, spI2Sign, n4', e1]
  have rest : ∀ W : Int, W = pW w → (bl W.natAbs).length ≤ 34359738368 := by
    intro W e
    subst e
    unfold pW; split
    · exact Nat.le_trans (bl_length_le (k := 1).2 (by decide)) (by omega)
    · exact n4
  unfold pE pQ pG
  generalize hW : pW w = W at *
  have nW := rest W rfl
  have nW2 : (bl W.natAbs).length ≤ 1099511627776 := by omega
  have hWne : W ≠ 0 := by rw [← hW]; exact pW_ne w
  generalize hGG : Nat.gcd (Nat.gcd (Nat.gcd x.natAbs y.natAbs) z.natAbs) W.natAbs = G at *
  have m1 : (bl x.natAbs).length ≤ 68719476736 := by omega
  have m2 : (bl y.natAbs).length ≤ 68719476736 := by omega
  have m3 : (bl z.natAbs).length ≤ 68719476736 := by omega
  have m4 : (bl W.natAbs).length ≤ 68719476736 := by omega
  have hG0 : 0 < G := by rw [← hGG]; exact Nat.gcd_pos_of_pos_right _ (by omega)
  have mG : (bl G).length ≤ 68719476736 := by
    rw [← hGG]; exact Nat.le_trans (bl_length_mono (Nat.gcd_le_right _ (by omega))) m4
  have f1 : ¬ ((G : Int) < 0) := by omega
  have f2 : ¬ (G = 0) := by omega
  have f5 : sv false (bl G) = (G : Int) := by rw [sv_false, nl_bl]
  have k5 : (bl x.natAbs).length ≤ 1099511627776 := by omega
  have k6 : (bl y.natAbs).length ≤ 1099511627776 := by omega
  have k7 : (bl z.natAbs).length ≤ 1099511627776 := by omega
  have k8 := nW2
  have r1 : (bl (-x).natAbs).length ≤ 68719476736 := by rw [Int.natAbs_neg]; exact m1
  have r2 : (bl (-y).natAbs).length ≤ 68719476736 := by rw [Int.natAbs_neg]; exact m2
  have r3 : (bl (-z).natAbs).length ≤ 68719476736 := by rw [Int.natAbs_neg]; exact m3
  have r4 : (bl (-W).natAbs).length ≤ 68719476736 := by rw [Int.natAbs_neg]; exact m4
  have w1 : IntKind.i64.wrap 1 = 1 := i64_in _ (by omega)
  have w2 : IntKind.i64.wrap 2 = 2 := i64_in _ (by omega)
  have w3 : IntKind.i64.wrap 3 = 3 := i64_in _ (by omega)
  have w4 : IntKind.i64.wrap 4 = 4 := i64_in _ (by omega)
  have eW : (W.sign < 0) = (W < 0) := propext Int.sign_neg_iff
  by_cases hw : w = 0
  · have hfrom : spI2From [.int .i64 1] = some (.agg ⟨iE W⟩) := by
      rw [← hW]; unfold pW; rw [if_pos hw]; rfl
    simp only [↓R0, R1, simprocAttr, -Int.reduceAbs, hw, hfrom, iE, spI2Sign, nW2, eW, rdS, spI2Gcd, ints, gcds, List.foldl_cons, List.foldl_nil, Nat.gcd_zero_left, nl_bl, List.forall_mem_cons, m1, m2, m3, m4, List.not_mem_nil, false_implies, implies_true, hGG, f1, Int.natAbs_natCast]
    by_cases hn : W < 0
    · have sW : sv true (bl W.natAbs) = W := by rw [sv_true, nl_bl]; omega
      simp only [↓R0, R1, simprocAttr, -Int.reduceAbs, hn]
      refine lp_step ?_
      simp only [↓R0, R1, simprocAttr, -Int.reduceAbs, hn, spI2Neg, spI2Div, k5, k6, k7, k8, m1, m2, m3, m4, mG, f1, f2, f5, nl_bl, r1, r2, r3, r4, sW, w1, w2, w3, w4, iE]
      refine lp_step ?_
      simp only [↓R0, R1, simprocAttr, -Int.reduceAbs, hn, spI2Neg, spI2Div, k5, k6, k7, k8, m1, m2, m3, m4, mG, f1, f2, f5, nl_bl, r1, r2, r3, r4, sW, w1, w2, w3, w4, iE]
      refine lp_step ?_
      simp only [↓R0, R1, simprocAttr, -Int.reduceAbs, hn, spI2Neg, spI2Div, k5, k6, k7, k8, m1, m2, m3, m4, mG, f1, f2, f5, nl_bl, r1, r2, r3, r4, sW, w1, w2, w3, w4, iE]
      refine lp_step ?_
      simp only [↓R0, R1, simprocAttr, -Int.reduceAbs, hn, spI2Neg, spI2Div, k5, k6, k7, k8, m1, m2, m3, m4, mG, f1, f2, f5, nl_bl, r1, r2, r3, r4, sW, w1, w2, w3, w4, iE]
      refine lp_step ?_
      simp only [↓R0, R1, simprocAttr, -Int.reduceAbs, hn, Fin, isEnd, resL, res1, iE, rE]
      exact ⟨_, rfl, rfl, fun k hk => by simp only [ne_nb hk, if_false]⟩
    · have sW : sv false (bl W.natAbs) = W := by rw [sv_false, nl_bl]; omega
      simp only [↓R0, R1, simprocAttr, -Int.reduceAbs, hn]
      refine lp_step ?_
      simp only [↓R0, R1, simprocAttr, -Int.reduceAbs, hn, spI2Neg, spI2Div, k5, k6, k7, k8, m1, m2, m3, m4, mG, f1, f2, f5, nl_bl, sW, w1, w2, w3, w4, iE]
      refine lp_step ?_
      simp only [↓R0, R1, simprocAttr, -Int.reduceAbs, hn, spI2Neg, spI2Div, k5, k6, k7, k8, m1, m2, m3, m4, mG, f1, f2, f5, nl_bl, sW, w1, w2, w3, w4, iE]
      refine lp_step ?_
      simp only [↓R0, R1, simprocAttr, -Int.reduceAbs, hn, spI2Neg, spI2Div, k5, k6, k7, k8, m1, m2, m3, m4, mG, f1, f2, f5, nl_bl, sW, w1, w2, w3, w4, iE]
      refine lp_step ?_
      simp only [↓R0, R1, simprocAttr, -Int.reduceAbs, hn, spI2Neg, spI2Div, k5, k6, k7, k8, m1, m2, m3, m4, mG, f1, f2, f5, nl_bl, sW, w1, w2, w3, w4, iE]
      refine lp_step ?_
      simp only [↓R0, R1, simprocAttr, -Int.reduceAbs, hn, Fin, isEnd, resL, res1, iE, rE]
      exact ⟨_, rfl, rfl, fun k hk => by simp only [ne_nb hk, if_false]⟩
  · have hWw : W = w := by rw [← hW]; unfold pW; rw [if_neg hw]
    subst hWw
    simp only [↓R0, R1, simprocAttr, -Int.reduceAbs, hw, iE, spI2Sign, nW2, eW, rdS, spI2Gcd, ints, gcds, List.foldl_cons, List.foldl_nil, Nat.gcd_zero_left, nl_bl, List.forall_mem_cons, m1, m2, m3, m4, List.not_mem_nil, false_implies, implies_true, hGG, f1, Int.natAbs_natCast]
    by_cases hn : W < 0
    · have sW : sv true (bl W.natAbs) = W := by rw [sv_true, nl_bl]; omega
      simp only [↓R0, R1, simprocAttr, -Int.reduceAbs, hn]
      refine lp_step ?_
      simp only [↓R0, R1, simprocAttr, -Int.reduceAbs, hn, spI2Neg, spI2Div, k5, k6, k7, k8, m1, m2, m3, m4, mG, f1, f2, f5, nl_bl, r1, r2, r3, r4, sW, w1, w2, w3, w4, iE]
      refine lp_step ?_
      simp only [↓R0, R1, simprocAttr, -Int.reduceAbs, hn, spI2Neg, spI2Div, k5, k6, k7, k8, m1, m2, m3, m4, mG, f1, f2, f5, nl_bl, r1, r2, r3, r4, sW, w1, w2, w3, w4, iE]
      refine lp_step ?_
      simp only [↓R0, R1, simprocAttr, -Int.reduceAbs, hn, spI2Neg, spI2Div, k5, k6, k7, k8, m1, m2, m3, m4, mG, f1, f2, f5, nl_bl, r1, r2, r3, r4, sW, w1, w2, w3, w4, iE]
      refine lp_step ?_
      simp only [↓R0, R1, simprocAttr, -Int.reduceAbs, hn, spI2Neg, spI2Div, k5, k6, k7, k8, m1, m2, m3, m4, mG, f1, f2, f5, nl_bl, r1, r2, r3, r4, sW, w1, w2, w3, w4, iE]
      refine lp_step ?_
      simp only [↓R0, R1, simprocAttr, -Int.reduceAbs, hn, Fin, isEnd, resL, res1, iE, rE]
      exact ⟨_, rfl, rfl, fun k hk => by simp only [ne_nb hk, if_false]⟩
    · have sW : sv false (bl W.natAbs) = W := by rw [sv_false, nl_bl]; omega
      simp only [↓R0, R1, simprocAttr, -Int.reduceAbs, hn]
      refine lp_step ?_
      simp only [↓R0, R1, simprocAttr, -Int.reduceAbs, hn, spI2Neg, spI2Div, k5, k6, k7, k8, m1, m2, m3, m4, mG, f1, f2, f5, nl_bl, sW, w1, w2, w3, w4, iE]
      refine lp_step ?_
      simp only [↓R0, R1, simprocAttr, -Int.reduceAbs, hn, spI2Neg, spI2Div, k5, k6, k7, k8, m1, m2, m3, m4, mG, f1, f2, f5, nl_bl, sW, w1, w2, w3, w4, iE]
      refine lp_step ?_
      simp only [↓R0, R1, simprocAttr, -Int.reduceAbs, hn, spI2Neg, spI2Div, k5, k6, k7, k8, m1, m2, m3, m4, mG, f1, f2, f5, nl_bl, sW, w1, w2, w3, w4, iE]
      refine lp_step ?_
      simp only [↓R0, R1, simprocAttr, -Int.reduceAbs, hn, spI2Neg, spI2Div, k5, k6, k7, k8, m1, m2, m3, m4, mG, f1, f2, f5, nl_bl, sW, w1, w2, w3, w4, iE]
      refine lp_step ?_
      simp only [↓R0, R1, simprocAttr, -Int.reduceAbs, hn, Fin, isEnd, resL, res1, iE, rE]
      exact ⟨_, rfl, rfl, fun k hk => by simp only [ne_nb hk, if_false]⟩
end Go.Eng
end
section
set_option linter.unusedVariables false
set_option linter.unusedSimpArgs false
set_option linter.unusedSectionVars false
namespace Go.Eng
def RB (q : Rat) (k : Nat) : Prop := (bl q.num.natAbs).length ≤ k ∧ (bl q.den).length ≤ k
theorem divInt_RB {N D : Int} {k : Nat} (hD : D ≠ 0) (h1 : (bl N.natAbs).length ≤ k) (h2 : (bl D.natAbs).length ≤ k) : RB (Rat.divInt N D) k := by
  obtain ⟨g1, g2, _⟩ := divInt_cells (N := N) (D := D) hD
  unfold RB
  rw [g1, g2]
  exact ⟨Nat.le_trans (bl_length_mono (Nat.div_le_self _ _)) h1, Nat.le_trans (bl_length_mono (Nat.div_le_self _ _)) h2⟩
theorem Lmul {a b : Int} {i j : Nat} (ha : (bl a.natAbs).length ≤ i) (hb : (bl b.natAbs).length ≤ j) : (bl (a * b).natAbs).length ≤ i + j := by
  rw [Int.natAbs_mul]; exact Nat.le_trans (bl_length_mul _ _) (by omega)
theorem Ladd {a b : Int} {k : Nat} (ha : (bl a.natAbs).length ≤ k) (hb : (bl b.natAbs).length ≤ k) : (bl (a + b).natAbs).length ≤ k + 1 :=
  Nat.le_trans (bl_length_mono (Int.natAbs_add_le a b)) (bl_length_add ha hb)
theorem RB.mul {p q : Rat} {i j k : Nat} (hp : RB p i) (hq : RB q j) (h : i + j ≤ k) : RB (p * q) k := by
  have hp0 := p.den_nz
  have hq0 := q.den_nz
  conv => lhs; rw [← Rat.num_divInt_den p, ← Rat.num_divInt_den q, Rat.divInt_mul_divInt]
  refine divInt_RB (by rw [← Int.natCast_mul]; simp [hp0, hq0]) (Nat.le_trans (Lmul hp.1 hq.1) h) ?_
  exact Nat.le_trans (Lmul (a := (p.den : Int)) (b := (q.den : Int)) hp.2 hq.2) h
theorem RB.add {p q : Rat} {i j k : Nat} (hp : RB p i) (hq : RB q j) (h : i + j + 1 ≤ k) : RB (p + q) k := by
  have hp0 := p.den_nz
  have hq0 := q.den_nz
  conv => lhs; rw [← Rat.num_divInt_den p, ← Rat.num_divInt_den q, Rat.divInt_add_divInt _ _ (by simp [hp0]) (by simp [hq0])]
  refine divInt_RB (by rw [← Int.natCast_mul]; simp [hp0, hq0]) ?_ ?_
  · refine Nat.le_trans (Ladd (k := i + j) (Lmul (b := (q.den : Int)) hp.1 hq.2) ?_) h
    exact Nat.le_trans (Lmul (b := (p.den : Int)) hq.1 hp.2) (by omega)
  · exact Nat.le_trans (Lmul (a := (p.den : Int)) (b := (q.den : Int)) hp.2 hq.2) (by omega)
theorem RB.neg {p : Rat} {i : Nat} (hp : RB p i) : RB (-p) i := by
  unfold RB; rw [Rat.neg_num, Rat.neg_den, Int.natAbs_neg]; exact hp
theorem RB.sub {p q : Rat} {i j k : Nat} (hp : RB p i) (hq : RB q j) (h : i + j + 1 ≤ k) : RB (p - q) k := by
  rw [Rat.sub_eq_add_neg]; exact hp.add hq.neg h
theorem RB.num {p : Rat} {i k : Nat} (hp : RB p i) (h : i ≤ k) : (bl p.num.natAbs).length ≤ k := Nat.le_trans hp.1 h
theorem RB.den {p : Rat} {i k : Nat} (hp : RB p i) (h : i ≤ k) : (if p.den = 1 then ([] : List UInt8) else bl p.den).length ≤ k := by
  split
  · simp
  · exact Nat.le_trans hp.2 h
theorem RB.den' {p : Rat} {i k : Nat} (hp : RB p i) (h : i + 1 ≤ k) : (if p.den = 1 then ([] : List UInt8) else bl p.den).length + 1 ≤ k := by
  have := hp.den (k := i) (Nat.le_refl _); omega
theorem RB.raw {s : Bool} {n d : List UInt8} {k : Nat} (hn : n.length ≤ k) (hd : d.length ≤ k) : RB (rv s n d) (k + 1) := by
  unfold rv
  refine divInt_RB (by have := dv_pos d; omega) ?_ ?_
  · rw [sv_natAbs]; exact Nat.le_trans (bl_length_nl n) (by omega)
  · unfold dv; split
    · exact Nat.le_trans (bl_length_le (k := 1).2 (by decide)) (by omega)
    · rw [Int.natAbs_natCast]; exact Nat.le_trans (bl_length_nl d) (by omega)
theorem RB.int {z : Int} {k : Nat} (h : (bl z.natAbs).length ≤ k) (h1 : 1 ≤ k) : RB (z : Rat) k := by
  unfold RB; rw [Rat.num_intCast, Rat.den_intCast]
  exact ⟨h, Nat.le_trans (bl_length_le (k := 1).2 (by decide)) h1⟩
def r3E (x y z : Rat) : List Value := rE x ++ rE y ++ rE z
def mkE (x y z : Rat) : List Value := pE (x.num * ((y.den : Int) * z.den)) (y.num * ((x.den : Int) * z.den)) (z.num * ((x.den : Int) * y.den)) ((x.den : Int) * y.den * z.den)
end Go.Eng
end
section
set_option linter.unusedVariables false
set_option linter.unusedSimpArgs false
set_option linter.unusedSectionVars false
namespace Go.Eng
theorem pG_dvd_x (x y z w : Int) : (pG x y z w : Int) ∣ x := by
  refine Int.ofNat_dvd_left.2 ?_; exact Nat.dvd_trans (Nat.gcd_dvd_left _ _) (Nat.dvd_trans (Nat.gcd_dvd_left _ _) (Nat.gcd_dvd_left _ _))
theorem pG_dvd_y (x y z w : Int) : (pG x y z w : Int) ∣ y := by
  refine Int.ofNat_dvd_left.2 ?_; exact Nat.dvd_trans (Nat.gcd_dvd_left _ _) (Nat.dvd_trans (Nat.gcd_dvd_left _ _) (Nat.gcd_dvd_right _ _))
theorem pG_dvd_z (x y z w : Int) : (pG x y z w : Int) ∣ z := by
  refine Int.ofNat_dvd_left.2 ?_; exact Nat.dvd_trans (Nat.gcd_dvd_left _ _) (Nat.gcd_dvd_right _ _)
theorem pG_dvd_w (x y z w : Int) : (pG x y z w : Int) ∣ pW w := by
  refine Int.ofNat_dvd_left.2 ?_; exact Nat.gcd_dvd_right _ _
theorem pQ_len {x y z w a : Int} {k : Nat} (h : (bl a.natAbs).length ≤ k) : (bl (pQ x y z w a).natAbs).length ≤ k := by
  unfold pQ
  refine Nat.le_trans (bl_length_mono (Int.natAbs_ediv_le_natAbs _ _)) ?_
  split
  · rw [Int.natAbs_neg]; exact h
  · exact h
theorem pQ_mul {x y z w a : Int} (h : (pG x y z w : Int) ∣ a) : pQ x y z w a * (pG x y z w : Int) = if pW w < 0 then -a else a := by
  unfold pQ
  split
  · exact Int.ediv_mul_cancel (Int.dvd_neg.2 h)
  · exact Int.ediv_mul_cancel h
theorem pQ_pos (x y z w : Int) : 0 < pQ x y z w (pW w) := by
  have h := pQ_mul (pG_dvd_w x y z w)
  have hg := pG_pos x y z w
  have hw := pW_ne w
  have hp : 0 < pQ x y z w (pW w) * (pG x y z w : Int) := by
    rw [h]; split <;> omega
  exact Int.pos_of_mul_pos_left hp (by omega)
theorem pQ_div {x y z w a : Int} (h : (pG x y z w : Int) ∣ a) : Rat.divInt (pQ x y z w a) (pQ x y z w (pW w)) = Rat.divInt a (pW w) := by
  have h1 := pQ_mul h
  have h2 := pQ_mul (pG_dvd_w x y z w)
  have hp := pQ_pos x y z w
  have hw := pW_ne w
  have hg := pG_pos x y z w
  rw [Rat.divInt_eq_divInt_iff (by omega) hw]
  have hg' : (pG x y z w : Int) ≠ 0 := by omega
  generalize (pG x y z w : Int) = g at *
  generalize pQ x y z w a = q at *
  generalize pQ x y z w (pW w) = r at *
  by_cases c : pW w < 0
  · rw [if_pos c] at h1 h2
    apply Int.eq_of_mul_eq_mul_right hg'
    grind
  · rw [if_neg c] at h1 h2
    apply Int.eq_of_mul_eq_mul_right hg'
    grind
theorem pW_len {w : Int} {k : Nat} (h : (bl w.natAbs).length ≤ k) (hk : 1 ≤ k) : (bl (pW w).natAbs).length ≤ k := by
  unfold pW; split
  · exact Nat.le_trans (bl_length_le (k := 1).2 (by decide)) hk
  · exact h
end Go.Eng
end
section
set_option linter.unusedVariables false
set_option linter.unusedSimpArgs false
set_option linter.unusedSectionVars false
namespace Go.Eng
def aw (x w y v : Int) : Int := y * w - x * v
def thN (a2 a3 a4 b2 b3 b4 c2 c3 c4 : Int) : Int := aw a2 a4 b2 b4 * aw a3 a4 c3 c4 - aw a3 a4 b3 b4 * aw a2 a4 c2 c4
structure ThC where
  (x y z w : Int)
def thC (a1 a2 a3 a4 b1 b2 b3 b4 c1 c2 c3 c4 : Int) : ThC :=
  ⟨thN a2 a3 a4 b2 b3 b4 c2 c3 c4 * a4, thN a3 a1 a4 b3 b1 b4 c3 c1 c4 * a4, thN a1 a2 a4 b1 b2 b4 c1 c2 c4 * a4,
   thN a2 a3 a4 b2 b3 b4 c2 c3 c4 * a1 + thN a3 a1 a4 b3 b1 b4 c3 c1 c4 * a2 + thN a1 a2 a4 b1 b2 b4 c1 c2 c4 * a3⟩
def dt3 (x1 x2 x3 y1 y2 y3 z1 z2 z3 : Int) : Int := x1 * (y2 * z3 - y3 * z2) - x2 * (y1 * z3 - y3 * z1) + x3 * (y1 * z2 - y2 * z1)
def flt (a1 a2 a3 a4 b1 b2 b3 b4 c1 c2 c3 c4 : Int) : Prop :=
  dt3 a2 a3 a4 b2 b3 b4 c2 c3 c4 = 0 ∧ dt3 a3 a1 a4 b3 b1 b4 c3 c1 c4 = 0 ∧ dt3 a1 a2 a4 b1 b2 b4 c1 c2 c4 = 0
instance {a1 a2 a3 a4 b1 b2 b3 b4 c1 c2 c3 c4 : Int} : Decidable (flt a1 a2 a3 a4 b1 b2 b3 b4 c1 c2 c3 c4) := by unfold flt; infer_instance
theorem thN_eq (a2 a3 a4 b2 b3 b4 c2 c3 c4 : Int) : thN a2 a3 a4 b2 b3 b4 c2 c3 c4 = a4 * dt3 a2 a3 a4 b2 b3 b4 c2 c3 c4 := by
  unfold thN aw dt3; grind
theorem thC_zero {a1 a2 a3 a4 b1 b2 b3 b4 c1 c2 c3 c4 : Int} (h : a4 ≠ 0) :
    ((thC a1 a2 a3 a4 b1 b2 b3 b4 c1 c2 c3 c4).x = 0 ∧ (thC a1 a2 a3 a4 b1 b2 b3 b4 c1 c2 c3 c4).y = 0 ∧ (thC a1 a2 a3 a4 b1 b2 b3 b4 c1 c2 c3 c4).z = 0) = flt a1 a2 a3 a4 b1 b2 b3 b4 c1 c2 c3 c4 := by
  unfold thC flt
  simp only [thN_eq, Int.mul_eq_zero, h, false_or, or_false]
end Go.Eng
end
section
set_option linter.unusedVariables false
set_option linter.unusedSimpArgs false
set_option linter.unusedSectionVars false
set_option maxRecDepth 20000
namespace Go.Eng
open Go Go.Proofs Go.IntWalk
def lG (a b c d : Int) : Nat := Nat.gcd (Nat.gcd (Nat.gcd a.natAbs b.natAbs) c.natAbs) d.natAbs
def lE (a b c d : Int) : List Value := iE (a / (lG a b c d : Int)) ++ iE (b / (lG a b c d : Int)) ++ iE (c / (lG a b c d : Int)) ++ iE (d / (lG a b c d : Int))
theorem lG_pos {a b c d : Int} (h : ¬ (a = 0 ∧ b = 0 ∧ c = 0)) : 0 < lG a b c d := by
  unfold lG
  refine Nat.gcd_pos_of_pos_left _ ?_
  by_cases hc : c = 0
  · refine Nat.gcd_pos_of_pos_left _ ?_
    by_cases hb : b = 0
    · exact Nat.gcd_pos_of_pos_left _ (by omega)
    · exact Nat.gcd_pos_of_pos_right _ (by omega)
  · exact Nat.gcd_pos_of_pos_right _ (by omega)
theorem lG_le {a b c d : Int} {k : Nat} (h1 : (bl a.natAbs).length ≤ k) (h2 : (bl b.natAbs).length ≤ k) (h3 : (bl c.natAbs).length ≤ k) (h : ¬ (a = 0 ∧ b = 0 ∧ c = 0)) : (bl (lG a b c d)).length ≤ k := by
  have hle : lG a b c d ≤ max a.natAbs (max b.natAbs c.natAbs) := by
    unfold lG
    have g : 0 < Nat.gcd (Nat.gcd a.natAbs b.natAbs) c.natAbs := by
      by_cases hc : c = 0
      · refine Nat.gcd_pos_of_pos_left _ ?_
        by_cases hb : b = 0
        · exact Nat.gcd_pos_of_pos_left _ (by omega)
        · exact Nat.gcd_pos_of_pos_right _ (by omega)
      · exact Nat.gcd_pos_of_pos_right _ (by omega)
    refine Nat.le_trans (Nat.gcd_le_left _ g) ?_
    by_cases hc : c = 0
    · subst hc
      rw [show Int.natAbs 0 = 0 from rfl, Nat.gcd_zero_right] at g ⊢
      by_cases hb : b = 0
      · subst hb
        rw [show Int.natAbs 0 = 0 from rfl, Nat.gcd_zero_right]; omega
      · exact Nat.le_trans (Nat.gcd_le_right _ (by omega)) (by omega)
    · exact Nat.le_trans (Nat.gcd_le_right _ (by omega)) (by omega)
  refine Nat.le_trans (bl_length_mono hle) ?_
  rw [Nat.max_def, Nat.max_def]
  split <;> (try split) <;> assumption
end Go.Eng
end
section
set_option linter.unusedVariables false
set_option linter.unusedSimpArgs false
set_option linter.unusedSectionVars false
set_option maxRecDepth 20000
namespace Go.Eng
open Go Go.Proofs Go.IntWalk
end Go.Eng
end
section
set_option linter.unusedVariables false
set_option linter.unusedSimpArgs false
set_option linter.unusedSectionVars false
namespace Go.Eng
def lm (n j : Nat) : Nat := n / 4294967296 ^ j % 4294967296
theorem lm_lt (n j : Nat) : lm n j < 4294967296 := Nat.mod_lt _ (by omega)
theorem lm_zero (n : Nat) : lm n 0 = n % 4294967296 := by unfold lm; rw [Nat.pow_zero, Nat.div_one]
theorem lm_succ (n j : Nat) : lm n (j + 1) = lm (n / 4294967296) j := by
  unfold lm; rw [Nat.pow_succ, Nat.mul_comm, Nat.div_div_eq_div_mul]
theorem pB (j : Nat) : 0 < 4294967296 ^ j := Nat.pow_pos (by omega)
theorem lm_of_lt {n j : Nat} (h : n < 4294967296 ^ j) : lm n j = 0 := by
  unfold lm; rw [Nat.div_eq_of_lt h]
theorem lm_of_lt' {n k j : Nat} (h : n < 4294967296 ^ k) (hj : k ≤ j) : lm n j = 0 :=
  lm_of_lt (Nat.lt_of_lt_of_le h (Nat.pow_le_pow_right (by omega) hj))
theorem lm_top {n j : Nat} (h : n < 4294967296 ^ (j + 1)) : lm n j = n / 4294967296 ^ j := by
  unfold lm
  rw [Nat.mod_eq_of_lt]
  rw [Nat.pow_succ] at h
  exact Nat.div_lt_of_lt_mul h
theorem lm_mod {n k j : Nat} (h : j < k) : lm (n % 4294967296 ^ k) j = lm n j := by
  unfold lm
  have e : 4294967296 ^ k = 4294967296 ^ j * (4294967296 * 4294967296 ^ (k - j - 1)) := by
    rw [← Nat.pow_add_one', ← Nat.pow_add]; congr 1; omega
  rw [e, Nat.mod_mul_right_div_self, Nat.mod_mul_right_mod]
theorem lm_add_mul {n x i j : Nat} (h : j < i) : lm (n + x * 4294967296 ^ i) j = lm n j := by
  rw [← lm_mod (n := n + x * 4294967296 ^ i) h, Nat.add_mul_mod_self_right, lm_mod h]
theorem mod_step (n i : Nat) : n % 4294967296 ^ (i + 1) = n % 4294967296 ^ i + 4294967296 ^ i * lm n i := by
  rw [Nat.pow_succ, Nat.mod_mul]; rfl
theorem div_step (n i : Nat) : n / 4294967296 ^ i = 4294967296 * (n / 4294967296 ^ (i + 1)) + lm n i := by
  unfold lm
  rw [Nat.pow_succ, ← Nat.div_div_eq_div_mul, Nat.div_add_mod]
def tb (k : Nat) (f : Nat → Nat) : List Value := (List.range k).map fun j => .int .u32 (f j : Nat)
theorem tb_length (k : Nat) (f : Nat → Nat) : (tb k f).length = k := by simp [tb]
theorem tb_get (k : Nat) (f : Nat → Nat) (i : Nat) : (tb k f)[i]? = if i < k then some (.int .u32 (f i : Nat)) else none := by
  unfold tb
  rw [List.getElem?_map]
  by_cases h : i < k
  · rw [if_pos h, List.getElem?_range h]; rfl
  · rw [if_neg h, List.getElem?_eq_none (by simp; omega)]; rfl
theorem tb_get' {k i : Nat} (f : Nat → Nat) (h : i < k) : (tb k f)[i]? = some (.int .u32 (f i : Nat)) := by rw [tb_get, if_pos h]
theorem tb_congr {k : Nat} {f g : Nat → Nat} (h : ∀ j, j < k → f j = g j) : tb k f = tb k g := by
  apply List.ext_getElem?
  intro i
  rw [tb_get, tb_get]
  split
  · rename_i hi; rw [h i hi]
  · rfl
theorem tb_set (k : Nat) (f : Nat → Nat) (i v : Nat) : (tb k f).set i (.int .u32 (v : Nat)) = tb k (fun j => if j = i then v else f j) := by
  apply List.ext_getElem?
  intro j
  rw [tb_get, List.getElem?_set, tb_get, tb_length]
  by_cases h : i = j
  · subst h
    simp
  · rw [if_neg h]
    by_cases h2 : j < k
    · rw [if_pos h2, if_pos h2, if_neg (by omega)]
    · rw [if_neg h2, if_neg h2]
theorem tb_slice {k a b : Nat} (f : Nat → Nat) (h : a + b ≤ k) : ((tb k f).drop a).take b = tb b (fun j => f (a + j)) := by
  apply List.ext_getElem?
  intro j
  rw [tb_get, List.getElem?_take, List.getElem?_drop, tb_get]
  by_cases h1 : j < b
  · rw [if_pos h1, if_pos h1, if_pos (by omega)]
  · rw [if_neg h1, if_neg h1]
theorem tb_take {k b : Nat} (f : Nat → Nat) (h : b ≤ k) : (tb k f).take b = tb b f := by
  have := tb_slice (k := k) (a := 0) (b := b) f (by omega)
  rw [List.drop_zero] at this
  rw [this]; apply tb_congr; intro j _; rw [Nat.zero_add]
theorem tb_all (k : Nat) (f : Nat → Nat) : (tb k f).take k = tb k f := tb_take f (Nat.le_refl _)
theorem tb_zero (f : Nat → Nat) : tb 0 f = [] := rfl
theorem tb_succ (k : Nat) (f : Nat → Nat) : tb (k + 1) f = .int .u32 (f 0 : Nat) :: tb k (fun j => f (j + 1)) := by
  unfold tb; rw [List.range_succ_eq_map]; simp
theorem tb_rep (k : Nat) : (List.replicate k [Value.int .u32 0]).flatten = tb k (fun _ => 0) := by
  induction k with
  | zero => rfl
  | succ k ih => rw [List.replicate_succ, List.flatten_cons, ih, tb_succ]; rfl
theorem tb_base (k : Nat) (f : Nat → Nat) : (tb k f).all isBase = true := by
  unfold tb; rw [List.all_map, List.all_eq_true]; intro x _; rfl
def ud : List Value → Nat
  | .int _ i :: r => i.toNat + 4294967296 * ud r
  | _ => 0
def uok : List Value → Bool
  | [] => true
  | .int .u32 i :: r => decide (0 ≤ i) && decide (i < 4294967296) && uok r
  | _ => false
theorem uok_tb : ∀ (k : Nat) (f : Nat → Nat), (∀ j, j < k → f j < 4294967296) → uok (tb k f) = true
  | 0, f, h => rfl
  | k + 1, f, h => by
    rw [tb_succ]
    have h0 := h 0 (by omega)
    simp only [uok, Bool.and_eq_true, decide_eq_true_eq]
    refine ⟨⟨by omega, by omega⟩, uok_tb k _ fun j hj => h (j + 1) (by omega)⟩
theorem uok_lm (k n : Nat) : uok (tb k (lm n)) = true := uok_tb k _ fun j _ => lm_lt n j
theorem ud_tb : ∀ (k n : Nat), ud (tb k (lm n)) = n % 4294967296 ^ k
  | 0, n => by simp [tb_zero, ud, Nat.mod_one]
  | k + 1, n => by
    rw [tb_succ]
    have e : (fun j => lm n (j + 1)) = lm (n / 4294967296) := by funext j; rw [lm_succ]
    rw [e, ud, ud_tb k, lm_zero, Nat.pow_succ, Nat.mul_comm (4294967296 ^ k), Nat.mod_mul, Int.toNat_natCast]
theorem ud_lt : ∀ {cells : List Value}, uok cells = true → ud cells < 4294967296 ^ cells.length
  | [], _ => by simp [ud]
  | c :: r, h => by
    unfold uok at h
    split at h
    · rename_i heq; cases heq
    · rename_i a i r' heq
      cases heq
      simp only [Bool.and_eq_true, decide_eq_true_eq] at h
      have := ud_lt h.2
      simp only [ud, List.length_cons, Nat.pow_succ]
      omega
    · cases h
theorem tb_ud : ∀ {cells : List Value}, uok cells = true → cells = tb cells.length (lm (ud cells))
  | [], _ => rfl
  | c :: r, h => by
    unfold uok at h
    split at h
    · rename_i heq; cases heq
    · rename_i a i r' heq
      cases heq
      simp only [Bool.and_eq_true, decide_eq_true_eq] at h
      rw [List.length_cons, tb_succ]
      have e : (fun j => lm (ud (.int .u32 i :: r)) (j + 1)) = lm (ud r) := by
        funext j; rw [lm_succ, ud]; congr 1; omega
      rw [e, ← tb_ud h.2, lm_zero, ud]
      congr 2
      omega
    · cases h
def cyA (a b i : Nat) : Nat := (a % 4294967296 ^ i + b % 4294967296 ^ i) / 4294967296 ^ i
theorem cyA_zero (a b : Nat) : cyA a b 0 = 0 := by simp [cyA, Nat.mod_one]
theorem cyA_le (a b i : Nat) : cyA a b i ≤ 1 := by
  unfold cyA
  have h1 := Nat.mod_lt a (pB i)
  have h2 := Nat.mod_lt b (pB i)
  rw [← Nat.lt_succ_iff, Nat.div_lt_iff_lt_mul (pB i)]
  omega
theorem add_limb (a b i : Nat) : lm (a + b) i = (lm a i + lm b i + cyA a b i) % 4294967296 := by
  have h : (a + b) / 4294967296 ^ i = a / 4294967296 ^ i + b / 4294967296 ^ i + cyA a b i := by
    unfold cyA
    have ea := Nat.div_add_mod a (4294967296 ^ i)
    have eb := Nat.div_add_mod b (4294967296 ^ i)
    have e : a + b = 4294967296 ^ i * (a / 4294967296 ^ i + b / 4294967296 ^ i) + (a % 4294967296 ^ i + b % 4294967296 ^ i) := by rw [Nat.mul_add]; omega
    rw [e, Nat.mul_add_div (pB i)]
  unfold lm
  rw [h]; omega
theorem cyA_succ (a b i : Nat) : cyA a b (i + 1) = (lm a i + lm b i + cyA a b i) / 4294967296 := by
  unfold cyA
  rw [mod_step, mod_step, Nat.pow_succ, ← Nat.div_div_eq_div_mul]
  have e : a % 4294967296 ^ i + 4294967296 ^ i * lm a i + (b % 4294967296 ^ i + 4294967296 ^ i * lm b i) = 4294967296 ^ i * (lm a i + lm b i) + (a % 4294967296 ^ i + b % 4294967296 ^ i) := by rw [Nat.mul_add]; omega
  rw [e, Nat.mul_add_div (pB i)]
def cyS (a b i : Nat) : Nat := if a % 4294967296 ^ i < b % 4294967296 ^ i then 1 else 0
theorem cyS_zero (a b : Nat) : cyS a b 0 = 0 := by simp [cyS, Nat.mod_one]
theorem cyS_le (a b i : Nat) : cyS a b i ≤ 1 := by unfold cyS; split <;> omega
theorem cyS_succ (a b i : Nat) : cyS a b (i + 1) = if lm a i < lm b i + cyS a b i then 1 else 0 := by
  unfold cyS
  rw [mod_step, mod_step]
  have h1 := Nat.mod_lt a (pB i)
  have h2 := Nat.mod_lt b (pB i)
  generalize a % 4294967296 ^ i = r at *
  generalize b % 4294967296 ^ i = s at *
  generalize 4294967296 ^ i = P at *
  generalize lm a i = x
  generalize lm b i = y
  by_cases c : x < y
  · have : P * (x + 1) ≤ P * y := Nat.mul_le_mul_left _ (by omega)
    rw [Nat.mul_add, Nat.mul_one] at this
    rw [if_pos (by omega), if_pos (by split <;> omega)]
  · by_cases c2 : y < x
    · have : P * (y + 1) ≤ P * x := Nat.mul_le_mul_left _ (by omega)
      rw [Nat.mul_add, Nat.mul_one] at this
      rw [if_neg (by omega), if_neg (by split <;> omega)]
    · have : x = y := by omega
      subst this
      by_cases c3 : r < s
      · rw [if_pos (by omega), if_pos (by rw [if_pos c3]; omega)]
      · rw [if_neg (by omega), if_neg (by rw [if_neg c3]; omega)]
theorem sub_limb {a b c : Nat} {i : Nat} (h : c % 4294967296 ^ (i + 1) + b % 4294967296 ^ (i + 1) = a % 4294967296 ^ (i + 1) ∨ c % 4294967296 ^ (i + 1) + b % 4294967296 ^ (i + 1) = a % 4294967296 ^ (i + 1) + 4294967296 ^ (i + 1)) :
    (lm c i : Int) = ((lm a i : Int) - lm b i - cyS a b i) % 4294967296 := by
  unfold cyS
  rw [mod_step, mod_step, mod_step, Nat.pow_succ] at h
  have h1 := Nat.mod_lt a (pB i)
  have h2 := Nat.mod_lt b (pB i)
  have h3 := Nat.mod_lt c (pB i)
  have l3 := lm_lt c i
  generalize a % 4294967296 ^ i = r at *
  generalize b % 4294967296 ^ i = s at *
  generalize c % 4294967296 ^ i = t at *
  generalize 4294967296 ^ i = P at *
  generalize lm a i = x at *
  generalize lm b i = y at *
  generalize lm c i = z at *
  have key : ∀ u v : Nat, P * u + t + s = P * v + r → (r < s → u + 1 = v) ∧ (¬ r < s → u = v) := by
    intro u v e
    constructor
    · intro hr
      rcases Nat.lt_trichotomy (u + 1) v with g | g | g
      · have : P * (u + 2) ≤ P * v := Nat.mul_le_mul_left _ (by omega)
        rw [Nat.mul_add] at this; omega
      · exact g
      · have : P * v ≤ P * u := Nat.mul_le_mul_left _ (by omega)
        omega
    · intro hr
      rcases Nat.lt_trichotomy u v with g | g | g
      · have : P * (u + 1) ≤ P * v := Nat.mul_le_mul_left _ (by omega)
        rw [Nat.mul_add, Nat.mul_one] at this; omega
      · exact g
      · have : P * (v + 1) ≤ P * u := Nat.mul_le_mul_left _ (by omega)
        rw [Nat.mul_add, Nat.mul_one] at this; omega
  rcases h with h | h
  · have := key (z + y) x (by rw [Nat.mul_add]; omega)
    by_cases c : r < s
    · rw [if_pos c]; have := this.1 c; omega
    · rw [if_neg c]; have := this.2 c; omega
  · have := key (z + y) (x + 4294967296) (by rw [Nat.mul_add, Nat.mul_add]; omega)
    by_cases c : r < s
    · rw [if_pos c]; have := this.1 c; omega
    · rw [if_neg c]; have := this.2 c; omega
theorem pow4 (k : Nat) : (256 : Nat) ^ (4 * k) = 4294967296 ^ k := by rw [Nat.pow_mul]
def lk (n : Nat) : Nat := ((bl n).length + 3) / 4
theorem lk_lt (n : Nat) : n < 4294967296 ^ lk n := by
  rw [← pow4, ← bl_length_le]; unfold lk; omega
theorem lk_le {n k : Nat} (h : n < 4294967296 ^ k) : lk n ≤ k := by
  rw [← pow4, ← bl_length_le] at h; unfold lk; omega
theorem lk_zero {n : Nat} : lk n = 0 ↔ n = 0 := by
  constructor
  · intro h; have := lk_lt n; rw [h] at this; omega
  · intro h; subst h; unfold lk; rw [bl_zero]; rfl
theorem lk_top {n k : Nat} (h : lk n = k + 1) : 4294967296 ^ k ≤ n := by
  refine Nat.le_of_not_lt fun hlt => ?_
  have := lk_le hlt
  omega
end Go.Eng
end
section
set_option linter.unusedVariables false
set_option linter.unusedSimpArgs false
set_option linter.unusedSectionVars false
namespace Go.Eng
open Go Go.IntWalk
theorem or_nat {x c s : Nat} (h : x < 2 ^ s) : x ||| c * 2 ^ s = x + c * 2 ^ s := by
  rw [Nat.or_comm, ← Nat.shiftLeft_eq, ← Nat.shiftLeft_add_eq_or_of_lt h, Nat.add_comm]
theorem u32_nat {n : Nat} (h : n < 4294967296) : IntKind.u32.wrap (n : Int) = (n : Int) := by
  have : IntKind.u32.wrap (n : Int) = ((n : Int) % 4294967296) := rfl
  rw [this]; omega
theorem u64_nat {n : Nat} (h : n < 18446744073709551616) : IntKind.u64.wrap (n : Int) = (n : Int) := by
  have : IntKind.u64.wrap (n : Int) = ((n : Int) % 18446744073709551616) := rfl
  rw [this]; omega
theorem u32_mod (n : Nat) : IntKind.u32.wrap (n : Int) = ((n % 4294967296 : Nat) : Int) := by
  have : IntKind.u32.wrap (n : Int) = ((n : Int) % 4294967296) := rfl
  rw [this]; omega
theorem u32_int (n : Int) : IntKind.u32.wrap n = n % 4294967296 := rfl
theorem bv32 {n : Nat} (h : n < 4294967296) : (BitVec.ofInt IntKind.u32.bits (n : Int)).toNat = n := by
  have : (BitVec.ofInt 32 (n : Int)).toNat = n := by
    rw [BitVec.ofInt_natCast, BitVec.toNat_ofNat]; omega
  exact this
theorem bv64 {n : Nat} (h : n < 18446744073709551616) : (BitVec.ofInt IntKind.u64.bits (n : Int)).toNat = n := by
  have : (BitVec.ofInt 64 (n : Int)).toNat = n := by
    rw [BitVec.ofInt_natCast, BitVec.toNat_ofNat]; omega
  exact this
theorem or_u32 {x c s : Nat} (hx : x < 2 ^ s) (h : x + c * 2 ^ s < 4294967296) : IntKind.u32.wrap ((BitVec.ofInt IntKind.u32.bits (x : Int) ||| BitVec.ofInt IntKind.u32.bits ((c * 2 ^ s : Nat) : Int)).toNat : Int) = ((x + c * 2 ^ s : Nat) : Int) := by
  rw [BitVec.toNat_or, bv32 (by omega), bv32 (by omega), or_nat hx, u32_nat h]
theorem or_u64 {x c s : Nat} (hx : x < 2 ^ s) (h : x + c * 2 ^ s < 18446744073709551616) : IntKind.u64.wrap ((BitVec.ofInt IntKind.u64.bits (x : Int) ||| BitVec.ofInt IntKind.u64.bits ((c * 2 ^ s : Nat) : Int)).toNat : Int) = ((x + c * 2 ^ s : Nat) : Int) := by
  rw [BitVec.toNat_or, bv64 (by omega), bv64 (by omega), or_nat hx, u64_nat h]
theorem borrow32 (X Y D : BitVec 32) (b : Nat) (hb : b ≤ 1) (hD : (D.toNat : Int) = ((X.toNat : Int) - Y.toNat - b) % 4294967296) :
    ((~~~X &&& Y) ||| (~~~(X ^^^ Y) &&& D)).toNat / 2147483648 = if X.toNat < Y.toNat + b then 1 else 0 := by
  have top : ∀ V : BitVec 32, V.toNat / 2147483648 = if V.msb then 1 else 0 := by
    intro V
    have := V.isLt
    rw [BitVec.msb_eq_decide]
    by_cases h : 2 ^ (32 - 1) ≤ V.toNat
    · simp only [h, decide_true, if_true]; omega
    · simp only [h, decide_false]; simp at h ⊢; omega
  rw [top]
  have hx := X.isLt
  have hy := Y.isLt
  have hd := D.isLt
  simp only [BitVec.msb_or, BitVec.msb_and, BitVec.msb_not, BitVec.msb_xor]
  rw [BitVec.msb_eq_decide, BitVec.msb_eq_decide, BitVec.msb_eq_decide]
  by_cases h1 : 2 ^ (32 - 1) ≤ X.toNat <;> by_cases h2 : 2 ^ (32 - 1) ≤ Y.toNat <;> by_cases h3 : 2 ^ (32 - 1) ≤ D.toNat <;> simp only [h1, h2, h3, decide_true, decide_false] <;> simp <;> simp at h1 h2 h3 <;> omega
end Go.Eng
end
section
set_option linter.unusedVariables false
set_option linter.unusedSimpArgs false
set_option linter.unusedSectionVars false
namespace Go.Eng
theorem lm_shift (n k j : Nat) : lm (n / 4294967296 ^ k) j = lm n (k + j) := by
  unfold lm; rw [Nat.div_div_eq_div_mul, ← Nat.pow_add]
theorem kn_step {front top d2 u2 q r qd B : Nat} (h : qd * (top * B + d2) ≤ front * B + u2) (hr : q * top + r = front) (hq : qd ≤ q) (hB : qd < B) (c : q ≥ B ∨ r * B + u2 < q * d2) : qd + 1 ≤ q := by
  rcases Nat.lt_or_ge qd q with g | g
  · exact g
  · have e : q = qd := by omega
    subst e
    rcases c with c | c
    · omega
    · rw [← hr, Nat.mul_add, Nat.add_mul, Nat.mul_assoc q top B] at h
      omega
theorem kn_end {front top d2 u2 q r dl P B : Nat} (hr : q * top + r = front) (c : q * d2 ≤ r * B + u2) (hq : q < B) (ht : 1 ≤ top) (hdl : dl < P) : (q - 1) * ((top * B + d2) * P + dl) ≤ (front * B + u2) * P := by
  rcases Nat.eq_zero_or_pos q with e | e
  · subst e; simp
  · obtain ⟨p, rfl⟩ : ∃ p, q = p + 1 := ⟨q - 1, by omega⟩
    rw [Nat.add_sub_cancel]
    have h1 : (p + 1) * (top * B + d2) ≤ front * B + u2 := by
      rw [← hr, Nat.mul_add, Nat.add_mul ((p + 1) * top), Nat.mul_assoc (p + 1) top B]; omega
    have h2 : (p + 1) * (top * B + d2) * P ≤ (front * B + u2) * P := Nat.mul_le_mul_right _ h1
    refine Nat.le_trans ?_ h2
    have h3 : p * dl ≤ (top * B + d2) * P := Nat.mul_le_mul (by have : 1 * B ≤ top * B := Nat.mul_le_mul_right _ ht; omega) (by omega)
    generalize top * B + d2 = X at *
    rw [Nat.mul_add, Nat.add_mul p 1 X, Nat.add_mul, Nat.one_mul, ← Nat.mul_assoc]
    omega
theorem kn_break {front top d2 u2 q r B : Nat} (hr : q * top + r = front) (hf : front < (top + 1) * B) (h : B ≤ r) (hd : d2 < B) : q < B ∧ q * d2 ≤ r * B + u2 := by
  have hq : q < B := by
    refine Nat.lt_of_not_le fun hle => ?_
    have : B * top ≤ q * top := Nat.mul_le_mul_right _ hle
    rw [Nat.add_mul, Nat.one_mul, Nat.mul_comm top] at hf
    omega
  refine ⟨hq, ?_⟩
  have h1 : q * d2 ≤ r * B := Nat.mul_le_mul (by omega) (by omega)
  omega
theorem kn_parts {n m : Nat} (h : n < 4294967296 ^ (m + 2)) : n = (lm n (m + 1) * 4294967296 + lm n m) * 4294967296 ^ m + n % 4294967296 ^ m := by
  have h1 := div_step n m
  have h2 := Nat.div_add_mod n (4294967296 ^ m)
  rw [h1, lm_top (j := m + 1) h] at *
  rw [← Nat.mul_comm] at h2
  rw [Nat.mul_comm (n / 4294967296 ^ (m + 1))]
  omega
theorem kn_front {n m : Nat} (h : n < 4294967296 ^ (m + 3)) : n = ((lm n (m + 2) * 4294967296 + lm n (m + 1)) * 4294967296 + lm n m) * 4294967296 ^ m + n % 4294967296 ^ m := by
  have h1 := div_step n m
  have h0 := div_step n (m + 1)
  have h2 := Nat.div_add_mod n (4294967296 ^ m)
  rw [← Nat.mul_comm, h1, h0, ← lm_top (j := m + 2) h] at h2
  rw [Nat.mul_comm (lm n (m + 2)), Nat.mul_comm _ 4294967296]
  omega
theorem kn_true {dv seg top d2 dl X u2 sl P B qd : Nat} (hd : dv = (top * B + d2) * P + dl) (hs : seg = (X * B + u2) * P + sl) (hsl : sl < P) (h : qd * dv ≤ seg) : qd * (top * B + d2) ≤ X * B + u2 := by
  refine Nat.le_of_not_lt fun hlt => ?_
  have h1 : (X * B + u2 + 1) * P ≤ qd * (top * B + d2) * P := Nat.mul_le_mul_right _ hlt
  rw [Nat.add_mul, Nat.one_mul] at h1
  have h2 : qd * (top * B + d2) * P ≤ qd * dv := by
    rw [hd, Nat.mul_assoc]; exact Nat.mul_le_mul_left _ (by omega)
  omega
theorem kn_lt {dv seg top d2 dl X u2 sl P B : Nat} (hd : dv = (top * B + d2) * P + dl) (hd2 : d2 < B) (hdl : dl < P) (hs : seg = (X * B + u2) * P + sl) (h : seg < dv * B) (hB : 0 < B) : X < (top + 1) * B := by
  refine Nat.lt_of_not_le fun hle => ?_
  have h0 : dv < (top + 1) * B * P := by
    rw [hd]
    have : (top * B + d2 + 1) * P ≤ (top + 1) * B * P := Nat.mul_le_mul_right _ (by rw [Nat.add_mul]; omega)
    rw [Nat.add_mul, Nat.one_mul] at this
    omega
  have h1 : dv * B ≤ (top + 1) * B * P * B := Nat.mul_le_mul_right _ (by omega)
  have h2 : (top + 1) * B * B * P ≤ (X * B + u2) * P := Nat.mul_le_mul_right _ (by
    have := Nat.mul_le_mul_right B hle; omega)
  have e : (top + 1) * B * P * B = (top + 1) * B * B * P := by rw [Nat.mul_assoc, Nat.mul_comm P B, ← Nat.mul_assoc]
  omega
theorem dig_lm (u dv k : Nat) (hd : 0 < dv) : (u % (dv * 4294967296 ^ (k + 1))) / 4294967296 ^ k / dv = lm (u / dv) k := by
  unfold lm
  rw [Nat.div_div_eq_div_mul, Nat.mul_comm _ dv, Nat.pow_succ, ← Nat.mul_assoc, Nat.mod_mul_right_div_self, ← Nat.div_div_eq_div_mul]
theorem dig_rest (u dv k : Nat) (hd : 0 < dv) : u % (dv * 4294967296 ^ k) = (u % (dv * 4294967296 ^ (k + 1))) - lm (u / dv) k * (dv * 4294967296 ^ k) := by
  have e : u % (dv * 4294967296 ^ (k + 1)) % (dv * 4294967296 ^ k) = u % (dv * 4294967296 ^ k) := by
    rw [Nat.pow_succ, ← Nat.mul_assoc, Nat.mod_mul_right_mod]
  rw [← e, ← dig_lm u dv k hd, Nat.div_div_eq_div_mul, Nat.mul_comm (4294967296 ^ k) dv]
  generalize u % (dv * 4294967296 ^ (k + 1)) = R
  have := Nat.div_add_mod R (dv * 4294967296 ^ k)
  rw [Nat.mul_comm] at this
  omega
theorem limb_byte {v c i : Nat} (hv : v < 256 ^ i) (hc : c < 256) :
    (∀ j, lm (v + 256 ^ i * c) j = if j = i / 4 then lm v (i / 4) + c * 2 ^ (8 * (i % 4)) else lm v j) ∧ lm v (i / 4) < 2 ^ (8 * (i % 4)) ∧ lm v (i / 4) + c * 2 ^ (8 * (i % 4)) < 4294967296 := by
  have e2 : 2 ^ (8 * (i % 4)) = 256 ^ (i % 4) := by rw [Nat.pow_mul]
  have ei : 256 ^ i = 4294967296 ^ (i / 4) * 256 ^ (i % 4) := by rw [← pow4, ← Nat.pow_add]; congr 1; omega
  have hW : 256 ^ (i % 4) * 256 ≤ 4294967296 := by
    have : i % 4 = 0 ∨ i % 4 = 1 ∨ i % 4 = 2 ∨ i % 4 = 3 := by omega
    rcases this with h | h | h | h <;> rw [h] <;> decide
  rw [e2]
  rw [ei] at hv ⊢
  generalize 256 ^ (i % 4) = W at *
  have hq : v / 4294967296 ^ (i / 4) < W := Nat.div_lt_of_lt_mul hv
  have hlq : lm v (i / 4) = v / 4294967296 ^ (i / 4) := by unfold lm; rw [Nat.mod_eq_of_lt (by omega)]
  have hb : v / 4294967296 ^ (i / 4) + c * W < 4294967296 := by
    have : (c + 1) * W ≤ 256 * W := Nat.mul_le_mul_right _ (by omega)
    rw [Nat.add_mul, Nat.one_mul] at this
    omega
  refine ⟨fun j => ?_, by rw [hlq]; exact hq, by rw [hlq]; exact hb⟩
  have es : v + 4294967296 ^ (i / 4) * W * c = v + W * c * 4294967296 ^ (i / 4) := by rw [Nat.mul_assoc, Nat.mul_comm]
  rcases Nat.lt_trichotomy j (i / 4) with g | g | g
  · rw [if_neg (by omega), es, lm_add_mul g]
  · rw [if_pos g, g, hlq]
    unfold lm
    rw [es, Nat.add_mul_div_right _ _ (pB _), Nat.mul_comm W c, Nat.mod_eq_of_lt hb]
  · rw [if_neg (by omega)]
    have h1 : v < 4294967296 ^ (i / 4 + 1) := by
      rw [Nat.pow_succ]
      exact Nat.lt_of_lt_of_le hv (Nat.mul_le_mul_left _ (by omega))
    have h2 : v + 4294967296 ^ (i / 4) * W * c < 4294967296 ^ (i / 4 + 1) := by
      have hd := Nat.div_add_mod v (4294967296 ^ (i / 4))
      have hm := Nat.mod_lt v (pB (i / 4))
      have : 4294967296 ^ (i / 4) * (v / 4294967296 ^ (i / 4) + c * W + 1) ≤ 4294967296 ^ (i / 4) * 4294967296 := Nat.mul_le_mul_left _ (by omega)
      rw [Nat.mul_add, Nat.mul_add, Nat.mul_one, ← Nat.mul_assoc, ← Nat.pow_succ] at this
      have e3 : 4294967296 ^ (i / 4) * c * W = 4294967296 ^ (i / 4) * W * c := by rw [Nat.mul_assoc, Nat.mul_comm c W, ← Nat.mul_assoc]
      omega
    rw [lm_of_lt' h1 (by omega), lm_of_lt' h2 (by omega)]
theorem byte_limb (n i k : Nat) (hk : k < 4) : lm n i / 2 ^ (8 * k) % 256 = n / 256 ^ (4 * i + k) % 256 := by
  have e2 : 2 ^ (8 * k) = 256 ^ k := by rw [Nat.pow_mul]
  rw [e2, Nat.pow_add, pow4, ← Nat.div_div_eq_div_mul]
  unfold lm
  have hk' : k = 0 ∨ k = 1 ∨ k = 2 ∨ k = 3 := by omega
  rcases hk' with h | h | h | h <;> subst h <;> simp only [Nat.pow_zero, Nat.reducePow] <;> omega
theorem byte_step (n p : Nat) : n % 256 ^ (p + 1) = n % 256 ^ p + 256 ^ p * (n / 256 ^ p % 256) := by
  rw [Nat.pow_succ, Nat.mod_mul]
theorem mod_add_cases (b c : Nat) {P : Nat} (hP : 0 < P) : c % P + b % P = (b + c) % P ∨ c % P + b % P = (b + c) % P + P := by
  rw [Nat.add_mod b c]
  have u1 := Nat.mod_lt b hP
  have u2 := Nat.mod_lt c hP
  generalize b % P = x at *
  generalize c % P = y at *
  by_cases g : x + y < P
  · rw [Nat.mod_eq_of_lt g]; omega
  · rw [Nat.mod_eq_sub_mod (by omega), Nat.mod_eq_of_lt (by omega)]; omega
theorem sub_mods {a b : Nat} (h : b ≤ a) (i : Nat) : (a - b) % 4294967296 ^ (i + 1) + b % 4294967296 ^ (i + 1) = a % 4294967296 ^ (i + 1) ∨ (a - b) % 4294967296 ^ (i + 1) + b % 4294967296 ^ (i + 1) = a % 4294967296 ^ (i + 1) + 4294967296 ^ (i + 1) := by
  obtain ⟨c, rfl⟩ : ∃ c, a = b + c := ⟨a - b, by omega⟩
  rw [Nat.add_sub_cancel_left]
  exact mod_add_cases b c (pB _)
end Go.Eng
end
section
set_option linter.unusedVariables false
set_option linter.unusedSimpArgs false
set_option linter.unusedSectionVars false
namespace Go.Eng
variable {P : Program} {E : Env}
theorem iota1 (n k N k' : Nat) : iotaE [(n, k)] N k' = if n = k' then some ⟨k, 0, []⟩ else if k' < N then some ⟨k', 0, []⟩ else none := by
  unfold iotaE
  by_cases h : n = k'
  · simp [h]
  · simp [h]
theorem iota2 (n k m l N k' : Nat) : iotaE [(n, k), (m, l)] N k' = if n = k' then some ⟨k, 0, []⟩ else if m = k' then some ⟨l, 0, []⟩ else if k' < N then some ⟨k', 0, []⟩ else none := by
  unfold iotaE
  by_cases h : n = k'
  · simp [h]
  · by_cases h2 : m = k'
    · simp [h, h2]
    · simp [h, h2]
theorem iota0 (N k' : Nat) : iotaE [] N k' = if k' < N then some ⟨k', 0, []⟩ else none := by
  simp [iotaE]
def vr1 (vf : Nat → Value) : Prop := ∀ (β : Emb) i j, β i = some ⟨j, 0, []⟩ → VR β (vf i) (vf j)
theorem vr1_sl (off len cap : Nat) : vr1 fun k => .slice (some ⟨k, off, none⟩) len cap := fun β i j h => .sl i off len cap ⟨j, 0, []⟩ h
theorem vr1_flat {v : Value} (h : flatV v = true) : vr1 fun _ => v := fun β i j _ => flatV_vr h
theorem vr1_pair {f g : Nat → Value} (hf : vr1 f) (hg : vr1 g) : vr1 fun k => .tuple ⟨[f k, g k]⟩ :=
  fun β i j h => .tup _ _ (.cons _ _ _ _ (hf β i j h) (.cons _ _ _ _ (hg β i j h) .nil))
def nwS (F : List Value → Heap → Option ((Nat → Value) × Blk)) : Spec := fun args h n => (F args h).map fun r => (r.1 n, [(n, some r.2)], 1)
def FinN (res : List IRes) (vf : Nat → Value) (b : Blk) (h : Heap) (N : Nat) (e : IExit) (s : St) : Prop :=
  isEnd e ∧ ∃ vs k x, resL s res = some vs ∧ one vs = vf k ∧ N ≤ k ∧ hget s.hp k = some ⟨b.elem, b.sz, x, b.cells⟩ ∧ ∀ k, k < N → hget s.hp k = hget h k
theorem nw_run (hE : EnvOK P E) (hm : P.follows .mixedOrders = true) {f : Nat} {nt : Nat} {res : List IRes} {c : ICode} (ht : trFun P f = some ⟨nt, res, c⟩) {F : List Value → Heap → Option ((Nat → Value) × Blk)}
    (mono : ∀ args h h' v, hle h h' → F args h = some v → F args h' = some v)
    (hrun : ∀ args vf b h N, F args h = some (vf, b) → (∀ k b, hget h k = some b → k < N) → b.x = false ∧ b.cells.all isBase = true ∧ vr1 vf ∧ args.length ≤ nt ∧ wpI E c (FinN res vf b h N) ⟨initT args, h, N + 0⟩) : SpecOK P f (nwS F) := by
  refine spec_ok hE hm ht ?_ ?_
  · intro args h h' n o hl e
    simp only [nwS, Option.map_eq_some_iff] at e ⊢
    obtain ⟨v, e1, e2⟩ := e
    exact ⟨v, mono args h h' v hl e1, e2⟩
  · intro args h n v δ m N e hn hN
    simp only [nwS, Option.map_eq_some_iff, Prod.mk.injEq] at e
    obtain ⟨⟨vf, b⟩, e1, rfl, rfl, rfl⟩ := e
    obtain ⟨hx, hb, hv, h2, h3⟩ := hrun args vf b h N e1 hN
    refine ⟨h2, wpI_mono _ ?_ h3⟩
    rintro e s ⟨he, vs, k, x, hvs, hvk, hNk, hk, hh⟩
    refine ⟨he, vs, hvs, [(n, k)], ?_, ?_, ?_, ?_⟩
    · intro p hp
      rw [List.mem_singleton] at hp; subst hp
      simp only; omega
    · rw [hvk]; exact hv _ n k (by rw [iota1, if_pos rfl])
    · intro k' blk e
      simp only [List.cons_append, List.nil_append, hget] at e
      by_cases c : n = k'
      · rw [if_pos c] at e; cases e
        refine .inr ⟨⟨k, 0, []⟩, _, by rw [iota1, if_pos c], hk, rfl, rfl, fun h => ?_, VRs.of_base hb⟩
        rw [hx] at h; cases h
      · rw [if_neg c] at e
        have hlt := hN k' blk e
        exact .inl ⟨hlt, e, by rw [hh k' hlt]; exact e⟩
    · intro k1 k2 L1 L2 a1 a2 b1 b2 e
      rw [iota1] at b1 b2
      by_cases c1 : n = k1
      · by_cases c2 : n = k2
        · omega
        · rw [if_pos c1] at b1; cases b1
          rw [if_neg c2] at b2
          by_cases c3 : k2 < N
          · rw [if_pos c3] at b2; cases b2; simp only at e; omega
          · rw [if_neg c3] at b2; cases b2
      · rw [if_neg c1] at b1
        by_cases c3 : k1 < N
        · rw [if_pos c3] at b1; cases b1
          by_cases c2 : n = k2
          · rw [if_pos c2] at b2; cases b2; simp only at e; omega
          · rw [if_neg c2] at b2
            by_cases c4 : k2 < N
            · rw [if_pos c4] at b2; cases b2; exact e
            · rw [if_neg c4] at b2; cases b2
        · rw [if_neg c3] at b1; cases b1
def vr2 (vf : Nat → Nat → Value) : Prop := ∀ (β : Emb) i j i' j', β i = some ⟨j, 0, []⟩ → β i' = some ⟨j', 0, []⟩ → VR β (vf i i') (vf j j')
def nw2S (F : List Value → Heap → Option ((Nat → Nat → Value) × Blk × Blk)) : Spec := fun args h n => (F args h).map fun r => (r.1 n (n + 1), [(n, some r.2.1), (n + 1, some r.2.2)], 2)
def Fin2 (res : List IRes) (vf : Nat → Nat → Value) (b b' : Blk) (h : Heap) (N : Nat) (e : IExit) (s : St) : Prop :=
  isEnd e ∧ ∃ vs k k' x x', resL s res = some vs ∧ one vs = vf k k' ∧ N ≤ k ∧ N ≤ k' ∧ k ≠ k' ∧ hget s.hp k = some ⟨b.elem, b.sz, x, b.cells⟩ ∧ hget s.hp k' = some ⟨b'.elem, b'.sz, x', b'.cells⟩ ∧ ∀ k, k < N → hget s.hp k = hget h k
theorem nw2_run (hE : EnvOK P E) (hm : P.follows .mixedOrders = true) {f : Nat} {nt : Nat} {res : List IRes} {c : ICode} (ht : trFun P f = some ⟨nt, res, c⟩) {F : List Value → Heap → Option ((Nat → Nat → Value) × Blk × Blk)}
    (mono : ∀ args h h' v, hle h h' → F args h = some v → F args h' = some v)
    (hrun : ∀ args vf b b' h N, F args h = some (vf, b, b') → (∀ k b, hget h k = some b → k < N) → b.x = false ∧ b'.x = false ∧ b.cells.all isBase = true ∧ b'.cells.all isBase = true ∧ vr2 vf ∧ args.length ≤ nt ∧ wpI E c (Fin2 res vf b b' h N) ⟨initT args, h, N + 0⟩) : SpecOK P f (nw2S F) := by
  refine spec_ok hE hm ht ?_ ?_
  · intro args h h' n o hl e
    simp only [nw2S, Option.map_eq_some_iff] at e ⊢
    obtain ⟨v, e1, e2⟩ := e
    exact ⟨v, mono args h h' v hl e1, e2⟩
  · intro args h n v δ m N e hn hN
    simp only [nw2S, Option.map_eq_some_iff, Prod.mk.injEq] at e
    obtain ⟨⟨vf, b, b'⟩, e1, rfl, rfl, rfl⟩ := e
    obtain ⟨hx, hx', hb, hb', hv, h2, h3⟩ := hrun args vf b b' h N e1 hN
    refine ⟨h2, wpI_mono _ ?_ h3⟩
    rintro e s ⟨he, vs, k, l, x, x', hvs, hvk, hNk, hNl, hkl, hk, hl, hh⟩
    refine ⟨he, vs, hvs, [(n, k), (n + 1, l)], ?_, ?_, ?_, ?_⟩
    · intro p hp
      rw [List.mem_cons, List.mem_singleton] at hp
      rcases hp with rfl | rfl
      · simp only; omega
      · simp only; omega
    · rw [hvk]; exact hv _ n k (n + 1) l (by rw [iota2, if_pos rfl]) (by rw [iota2, if_neg (by omega), if_pos rfl])
    · intro k' blk e
      simp only [List.cons_append, List.nil_append, hget] at e
      by_cases c : n = k'
      · rw [if_pos c] at e; cases e
        refine .inr ⟨⟨k, 0, []⟩, _, by rw [iota2, if_pos c], hk, rfl, rfl, fun h => ?_, VRs.of_base hb⟩
        rw [hx] at h; cases h
      · rw [if_neg c] at e
        by_cases c' : n + 1 = k'
        · rw [if_pos c'] at e; cases e
          refine .inr ⟨⟨l, 0, []⟩, _, by rw [iota2, if_neg c, if_pos c'], hl, rfl, rfl, fun h => ?_, VRs.of_base hb'⟩
          rw [hx'] at h; cases h
        · rw [if_neg c'] at e
          have hlt := hN k' blk e
          exact .inl ⟨hlt, e, by rw [hh k' hlt]; exact e⟩
    · have tell : ∀ k1 L1, iotaE [(n, k), (n + 1, l)] N k1 = some L1 → (k1 = n ∧ L1.b = k) ∨ (k1 = n + 1 ∧ L1.b = l) ∨ (k1 ≠ n ∧ k1 ≠ n + 1 ∧ L1.b = k1 ∧ k1 < N) := by
        intro k1 L1 b1
        rw [iota2] at b1
        by_cases c1 : n = k1
        · rw [if_pos c1] at b1; cases b1; exact .inl ⟨c1.symm, rfl⟩
        · rw [if_neg c1] at b1
          by_cases c2 : n + 1 = k1
          · rw [if_pos c2] at b1; cases b1; exact .inr (.inl ⟨c2.symm, rfl⟩)
          · rw [if_neg c2] at b1
            by_cases c3 : k1 < N
            · rw [if_pos c3] at b1; cases b1; exact .inr (.inr ⟨fun h => c1 h.symm, fun h => c2 h.symm, rfl, c3⟩)
            · rw [if_neg c3] at b1; cases b1
      intro k1 k2 L1 L2 a1 a2 b1 b2 e
      have t1 := tell k1 L1 b1
      have t2 := tell k2 L2 b2
      omega
def upS (F : List Value → Heap → Option (Value × Nat × Blk)) : Spec := fun args h n => (F args h).map fun r => (r.1, [(r.2.1, some r.2.2)], 0)
def FinU (res : List IRes) (v : Value) (k : Nat) (b : Blk) (h : Heap) (N : Nat) (e : IExit) (s : St) : Prop :=
  isEnd e ∧ ∃ vs, resL s res = some vs ∧ one vs = v ∧ hget s.hp k = some b ∧ ∀ k', k' < N → k' ≠ k → hget s.hp k' = hget h k'
theorem up_run (hE : EnvOK P E) (hm : P.follows .mixedOrders = true) {f : Nat} {nt : Nat} {res : List IRes} {c : ICode} (ht : trFun P f = some ⟨nt, res, c⟩) {F : List Value → Heap → Option (Value × Nat × Blk)}
    (mono : ∀ args h h' v, hle h h' → F args h = some v → F args h' = some v)
    (hrun : ∀ args v k b h N, F args h = some (v, k, b) → (∀ k b, hget h k = some b → k < N) → k < N ∧ b.cells.all isBase = true ∧ flatW v = true ∧ args.length ≤ nt ∧ wpI E c (FinU res v k b h N) ⟨initT args, h, N + 0⟩) : SpecOK P f (upS F) := by
  refine spec_ok hE hm ht ?_ ?_
  · intro args h h' n o hl e
    simp only [upS, Option.map_eq_some_iff] at e ⊢
    obtain ⟨v, e1, e2⟩ := e
    exact ⟨v, mono args h h' v hl e1, e2⟩
  · intro args h n v δ m N e hn hN
    simp only [upS, Option.map_eq_some_iff, Prod.mk.injEq] at e
    obtain ⟨⟨v0, k, b⟩, e1, rfl, rfl, rfl⟩ := e
    obtain ⟨hk, hb, hv, h2, h3⟩ := hrun args v0 k b h N e1 hN
    refine ⟨h2, wpI_mono _ ?_ h3⟩
    rintro e s ⟨he, vs, hvs, hvk, hbk, hh⟩
    refine ⟨he, vs, hvs, [], fun p hp => (by simp at hp), by rw [hvk]; exact flatW_vr hv, ?_, ?_⟩
    · intro k' blk e
      simp only [List.cons_append, List.nil_append, hget] at e
      by_cases c : k = k'
      · rw [if_pos c] at e; cases e
        refine .inr ⟨⟨k, 0, []⟩, b, by rw [iota0, if_pos (by omega), c], hbk, rfl, rfl, id, VRs.of_base hb⟩
      · rw [if_neg c] at e
        have hlt := hN k' blk e
        exact .inl ⟨hlt, e, by rw [hh k' hlt (fun e => c e.symm)]; exact e⟩
    · intro k1 k2 L1 L2 a1 a2 b1 b2 e
      rw [iota0] at b1 b2
      by_cases c1 : k1 < N
      · by_cases c2 : k2 < N
        · rw [if_pos c1] at b1; rw [if_pos c2] at b2
          cases b1; cases b2; exact e
        · rw [if_neg c2] at b2; cases b2
      · rw [if_neg c1] at b1; cases b1
theorem a_call2 {tm : List (Nat × Value)} {hp : Heap} {N k d : Nat} {v : Value} {x y : Nat × Option Blk} {K : St → Prop} :
    @aft (some d) (some (v, [x, y], 2)) ⟨(⟨tm, hp, N + k⟩, K)⟩ = K ⟨(d, v) :: tm, x :: y :: hp, N + (k + 2)⟩ := propext Iff.rfl
def shows (h : Heap) : Value → Option (List Value)
  | .slice (some ⟨k, off, none⟩) len _ => match hget h k with
    | some blk => if off + len ≤ blk.cells.length then some ((blk.cells.drop off).take len) else none
    | none => none
  | _ => none
theorem shows_mono {h h' : Heap} {v : Value} {cs : List Value} (hl : hle h h') (e : shows h v = some cs) : shows h' v = some cs := by
  unfold shows at e ⊢
  split at e
  · split at e
    · rename_i blk hb
      simp only [hl _ _ hb]; exact e
    · cases e
  · cases e
theorem shows_inv {h : Heap} {v : Value} {cs : List Value} (e : shows h v = some cs) : ∃ k off len cap blk, v = .slice (some ⟨k, off, none⟩) len cap ∧ hget h k = some blk ∧ off + len ≤ blk.cells.length ∧ cs = (blk.cells.drop off).take len ∧ cs.length = len := by
  unfold shows at e
  split at e
  · rename_i k off len cap
    split at e
    · rename_i blk hb
      split at e
      · rename_i hl
        cases e
        refine ⟨k, off, len, cap, blk, rfl, hb, hl, rfl, ?_⟩
        rw [List.length_take, List.length_drop]; omega
      · cases e
    · cases e
  · cases e
end Go.Eng
end
section
set_option linter.unusedVariables false
set_option linter.unusedSimpArgs false
set_option linter.unusedSectionVars false
set_option maxRecDepth 4000
namespace Go.Eng
open Go Go.Proofs Go.IntWalk
def spTrB : List Value → Option Value
  | [.string ⟨⟨l⟩⟩, .int .u8 0] => if l.length ≤ 1099511627776 then some (.string ⟨⟨bl (nl l)⟩⟩) else none
  | _ => none
def c141 : ICode :=
  (.seq (.reg [qq 4 (.mv (.c e0))]) (.seq (.block 0 (.loop (.seq (.seq (.reg [qq 5 (.mv (.t 0)), qq 6 (.lens (.t 5)), qq 7 (.bin .gtr (.t 6) (ci 0)), qq 8 (.mv (.t 7)), ⟨(some 9), (some (8, true)), (.mv (.t 0))⟩, ⟨(some 10), (some (8, true)), (.mv (.t 0))⟩, ⟨(some 11), (some (8, true)), (.lens (.t 10))⟩, ⟨(some 12), (some (8, true)), (.bin .sub (.t 11) (ci 1))⟩, ⟨(some 13), (some (8, true)), (.idstr (.t 9) (.t 12))⟩, ⟨(some 14), (some (8, true)), (.mv (.t 1))⟩, ⟨(some 15), (some (8, true)), (.bin .eql (.t 13) (.t 14))⟩, qq 16 (.pick (.t 8) (.t 15) (.c (.bool false)))]) (.cond (.t 16) .skip (.exit 0))) (.block 1 (.reg [qq 17 (.mv (.t 0)), qq 18 (.mv (.t 0)), qq 19 (.lens (.t 18)), qq 20 (.bin .sub (.t 19) (ci 1)), qq 21 (.slstr (.t 17) none (some (.t 20))), qq 0 (.mv (.t 21))]))))) (.seq (.reg [qq 22 (.mv (.t 0)), qq 4 (.mv (.t 22))]) .ret)))
theorem tr141 : trFun Tryz.prog 141 = some ⟨23, [.t 4], c141⟩ := by kernel_rfl
theorem ok_trB : SpecOK Tryz.prog 141 (flat spTrB) := by
  refine flat_run (env_nil _) mixed tr141 ?_
  intro args v h N hG
  unfold spTrB at hG
  split at hG
  case h_2 => cases hG
  rename_i l
  split at hG
  case isFalse => cases hG
  rename_i hl
  cases hG
  refine ⟨rfl, by simp, ?_⟩
  simp only [c141, G0, Nat.reduceAdd]
  simp only [↓R0, R1, simprocAttr, -Int.reduceAbs]
  refine lp_parts (fun n tm hp nx => tmget tm 0 = .string ⟨⟨l.take n⟩⟩ ∧ tmget tm 1 = .int .u8 0 ∧ n ≤ l.length ∧ (∀ i, n ≤ i → i < l.length → l[i]? = some 0) ∧ hp = h ∧ nx = N + 0) ?_ l.length ⟨?_, ?_, Nat.le_refl _, fun i h1 h2 => by omega, rfl, rfl⟩
  · intro n tm hp nx ⟨h0, h1, hn, hz, rfl, rfl⟩
    have hlen : (l.take n).length = n := by rw [List.length_take]; omega
    simp only [↓R0, R1, simprocAttr, -Int.reduceAbs, h0, h1, hlen]
    by_cases hb : 0 < n
    · obtain ⟨n, rfl⟩ : ∃ n', n = n' + 1 := ⟨n - 1, by omega⟩
      have e1 : IntKind.i64.wrap (((n + 1 : Nat) : Int) - 1) = (n : Int) := by rw [i64_in _ (by omega)]; omega
      obtain ⟨b, hbb⟩ : ∃ b, l[n]? = some b := ⟨_, List.getElem?_eq_getElem (by omega)⟩
      have ht : (l.take (n + 1))[n]? = some b := by rw [List.getElem?_take, if_pos (by omega), hbb]
      have ht2 : (l.take (n + 1)).take n = l.take n := by rw [List.take_take]; congr 1; omega
      have hb2 : (((n + 1 : Nat) : Int) > 0) = True := eq_true (by omega)
      have hb3 : n ≤ n + 1 := by omega
      simp only [↓R0, R1, simprocAttr, -Int.reduceAbs, h0, h1, hb2, hlen, e1, ht]
      refine cd_case (fun hc => ?_) (fun hc => ?_)
      · simp only [↓R0, R1, simprocAttr, -Int.reduceAbs, h0, h1, e1, hlen, hb3, ht2]
        refine ⟨n, by omega, rfl, by omega, fun i h1 h2 => ?_⟩
        by_cases e : i = n
        · subst e; rw [hbb]; congr 1; apply UInt8.toNat_inj.1; simp at hc ⊢; omega
        · exact hz i (by omega) h2
      · simp only [↓R0, R1, simprocAttr, -Int.reduceAbs, h0]
        refine fin_t trivial ?_ (fun k hk => rfl)
        simp only [↓R0, R1, simprocAttr, -Int.reduceAbs, h0]
        rw [take_norm hn hz (.inr ⟨b, hbb, fun e => by subst e; simp at hc⟩)]
    · have e : n = 0 := by omega
      subst e
      simp only [↓R0, R1, simprocAttr, -Int.reduceAbs, h0, Int.natCast_zero]
      refine fin_t trivial ?_ (fun k hk => rfl)
      simp only [↓R0, R1, simprocAttr, -Int.reduceAbs, h0]
      have := take_norm hn hz (.inl rfl)
      rw [List.take_zero] at this
      rw [← this]
  · simp only [↓R0, R1, simprocAttr, -Int.reduceAbs, List.take_length]
  · simp only [↓R0, R1, simprocAttr, -Int.reduceAbs]
def spTrR : List Value → Option Value
  | [.string ⟨⟨l⟩⟩, .string ⟨⟨[0]⟩⟩] => if l.length ≤ 1099511627776 then some (.string ⟨⟨bl (nl l)⟩⟩) else none
  | _ => none
def c133 : ICode :=
  (.seq (.reg [qq 4 (.mv (.c e0))]) (.seq (.seq (.reg [qq 7 (.mv (.t 0)), qq 8 (.bin .eql (.t 7) (.c e0)), qq 9 (.mv (.t 8)), ⟨(some 10), (some (9, false)), (.mv (.t 1))⟩, ⟨(some 11), (some (9, false)), (.bin .eql (.t 10) (.c e0))⟩, qq 12 (.pick (.t 9) (.c (.bool true)) (.t 11))]) (.cond (.t 12) (.seq (.reg [qq 13 (.mv (.t 0)), qq 4 (.mv (.t 13))]) .ret) .skip)) (.seq (.seq (.reg [qq 14 (.mv (.t 1)), qq 15 (.lens (.t 14)), qq 16 (.bin .eql (.t 15) (ci 1)), qq 17 (.mv (.t 16)), ⟨(some 18), (some (17, true)), (.mv (.t 1))⟩, ⟨(some 19), (some (17, true)), (.idstr (.t 18) (ci 0))⟩, ⟨(some 20), (some (17, true)), (.bin .lss (.t 19) (.c (.int .u8 128)))⟩, qq 21 (.pick (.t 17) (.t 20) (.c (.bool false)))]) (.cond (.t 21) (.seq (.reg [qq 22 (.mv (.t 0)), qq 23 (.mv (.t 1)), qq 24 (.idstr (.t 23) (ci 0)), qq 25 (.call 141 [(.t 22), (.t 24)]), qq 4 (.mv (.t 25))]) .ret) .skip)) (.seq (.seq (.reg [qq 27 (.mv (.t 1)), qq 28 (.call 142 [(.t 27)]), qq 26 (.mv (.t 28)), qq 29 (.ext (.t 26) 0), qq 30 (.ext (.t 26) 1), qq 5 (.alloc 142 256 [(.bool false), (.bool false), (.bool false), (.bool false), (.bool false), (.bool false), (.bool false), (.bool false), (.bool false), (.bool false), (.bool false), (.bool false), (.bool false), (.bool false), (.bool false), (.bool false), (.bool false), (.bool false), (.bool false), (.bool false), (.bool false), (.bool false), (.bool false), (.bool false), (.bool false), (.bool false), (.bool false), (.bool false), (.bool false), (.bool false), (.bool false), (.bool false), (.bool false), (.bool false), (.bool false), (.bool false), (.bool false), (.bool false), (.bool false), (.bool false), (.bool false), (.bool false), (.bool false), (.bool false), (.bool false), (.bool false), (.bool false), (.bool false), (.bool false), (.bool false), (.bool false), (.bool false), (.bool false), (.bool false), (.bool false), (.bool false), (.bool false), (.bool false), (.bool false), (.bool false), (.bool false), (.bool false), (.bool false), (.bool false), (.bool false), (.bool false), (.bool false), (.bool false), (.bool false), (.bool false), (.bool false), (.bool false), (.bool false), (.bool false), (.bool false), (.bool false), (.bool false), (.bool false), (.bool false), (.bool false), (.bool false), (.bool false), (.bool false), (.bool false), (.bool false), (.bool false), (.bool false), (.bool false), (.bool false), (.bool false), (.bool false), (.bool false), (.bool false), (.bool false), (.bool false), (.bool false), (.bool false), (.bool false), (.bool false), (.bool false), (.bool false), (.bool false), (.bool false), (.bool false), (.bool false), (.bool false), (.bool false), (.bool false), (.bool false), (.bool false), (.bool false), (.bool false), (.bool false), (.bool false), (.bool false), (.bool false), (.bool false), (.bool false), (.bool false), (.bool false), (.bool false), (.bool false), (.bool false), (.bool false), (.bool false), (.bool false), (.bool false), (.bool false), (.bool false), (.bool false), (.bool false), (.bool false), (.bool false), (.bool false), (.bool false), (.bool false), (.bool false), (.bool false), (.bool false), (.bool false), (.bool false), (.bool false), (.bool false), (.bool false), (.bool false), (.bool false), (.bool false), (.bool false), (.bool false), (.bool false), (.bool false), (.bool false), (.bool false), (.bool false), (.bool false), (.bool false), (.bool false), (.bool false), (.bool false), (.bool false), (.bool false), (.bool false), (.bool false), (.bool false), (.bool false), (.bool false), (.bool false), (.bool false), (.bool false), (.bool false), (.bool false), (.bool false), (.bool false), (.bool false), (.bool false), (.bool false), (.bool false), (.bool false), (.bool false), (.bool false), (.bool false), (.bool false), (.bool false), (.bool false), (.bool false), (.bool false), (.bool false), (.bool false), (.bool false), (.bool false), (.bool false), (.bool false), (.bool false), (.bool false), (.bool false), (.bool false), (.bool false), (.bool false), (.bool false), (.bool false), (.bool false), (.bool false), (.bool false), (.bool false), (.bool false), (.bool false), (.bool false), (.bool false), (.bool false), (.bool false), (.bool false), (.bool false), (.bool false), (.bool false), (.bool false), (.bool false), (.bool false), (.bool false), (.bool false), (.bool false), (.bool false), (.bool false), (.bool false), (.bool false), (.bool false), (.bool false), (.bool false), (.bool false), (.bool false), (.bool false), (.bool false), (.bool false), (.bool false), (.bool false), (.bool false), (.bool false), (.bool false), (.bool false), (.bool false), (.bool false), (.bool false), (.bool false), (.bool false), (.bool false), (.bool false), (.bool false), (.bool false), (.bool false), (.bool false), (.bool false), (.bool false), (.bool false), (.bool false), (.bool false), (.bool false), (.bool false)]), qn (.store 256 (.t 5) (.t 29)), qq 6 (.mv (.t 30))]) (.seq (.reg [qq 31 (.mv (.t 6))]) (.cond (.t 31) (.seq (.reg [qq 32 (.mv (.t 0)), qq 33 (.call 143 [(.t 32), (.t 5)]), qq 4 (.mv (.t 33))]) .ret) .skip))) (.seq (.reg [qq 34 (.mv (.t 0)), qq 35 (.mv (.t 1)), qq 36 (.call 144 [(.t 34), (.t 35)]), qq 4 (.mv (.t 36))]) .ret)))))
theorem tr133 : trFun Tryz.prog 133 = some ⟨37, [.t 4], c133⟩ := by kernel_rfl
theorem ok_trR : SpecOK Tryz.prog 133 (flat spTrR) := by
  refine flat_run (env_cons ok_trB (env_nil _)) mixed tr133 ?_
  intro args v h N hG
  unfold spTrR at hG
  split at hG
  case h_2 => cases hG
  rename_i l
  split at hG
  case isFalse => cases hG
  rename_i hl
  cases hG
  refine ⟨rfl, by simp, ?_⟩
  simp only [c133, G0, Nat.reduceAdd]
  by_cases e : l = []
  · subst e
    have : bl (nl []) = [] := by simp [nl, bl_zero]
    rw [this]
    simp only [↓R0, R1, simprocAttr, -Int.reduceAbs, Fin, isEnd, resL, res1, iE, rE]
    exact ⟨_, rfl, rfl, fun k hk => by simp only [ne_nb hk, if_false]⟩
  · have e' : ¬ (l = ([] : List UInt8)) := e
    have z0 : ((0 : UInt8).toNat : Int) = 0 := rfl
    simp only [↓R0, R1, simprocAttr, -Int.reduceAbs, e', spTrB, hl, z0, List.cons_ne_nil, Fin, isEnd, resL, res1, iE, rE]
    exact ⟨_, rfl, rfl, fun k hk => by simp only [ne_nb hk, if_false]⟩
def spNNorm : List Value → Option Value
  | [.string ⟨⟨l⟩⟩] => if l.length ≤ 1099511627776 then some (.string ⟨⟨bl (nl l)⟩⟩) else none
  | _ => none
def c108 : ICode :=
  (.seq (.reg [qq 2 (.mv (.c e0))]) (.seq (.reg [qq 3 (.mv (.t 0)), qq 4 (.call 133 [(.t 3), (.c (.string ⟨⟨[0]⟩⟩))]), qq 2 (.mv (.t 4))]) .ret))
theorem tr108 : trFun Tryz.prog 108 = some ⟨5, [.t 2], c108⟩ := by kernel_rfl
theorem ok_nNorm : SpecOK Tryz.prog 108 (flat spNNorm) := by
  refine flat_run (env_cons ok_trR (env_nil _)) mixed tr108 ?_
  intro args v h N hG
  unfold spNNorm at hG
  split at hG
  case h_2 => cases hG
  rename_i l
  split at hG
  case isFalse => cases hG
  rename_i hl
  cases hG
  refine ⟨rfl, by simp, ?_⟩
  simp only [c108, G0, Nat.reduceAdd]
  simp only [↓R0, R1, simprocAttr, -Int.reduceAbs, spTrR, hl, Fin, isEnd, resL, res1, iE, rE]
  exact ⟨_, rfl, rfl, fun k hk => by simp only [ne_nb hk, if_false]⟩
end Go.Eng
end
section
set_option linter.unusedVariables false
set_option linter.unusedSimpArgs false
set_option linter.unusedSectionVars false
set_option maxRecDepth 4000
namespace Go.Eng
open Go Go.Proofs Go.IntWalk
def spAdd32 : List Value → Option Value
  | [.int .u32 x, .int .u32 y, .int .u32 c] => if 0 ≤ x ∧ x < 4294967296 ∧ 0 ≤ y ∧ y < 4294967296 ∧ 0 ≤ c ∧ c ≤ 1 then some (.tuple ⟨[.int .u32 ((x + y + c) % 4294967296), .int .u32 ((x + y + c) / 4294967296)]⟩) else none
  | _ => none
def c122 : ICode :=
  (.seq (.reg [qq 6 (.mv (.c (.int .u32 0))), qq 7 (.mv (.c (.int .u32 0)))]) (.seq (.reg [qq 9 (.mv (.t 0)), qq 10 (.conv .u64 (.t 9)), qq 11 (.mv (.t 1)), qq 12 (.conv .u64 (.t 11)), qq 13 (.bin .add (.t 10) (.t 12)), qq 14 (.mv (.t 2)), qq 15 (.conv .u64 (.t 14)), qq 16 (.bin .add (.t 13) (.t 15)), qq 8 (.mv (.t 16))]) (.seq (.reg [qq 17 (.mv (.t 8)), qq 18 (.conv .u32 (.t 17)), qq 6 (.mv (.t 18))]) (.seq (.reg [qq 19 (.mv (.t 8)), qq 20 (.bin .shr (.t 19) (.c (.int .u64 32))), qq 21 (.conv .u32 (.t 20)), qq 7 (.mv (.t 21))]) .ret))))
theorem tr122 : trFun Tryz.prog 122 = some ⟨22, [.t 6, .t 7], c122⟩ := by kernel_rfl
theorem ok_add32 : SpecOK Tryz.prog 122 (flat spAdd32) := by
  refine flat_run (env_nil _) mixed tr122 ?_
  intro args v h N hG
  unfold spAdd32 at hG
  split at hG
  case h_2 => cases hG
  rename_i x y c
  split at hG
  case isFalse => cases hG
  rename_i hl
  cases hG
  refine ⟨rfl, by simp, ?_⟩
  have w64 : ∀ z : Int, 0 ≤ z → z < 18446744073709551616 → IntKind.u64.wrap z = z := fun z h1 h2 => u64_in z ⟨h1, by omega⟩
  have w1 := w64 x (by omega) (by omega)
  have w2 := w64 y (by omega) (by omega)
  have w3 := w64 c (by omega) (by omega)
  have w4 := w64 (x + y) (by omega) (by omega)
  have w5 := w64 (x + y + c) (by omega) (by omega)
  have s1 : IntKind.u32.wrap ((x + y + c).fdiv (2 ^ min 32 IntKind.u64.bits)) = (x + y + c) / 4294967296 := by
    have : (2 : Int) ^ min 32 IntKind.u64.bits = 4294967296 := rfl
    rw [this, Int.fdiv_eq_ediv_of_nonneg _ (by omega), u32_int]; omega
  have s2 := u32_int (x + y + c)
  simp only [c122, G0, Nat.reduceAdd]
  simp only [↓R0, R1, simprocAttr, -Int.reduceAbs, w1, w2, w3, w4, w5, s1, s2, Fin, isEnd, resL, res1, iE, rE]
  exact ⟨_, rfl, rfl, fun k hk => by simp only [ne_nb hk, if_false]⟩
def spSub32 : List Value → Option Value
  | [.int .u32 x, .int .u32 y, .int .u32 c] => if 0 ≤ x ∧ x < 4294967296 ∧ 0 ≤ y ∧ y < 4294967296 ∧ 0 ≤ c ∧ c ≤ 1 then some (.tuple ⟨[.int .u32 ((x - y - c) % 4294967296), .int .u32 (if x < y + c then 1 else 0)]⟩) else none
  | _ => none
def c123 : ICode :=
  (.seq (.reg [qq 6 (.mv (.c (.int .u32 0))), qq 7 (.mv (.c (.int .u32 0)))]) (.seq (.reg [qq 8 (.mv (.t 0)), qq 9 (.mv (.t 1)), qq 10 (.bin .sub (.t 8) (.t 9)), qq 11 (.mv (.t 2)), qq 12 (.bin .sub (.t 10) (.t 11)), qq 6 (.mv (.t 12))]) (.seq (.reg [qq 13 (.mv (.t 0)), qq 14 (.un .xor (.t 13)), qq 15 (.mv (.t 1)), qq 16 (.bin .and (.t 14) (.t 15)), qq 17 (.mv (.t 0)), qq 18 (.mv (.t 1)), qq 19 (.bin .xor (.t 17) (.t 18)), qq 20 (.un .xor (.t 19)), qq 21 (.mv (.t 6)), qq 22 (.bin .and (.t 20) (.t 21)), qq 23 (.bin .or (.t 16) (.t 22)), qq 24 (.bin .shr (.t 23) (.c (.int .u64 31))), qq 7 (.mv (.t 24))]) .ret)))
theorem tr123 : trFun Tryz.prog 123 = some ⟨25, [.t 6, .t 7], c123⟩ := by kernel_rfl
theorem w_and (X Y : BitVec 32) : IntKind.u32.wrap ((BitVec.ofInt IntKind.u32.bits (X.toNat : Int) &&& BitVec.ofInt IntKind.u32.bits (Y.toNat : Int)).toNat : Int) = ((X &&& Y).toNat : Int) := by
  rw [BitVec.toNat_and, bv32 X.isLt, bv32 Y.isLt, ← BitVec.toNat_and, u32_nat (X &&& Y).isLt]
theorem w_or (X Y : BitVec 32) : IntKind.u32.wrap ((BitVec.ofInt IntKind.u32.bits (X.toNat : Int) ||| BitVec.ofInt IntKind.u32.bits (Y.toNat : Int)).toNat : Int) = ((X ||| Y).toNat : Int) := by
  rw [BitVec.toNat_or, bv32 X.isLt, bv32 Y.isLt, ← BitVec.toNat_or, u32_nat (X ||| Y).isLt]
theorem w_xor (X Y : BitVec 32) : IntKind.u32.wrap ((BitVec.ofInt IntKind.u32.bits (X.toNat : Int) ^^^ BitVec.ofInt IntKind.u32.bits (Y.toNat : Int)).toNat : Int) = ((X ^^^ Y).toNat : Int) := by
  rw [BitVec.toNat_xor, bv32 X.isLt, bv32 Y.isLt, ← BitVec.toNat_xor, u32_nat (X ^^^ Y).isLt]
theorem w_not (X : BitVec 32) : IntKind.u32.wrap ((BitVec.ofInt IntKind.u32.bits (if IntKind.u32.signed = true then -1 else IntKind.u32.max) ^^^ BitVec.ofInt IntKind.u32.bits (X.toNat : Int)).toNat : Int) = ((~~~X).toNat : Int) := by
  have e : (BitVec.ofInt IntKind.u32.bits (if IntKind.u32.signed = true then -1 else IntKind.u32.max)).toNat = 4294967295 := rfl
  have e2 : (4294967295 : Nat) = (BitVec.allOnes 32).toNat := rfl
  rw [BitVec.toNat_xor, bv32 X.isLt, e, e2, ← BitVec.toNat_xor, BitVec.allOnes_xor, u32_nat (~~~X).isLt]
theorem ok_sub32 : SpecOK Tryz.prog 123 (flat spSub32) := by
  refine flat_run (env_nil _) mixed tr123 ?_
  intro args v h N hG
  unfold spSub32 at hG
  split at hG
  case h_2 => cases hG
  rename_i x y c
  split at hG
  case isFalse => cases hG
  rename_i hl
  cases hG
  refine ⟨rfl, by simp, ?_⟩
  obtain ⟨h1, h2, h3, h4, h5, h6⟩ := hl
  obtain ⟨X, hX⟩ : ∃ X : BitVec 32, x = (X.toNat : Int) := ⟨BitVec.ofNat 32 x.toNat, by rw [BitVec.toNat_ofNat]; omega⟩
  obtain ⟨Y, hY⟩ : ∃ Y : BitVec 32, y = (Y.toNat : Int) := ⟨BitVec.ofNat 32 y.toNat, by rw [BitVec.toNat_ofNat]; omega⟩
  obtain ⟨D, hD⟩ : ∃ D : BitVec 32, (x - y - c) % 4294967296 = (D.toNat : Int) := ⟨BitVec.ofNat 32 ((x - y - c) % 4294967296).toNat, by rw [BitVec.toNat_ofNat]; omega⟩
  subst hX
  subst hY
  have wd : IntKind.u32.wrap (IntKind.u32.wrap ((X.toNat : Int) - (Y.toNat : Int)) - c) = (D.toNat : Int) := by
    rw [u32_int, u32_int, ← hD]; omega
  have sh : ∀ n : Nat, (n : Int).fdiv (2 ^ min 31 IntKind.u32.bits) = ((n / 2147483648 : Nat) : Int) := by
    intro n
    have : (2 : Int) ^ min 31 IntKind.u32.bits = 2147483648 := rfl
    rw [this, Int.fdiv_eq_ediv_of_nonneg _ (by omega)]; omega
  have bw := borrow32 X Y D c.toNat (by omega) (by rw [← hD]; congr 1; omega)
  have bw2 : ((((~~~X &&& Y) ||| (~~~(X ^^^ Y) &&& D)).toNat / 2147483648 : Nat) : Int) = if (X.toNat : Int) < (Y.toNat : Int) + c then 1 else 0 := by
    rw [bw]
    by_cases g : X.toNat < Y.toNat + c.toNat
    · rw [if_pos g, if_pos (by omega)]; rfl
    · rw [if_neg g, if_neg (by omega)]; rfl
  simp only [c123, G0, Nat.reduceAdd]
  simp only [↓R0, R1, simprocAttr, -Int.reduceAbs, wd, w_and, w_or, w_xor, w_not, sh, Fin, isEnd, resL, res1, iE, rE]
  refine ⟨_, rfl, ?_, fun k hk => trivial⟩
  rw [hD, ← bw2]
  rfl
def spDiv32 : List Value → Option Value
  | [.int .u32 x, .int .u32 y, .int .u32 d] => if 0 ≤ x ∧ x < d ∧ 0 ≤ y ∧ y < 4294967296 ∧ d < 4294967296 then some (.tuple ⟨[.int .u32 ((x * 4294967296 + y) / d), .int .u32 ((x * 4294967296 + y) % d)]⟩) else none
  | _ => none
def c134 : ICode :=
  (.seq (.reg [qq 6 (.mv (.c (.int .u32 0))), qq 7 (.mv (.c (.int .u32 0)))]) (.seq (.seq (.reg [qq 9 (.mv (.t 2)), qq 10 (.bin .neq (.t 9) (.c (.int .u32 0))), qq 11 (.mv (.t 10)), ⟨(some 12), (some (11, true)), (.mv (.t 2))⟩, ⟨(some 13), (some (11, true)), (.mv (.t 0))⟩, ⟨(some 14), (some (11, true)), (.bin .leq (.t 12) (.t 13))⟩, qq 15 (.pick (.t 11) (.t 14) (.c (.bool false)))]) (.cond (.t 15) .fail .skip)) (.seq (.reg [qq 17 (.mv (.t 0)), qq 18 (.conv .u64 (.t 17)), qq 19 (.bin .shl (.t 18) (.c (.int .u64 32))), qq 20 (.mv (.t 1)), qq 21 (.conv .u64 (.t 20)), qq 22 (.bin .or (.t 19) (.t 21)), qq 8 (.mv (.t 22))]) (.seq (.dreg [qu 23 (.mv (.t 8)), qu 24 (.mv (.t 2)), qu 25 (.conv .u64 (.t 24)), qu 26 (.bin .quo (.t 23) (.t 25)), qu 27 (.conv .u32 (.t 26)), qu 28 (.mv (.t 8)), qu 29 (.mv (.t 2)), qu 30 (.conv .u64 (.t 29)), qu 31 (.bin .rem (.t 28) (.t 30)), qu 32 (.conv .u32 (.t 31)), qu 6 (.mv (.t 27)), qu 7 (.mv (.t 32))]) .ret))))
theorem tr134 : trFun Tryz.prog 134 = some ⟨33, [.t 6, .t 7], c134⟩ := by kernel_rfl
theorem ok_div32 : SpecOK Tryz.prog 134 (flat spDiv32) := by
  refine flat_run (env_nil _) mixed tr134 ?_
  intro args v h N hG
  unfold spDiv32 at hG
  split at hG
  case h_2 => cases hG
  rename_i x y d
  split at hG
  case isFalse => cases hG
  rename_i hl
  cases hG
  refine ⟨rfl, by simp, ?_⟩
  obtain ⟨h1, h2, h3, h4, h5⟩ := hl
  obtain ⟨x, rfl⟩ := Int.eq_ofNat_of_zero_le h1
  obtain ⟨y, rfl⟩ := Int.eq_ofNat_of_zero_le h3
  obtain ⟨d, rfl⟩ := Int.eq_ofNat_of_zero_le (show 0 ≤ d by omega)
  have w1 := u64_nat (n := x) (by omega)
  have w2 := u64_nat (n := y) (by omega)
  have w3 := u64_nat (n := d) (by omega)
  have d0 : ¬ (d = 0) := by omega
  have c1 : ¬ ((d : Int) = 0) := by omega
  have c2 : ¬ (d ≤ x) := by omega
  have s1 : IntKind.u64.wrap ((x : Int) * 2 ^ min 32 IntKind.u64.bits) = ((x * 2 ^ 32 : Nat) : Int) := by
    have : (2 : Int) ^ min 32 IntKind.u64.bits = 4294967296 := rfl
    rw [this, ← u64_nat (n := x * 2 ^ 32) (by omega)]; congr 1
  have s2 : IntKind.u64.wrap ((BitVec.ofInt IntKind.u64.bits ((x * 2 ^ 32 : Nat) : Int) ||| BitVec.ofInt IntKind.u64.bits (y : Int)).toNat : Int) = ((y + x * 2 ^ 32 : Nat) : Int) := by
    rw [← or_u64 (x := y) (c := x) (s := 32) (by omega) (by omega), BitVec.or_comm]
  have e0 : (x : Int) * 4294967296 + y = ((y + x * 2 ^ 32 : Nat) : Int) := by omega
  have hz : y + x * 2 ^ 32 < d * 4294967296 := by omega
  have hz2 : (y + x * 2 ^ 32) / d < 4294967296 := (Nat.div_lt_iff_lt_mul (by omega)).2 (by omega)
  have hz3 := Nat.mod_lt (y + x * 2 ^ 32) (show d > 0 by omega)
  rw [e0]
  have e1 : ((y + x * 2 ^ 32 : Nat) : Int).tdiv (d : Int) = (((y + x * 2 ^ 32) / d : Nat) : Int) := by rw [Int.tdiv_eq_ediv_of_nonneg (by omega)]; rfl
  have e2 : ((y + x * 2 ^ 32 : Nat) : Int).tmod (d : Int) = (((y + x * 2 ^ 32) % d : Nat) : Int) := by rw [Int.tmod_eq_emod_of_nonneg (by omega)]; rfl
  have hz4 : (y + x * 2 ^ 32) / d < 18446744073709551616 := by omega
  have w4 := u64_nat hz4
  have w5 := u32_nat hz2
  have w6 := u32_nat (n := (y + x * 2 ^ 32) % d) (by omega)
  simp only [c134, G0, Nat.reduceAdd]
  simp only [↓R0, R1, simprocAttr, -Int.reduceAbs, w1, w2, w3, c1, c2, d0, s1, s2, e1, e2, w4, w5, w6, Fin, isEnd, resL, res1, iE, rE]
  exact ⟨_, rfl, rfl, fun k hk => by simp only [ne_nb hk, if_false]⟩
def tab8 : List UInt8 := [0, 1, 2, 2, 3, 3, 3, 3, 4, 4, 4, 4, 4, 4, 4, 4, 5, 5, 5, 5, 5, 5, 5, 5, 5, 5, 5, 5, 5, 5, 5, 5, 6, 6, 6, 6, 6, 6, 6, 6, 6, 6, 6, 6, 6, 6, 6, 6, 6, 6, 6, 6, 6, 6, 6, 6, 6, 6, 6, 6, 6, 6, 6, 6, 7, 7, 7, 7, 7, 7, 7, 7, 7, 7, 7, 7, 7, 7, 7, 7, 7, 7, 7, 7, 7, 7, 7, 7, 7, 7, 7, 7, 7, 7, 7, 7, 7, 7, 7, 7, 7, 7, 7, 7, 7, 7, 7, 7, 7, 7, 7, 7, 7, 7, 7, 7, 7, 7, 7, 7, 7, 7, 7, 7, 7, 7, 7, 7, 8, 8, 8, 8, 8, 8, 8, 8, 8, 8, 8, 8, 8, 8, 8, 8, 8, 8, 8, 8, 8, 8, 8, 8, 8, 8, 8, 8, 8, 8, 8, 8, 8, 8, 8, 8, 8, 8, 8, 8, 8, 8, 8, 8, 8, 8, 8, 8, 8, 8, 8, 8, 8, 8, 8, 8, 8, 8, 8, 8, 8, 8, 8, 8, 8, 8, 8, 8, 8, 8, 8, 8, 8, 8, 8, 8, 8, 8, 8, 8, 8, 8, 8, 8, 8, 8, 8, 8, 8, 8, 8, 8, 8, 8, 8, 8, 8, 8, 8, 8, 8, 8, 8, 8, 8, 8, 8, 8, 8, 8, 8, 8, 8, 8, 8, 8, 8, 8, 8, 8, 8, 8, 8, 8, 8, 8, 8, 8]
def l8 (n : Nat) : Nat := (tab8[n]?.getD 0).toNat
def l32r (n : Nat) : Nat :=
  if 65536 ≤ n then (if 256 ≤ n / 65536 then 24 + l8 (n / 16777216) else 16 + l8 (n / 65536)) else (if 256 ≤ n then 8 + l8 (n / 256) else l8 n)
theorem l32_ex : ∃ f : Nat → Nat, ∀ n, f n = l32r n := ⟨_, fun _ => rfl⟩
noncomputable def l32 : Nat → Nat := Classical.choose l32_ex
theorem l32_eq (n : Nat) : l32 n = l32r n := Classical.choose_spec l32_ex n
theorem l8_tab : ∀ n, n < 256 → n < 2 ^ l8 n ∧ l8 n ≤ 8 := of_decide_eq_true (by kernel_rfl)
theorem l8_lt {n : Nat} (h : n < 256) : n < 2 ^ l8 n := (l8_tab n h).1
theorem l8_le {n : Nat} (h : n < 256) : l8 n ≤ 8 := (l8_tab n h).2
theorem l32_le {n : Nat} (h : n < 4294967296) : l32 n ≤ 32 := by
  rw [l32_eq]; unfold l32r
  split
  · split
    · have := l8_le (n := n / 16777216) (by omega); omega
    · have := l8_le (n := n / 65536) (by omega); omega
  · split
    · have := l8_le (n := n / 256) (by omega); omega
    · have := l8_le (n := n) (by omega); omega
theorem l32_lt {n : Nat} (h : n < 4294967296) : n < 2 ^ l32 n := by
  rw [l32_eq]; unfold l32r
  split
  · split
    · have := l8_lt (n := n / 16777216) (by omega)
      rw [Nat.pow_add]; omega
    · have := l8_lt (n := n / 65536) (by omega)
      rw [Nat.pow_add]; omega
  · split
    · have := l8_lt (n := n / 256) (by omega)
      rw [Nat.pow_add]; omega
    · exact l8_lt (by omega)
theorem l32_pos {n : Nat} (h : 0 < n) (h2 : n < 4294967296) : 1 ≤ l32 n := by
  have := l32_lt h2
  rcases Nat.eq_zero_or_pos (l32 n) with e | e
  · rw [e] at this; omega
  · exact e
noncomputable def spLen32 : List Value → Option Value
  | [.int .u32 x] => if 0 ≤ x ∧ x < 4294967296 then some (.int .i64 (l32 x.toNat : Nat)) else none
  | _ => none
def c145 : ICode :=
  (.seq (.reg [qq 2 (.mv (ci 0))]) (.seq (.seq (.reg [qq 3 (.mv (.t 0)), qq 4 (.bin .geq (.t 3) (.c (.int .u32 65536)))]) (.cond (.t 4) (.seq (.reg [qq 5 (.mv (.t 0)), qq 6 (.bin .shr (.t 5) (.c (.int .u64 16))), qq 0 (.mv (.t 6))]) (.reg [qq 2 (.mv (ci 16))])) .skip)) (.seq (.seq (.reg [qq 7 (.mv (.t 0)), qq 8 (.bin .geq (.t 7) (.c (.int .u32 256)))]) (.cond (.t 8) (.seq (.reg [qq 9 (.mv (.t 0)), qq 10 (.bin .shr (.t 9) (.c (.int .u64 8))), qq 0 (.mv (.t 10))]) (.reg [qq 11 (.mv (.t 2)), qq 12 (.bin .add (.t 11) (ci 8)), qq 2 (.mv (.t 12))])) .skip)) (.seq (.reg [qq 13 (.mv (.t 2)), qq 14 (.mv (.t 0)), qq 15 (.conv .u8 (.t 14)), qq 16 (.idstr (.c (.string ⟨⟨[0, 1, 2, 2, 3, 3, 3, 3, 4, 4, 4, 4, 4, 4, 4, 4, 5, 5, 5, 5, 5, 5, 5, 5, 5, 5, 5, 5, 5, 5, 5, 5, 6, 6, 6, 6, 6, 6, 6, 6, 6, 6, 6, 6, 6, 6, 6, 6, 6, 6, 6, 6, 6, 6, 6, 6, 6, 6, 6, 6, 6, 6, 6, 6, 7, 7, 7, 7, 7, 7, 7, 7, 7, 7, 7, 7, 7, 7, 7, 7, 7, 7, 7, 7, 7, 7, 7, 7, 7, 7, 7, 7, 7, 7, 7, 7, 7, 7, 7, 7, 7, 7, 7, 7, 7, 7, 7, 7, 7, 7, 7, 7, 7, 7, 7, 7, 7, 7, 7, 7, 7, 7, 7, 7, 7, 7, 7, 7, 8, 8, 8, 8, 8, 8, 8, 8, 8, 8, 8, 8, 8, 8, 8, 8, 8, 8, 8, 8, 8, 8, 8, 8, 8, 8, 8, 8, 8, 8, 8, 8, 8, 8, 8, 8, 8, 8, 8, 8, 8, 8, 8, 8, 8, 8, 8, 8, 8, 8, 8, 8, 8, 8, 8, 8, 8, 8, 8, 8, 8, 8, 8, 8, 8, 8, 8, 8, 8, 8, 8, 8, 8, 8, 8, 8, 8, 8, 8, 8, 8, 8, 8, 8, 8, 8, 8, 8, 8, 8, 8, 8, 8, 8, 8, 8, 8, 8, 8, 8, 8, 8, 8, 8, 8, 8, 8, 8, 8, 8, 8, 8, 8, 8, 8, 8, 8, 8, 8, 8, 8, 8, 8, 8, 8, 8, 8, 8]⟩⟩)) (.t 15)), qq 17 (.conv .i64 (.t 16)), qq 18 (.bin .add (.t 13) (.t 17)), qq 2 (.mv (.t 18))]) .ret))))
theorem tr145 : trFun Tryz.prog 145 = some ⟨19, [.t 2], c145⟩ := by kernel_rfl
theorem tab8_get {n : Nat} (h : n < 256) : tab8[n]? = some (UInt8.ofNat (l8 n)) := by
  unfold l8
  have hl : n < tab8.length := h
  rw [List.getElem?_eq_getElem hl]; simp
theorem shr32 (n k : Nat) (h : k ≤ 32) : (n : Int).fdiv (2 ^ min k IntKind.u32.bits) = ((n / 2 ^ k : Nat) : Int) := by
  have : min k IntKind.u32.bits = k := Nat.min_eq_left h
  rw [this, Int.fdiv_eq_ediv_of_nonneg _ (Int.pow_nonneg (by omega))]
  rw [Int.natCast_ediv, Int.natCast_pow]; rfl
theorem ok_len32 : SpecOK Tryz.prog 145 (flat spLen32) := by
  refine flat_run (env_nil _) mixed tr145 ?_
  intro args v h N hG
  unfold spLen32 at hG
  split at hG
  case h_2 => cases hG
  rename_i x
  split at hG
  case isFalse => cases hG
  rename_i hl
  cases hG
  refine ⟨rfl, by simp, ?_⟩
  obtain ⟨h1, h2⟩ := hl
  obtain ⟨x, rfl⟩ := Int.eq_ofNat_of_zero_le h1
  have s16 := shr32 x 16 (by omega)
  have s8 := shr32 x 8 (by omega)
  have s24 := shr32 (x / 2 ^ 16) 8 (by omega)
  have u8 : ∀ n : Nat, n < 256 → IntKind.u8.wrap (n : Int) = n := fun n h => u8_in _ ⟨by omega, by omega⟩
  have i64 : ∀ n : Nat, n ≤ 32 → IntKind.i64.wrap (n : Int) = n := fun n h => i64_in _ (by omega)
  have fold8 : ∀ n : Nat, n < 256 → ([0, 1, 2, 2, 3, 3, 3, 3, 4, 4, 4, 4, 4, 4, 4, 4, 5, 5, 5, 5, 5, 5, 5, 5, 5, 5, 5, 5, 5, 5, 5, 5, 6, 6, 6, 6, 6, 6, 6, 6, 6, 6, 6, 6, 6, 6, 6, 6, 6, 6, 6, 6, 6, 6, 6, 6, 6, 6, 6, 6, 6, 6, 6, 6, 7, 7, 7, 7, 7, 7, 7, 7, 7, 7, 7, 7, 7, 7, 7, 7, 7, 7, 7, 7, 7, 7, 7, 7, 7, 7, 7, 7, 7, 7, 7, 7, 7, 7, 7, 7, 7, 7, 7, 7, 7, 7, 7, 7, 7, 7, 7, 7, 7, 7, 7, 7, 7, 7, 7, 7, 7, 7, 7, 7, 7, 7, 7, 7, 8, 8, 8, 8, 8, 8, 8, 8, 8, 8, 8, 8, 8, 8, 8, 8, 8, 8, 8, 8, 8, 8, 8, 8, 8, 8, 8, 8, 8, 8, 8, 8, 8, 8, 8, 8, 8, 8, 8, 8, 8, 8, 8, 8, 8, 8, 8, 8, 8, 8, 8, 8, 8, 8, 8, 8, 8, 8, 8, 8, 8, 8, 8, 8, 8, 8, 8, 8, 8, 8, 8, 8, 8, 8, 8, 8, 8, 8, 8, 8, 8, 8, 8, 8, 8, 8, 8, 8, 8, 8, 8, 8, 8, 8, 8, 8, 8, 8, 8, 8, 8, 8, 8, 8, 8, 8, 8, 8, 8, 8, 8, 8, 8, 8, 8, 8, 8, 8, 8, 8, 8, 8, 8, 8, 8, 8, 8, 8] : List UInt8)[n]? = some (UInt8.ofNat (l8 n)) := fun n h => tab8_get h
  have t8 : ∀ n : Nat, n < 256 → ((UInt8.ofNat (l8 n)).toNat : Int) = (l8 n : Int) := fun n h => by
    have := l8_le h
    simp; omega
  simp only [c145, G0, Nat.reduceAdd]
  simp only [Int.toNat_natCast]
  rw [l32_eq]; unfold l32r
  by_cases c1 : 65536 ≤ x
  · rw [if_pos c1]
    have g1 : ((x : Int) ≥ 65536) = True := eq_true (by omega)
    by_cases c2 : 256 ≤ x / 65536
    · rw [if_pos c2]
      have g2 : (((x / 2 ^ 16 : Nat) : Int) ≥ 256) = True := eq_true (by omega)
      have e : x / 2 ^ 16 / 2 ^ 8 = x / 16777216 := by omega
      have w1 := u8 (x / 16777216) (by omega)
      have w2 := fold8 (x / 16777216) (by omega)
      have w3 := t8 (x / 16777216) (by omega)
      have w4 := i64 (l8 (x / 16777216)) (Nat.le_trans (l8_le (by omega)) (by omega))
      have w5 := i64 (24 + l8 (x / 16777216)) (by have := l8_le (n := x / 16777216) (by omega); omega)
      have w6 : IntKind.i64.wrap 24 = 24 := i64_in _ (by omega)
      have e2 : (24 : Int) + (l8 (x / 16777216) : Int) = ((24 + l8 (x / 16777216) : Nat) : Int) := by omega
      simp only [↓R0, R1, simprocAttr, -Int.reduceAbs, g1, s16, g2, s24, e, w1, w2, w3, w4, w6, e2, w5, Fin, isEnd, resL, res1, iE, rE]
      exact ⟨_, rfl, rfl, fun k hk => by simp only [ne_nb hk, if_false]⟩
    · rw [if_neg c2]
      have g2 : (((x / 2 ^ 16 : Nat) : Int) ≥ 256) = False := eq_false (by omega)
      have e : x / 2 ^ 16 = x / 65536 := by omega
      have w1 := u8 (x / 65536) (by omega)
      have w2 := fold8 (x / 65536) (by omega)
      have w3 := t8 (x / 65536) (by omega)
      have w4 := i64 (l8 (x / 65536)) (Nat.le_trans (l8_le (by omega)) (by omega))
      have w5 := i64 (16 + l8 (x / 65536)) (by have := l8_le (n := x / 65536) (by omega); omega)
      have e2 : (16 : Int) + (l8 (x / 65536) : Int) = ((16 + l8 (x / 65536) : Nat) : Int) := by omega
      rw [e] at g2
      simp only [↓R0, R1, simprocAttr, -Int.reduceAbs, g1, s16, g2, e, w1, w2, w3, w4, e2, w5, Fin, isEnd, resL, res1, iE, rE]
      exact ⟨_, rfl, rfl, fun k hk => by simp only [ne_nb hk, if_false]⟩
  · rw [if_neg c1]
    have g1 : ((x : Int) ≥ 65536) = False := eq_false (by omega)
    by_cases c2 : 256 ≤ x
    · rw [if_pos c2]
      have g2 : ((x : Int) ≥ 256) = True := eq_true (by omega)
      have e : x / 2 ^ 8 = x / 256 := by omega
      have w1 := u8 (x / 256) (by omega)
      have w2 := fold8 (x / 256) (by omega)
      have w3 := t8 (x / 256) (by omega)
      have w4 := i64 (l8 (x / 256)) (Nat.le_trans (l8_le (by omega)) (by omega))
      have w5 := i64 (8 + l8 (x / 256)) (by have := l8_le (n := x / 256) (by omega); omega)
      have w6 : IntKind.i64.wrap 8 = 8 := i64_in _ (by omega)
      have e2 : (8 : Int) + (l8 (x / 256) : Int) = ((8 + l8 (x / 256) : Nat) : Int) := by omega
      simp only [↓R0, R1, simprocAttr, -Int.reduceAbs, g1, g2, s8, e, w1, w2, w3, w4, w6, e2, w5, Fin, isEnd, resL, res1, iE, rE]
      exact ⟨_, rfl, rfl, fun k hk => by simp only [ne_nb hk, if_false]⟩
    · rw [if_neg c2]
      have g2 : ((x : Int) ≥ 256) = False := eq_false (by omega)
      have w1 := u8 x (by omega)
      have w2 := fold8 x (by omega)
      have w3 := t8 x (by omega)
      have w4 := i64 (l8 x) (Nat.le_trans (l8_le (by omega)) (by omega))
      have e2 : (0 : Int) + (l8 x : Int) = (l8 x : Int) := by omega
      simp only [↓R0, R1, simprocAttr, -Int.reduceAbs, g1, g2, w1, w2, w3, w4, e2, Fin, isEnd, resL, res1, iE, rE]
      exact ⟨_, rfl, rfl, fun k hk => by simp only [ne_nb hk, if_false]⟩
noncomputable def spLz32 : List Value → Option Value
  | [.int .u32 x] => if 0 ≤ x ∧ x < 4294967296 then some (.int .i64 ((32 - l32 x.toNat : Nat) : Int)) else none
  | _ => none
def c135 : ICode :=
  (.seq (.reg [qq 2 (.mv (ci 0))]) (.seq (.reg [qq 3 (.mv (.t 0)), qq 4 (.call 145 [(.t 3)]), qq 5 (.bin .sub (ci 32) (.t 4)), qq 2 (.mv (.t 5))]) .ret))
theorem tr135 : trFun Tryz.prog 135 = some ⟨6, [.t 2], c135⟩ := by kernel_rfl
theorem ok_lz32 : SpecOK Tryz.prog 135 (flat spLz32) := by
  refine flat_run (env_cons ok_len32 (env_nil _)) mixed tr135 ?_
  intro args v h N hG
  unfold spLz32 at hG
  split at hG
  case h_2 => cases hG
  rename_i x
  split at hG
  case isFalse => cases hG
  rename_i hl
  cases hG
  refine ⟨rfl, by simp, ?_⟩
  obtain ⟨h1, h2⟩ := hl
  have hb := l32_le (n := x.toNat) (by omega)
  have e : IntKind.i64.wrap (32 - (l32 x.toNat : Int)) = ((32 - l32 x.toNat : Nat) : Int) := by rw [i64_in _ (by omega)]; omega
  simp only [c135, G0, Nat.reduceAdd]
  simp only [↓R0, R1, simprocAttr, -Int.reduceAbs, spLen32, h1, h2, e, Fin, isEnd, resL, res1, iE, rE]
  exact ⟨_, rfl, rfl, fun k hk => by simp only [ne_nb hk, if_false]⟩
end Go.Eng
end
section
set_option linter.unusedVariables false
set_option linter.unusedSimpArgs false
set_option linter.unusedSectionVars false
namespace Go.Eng
theorem shows_tb {h : Heap} {v : Value} {cs : List Value} (e : shows h v = some cs) (hu : uok cs = true) : ∃ kb off K cap blk, v = .slice (some ⟨kb, off, none⟩) K cap ∧ hget h kb = some blk ∧ off + K ≤ blk.cells.length ∧
    (∀ i, i < K → blk.cells[off + i]? = some (.int .u32 (lm (ud cs) i : Nat))) ∧ ud cs < 4294967296 ^ K ∧ cs.length = K := by
  obtain ⟨kb, off, K, cap, blk, rfl, hb, hle, hcs', hlen⟩ := shows_inv e
  refine ⟨kb, off, K, cap, blk, rfl, hb, hle, fun i hi => ?_, ?_, hlen⟩
  · have h1 : cs[i]? = some (.int .u32 (lm (ud cs) i : Nat)) := by
      conv => lhs; rw [tb_ud hu, hlen]
      rw [tb_get' _ hi]
    rw [hcs', List.getElem?_take, if_pos hi, List.getElem?_drop] at h1
    rw [← hcs'] at h1
    exact h1
  · have := ud_lt hu; rw [hlen] at this; exact this
end Go.Eng
end
section
set_option linter.unusedVariables false
set_option linter.unusedSimpArgs false
set_option linter.unusedSectionVars false
set_option maxRecDepth 4000
namespace Go.Eng
open Go Go.Proofs Go.IntWalk
theorem lm_0 : lm 0 = fun _ => 0 := by funext j; unfold lm; simp
theorem shl32 {c s : Nat} (h : c * 2 ^ s < 4294967296) (hs : s ≤ 32) : IntKind.u32.wrap ((c : Int) * 2 ^ min s IntKind.u32.bits) = ((c * 2 ^ s : Nat) : Int) := by
  have : min s IntKind.u32.bits = s := Nat.min_eq_left hs
  rw [this, ← u32_nat h, Int.natCast_mul, Int.natCast_pow]; rfl
def spLimbs (args : List Value) (_ : Heap) : Option ((Nat → Value) × Blk) := match args with
  | [.string ⟨⟨l⟩⟩] => if l.length ≤ 1099511627776 then some (fun k => .slice (some ⟨k, 0, none⟩) (lk (nl l)) (lk (nl l)), ⟨118, 1, false, tb (lk (nl l)) (lm (nl l))⟩) else none
  | _ => none
def c110 : ICode :=
  (.seq (.reg [qq 2 (.mv (.c (.slice none 0 0)))]) (.seq (.reg [qq 5 (.mv (.t 0)), qq 6 (.call 108 [(.t 5)]), qq 0 (.mv (.t 6))]) (.seq (.reg [qq 7 (.mv (.t 0)), qq 8 (.lens (.t 7)), qq 9 (.bin .add (.t 8) (ci 4)), qq 10 (.bin .sub (.t 9) (ci 1)), qq 11 (.bin .quo (.t 10) (ci 4)), qq 12 (.mkslice 118 1 4 [(.int .u32 0)] (.t 11) (.t 11)), qq 3 (.mv (.t 12))]) (.seq (.seq (.reg [qq 13 (.mv (.t 0)), qq 14 (.lens (.t 13)), qq 15 (.mv (ci 0))]) (.block 0 (.loop (.seq (.reg [qq 16 (.bin .lss (.t 15) (.t 14))]) (.seq (.cond (.t 16) .skip (.exit 0)) (.seq (.block 1 (.seq (.reg [qq 17 (.mv (.t 15)), qq 4 (.mv (.t 17))]) (.dreg [qu 18 (.mv (.t 3)), qu 19 (.mv (.t 4)), qu 20 (.bin .quo (.t 19) (ci 4)), qu 21 (.ixsl 1 (.t 18) (.t 20)), qu 22 (.load false 1 (.t 21)), qu 23 (.mv (.t 0)), qu 24 (.mv (.t 4)), qu 25 (.idstr (.t 23) (.t 24)), qu 26 (.conv .u32 (.t 25)), qu 27 (.mv (.t 4)), qu 28 (.bin .rem (.t 27) (ci 4)), qu 29 (.bin .mul (ci 8) (.t 28)), qu 30 (.bin .shl (.t 26) (.t 29)), qu 31 (.bin .or (.t 22) (.t 30)), qu 32 (.ixsl 1 (.t 18) (.t 20)), qm (.store 1 (.t 32) (.t 31))]))) (.reg [qq 33 (.bin .add (.t 15) (ci 1)), qq 15 (.mv (.t 33))]))))))) (.seq (.reg [qq 34 (.mv (.t 3)), qq 2 (.mv (.t 34))]) .ret)))))
theorem tr110 : trFun Tryz.prog 110 = some ⟨35, [.t 2], c110⟩ := by kernel_rfl
theorem ok_nlimbs : SpecOK Tryz.prog 110 (nwS spLimbs) := by
  refine nw_run (env_cons ok_nNorm (env_nil _)) mixed tr110 ?_ ?_
  · intro args h h' v hl e; exact e
  intro args vf b h N hG hN
  unfold spLimbs at hG
  split at hG
  case h_2 => cases hG
  rename_i l
  split at hG
  case isFalse => cases hG
  rename_i hl
  cases hG
  refine ⟨rfl, tb_base _ _, vr1_sl _ _ _, by simp, ?_⟩
  have hL : (bl (nl l)).length ≤ 1099511627776 := Nat.le_trans (bl_length_nl l) hl
  generalize hn : nl l = n at *
  have hK : lk n = ((bl n).length + 3) / 4 := rfl
  have a1 : IntKind.i64.wrap (((bl n).length : Int) + 4) = (((bl n).length + 4 : Nat) : Int) := by rw [i64_in _ (by omega)]; omega
  have a2 : IntKind.i64.wrap ((((bl n).length + 4 : Nat) : Int) - 1) = (((bl n).length + 3 : Nat) : Int) := by rw [i64_in _ (by omega)]; omega
  have a3 : IntKind.i64.wrap ((((bl n).length + 3 : Nat) : Int).tdiv 4) = (lk n : Int) := by
    rw [i64_quo _ _ (by omega), hK]; omega
  have a4 : 4 * (lk n : Int) ≤ 281474976710656 := by omega
  have a5 : (lk n : Int) ≤ 9223372036854775807 := by omega
  simp only [c110, G0, Nat.reduceAdd]
  simp only [↓R0, R1, simprocAttr, -Int.reduceAbs, spNNorm, hl, hn, a1, a2, a3, a4, a5, tb_rep]
  refine lp_parts (fun m tm hp nx => ∃ (i : Nat), m + i = (bl n).length ∧ tmget tm 0 = .string ⟨⟨bl n⟩⟩ ∧ tmget tm 3 = .slice (some ⟨N + 0, 0, none⟩) (lk n) (lk n) ∧ tmget tm 14 = .int .i64 (bl n).length ∧ tmget tm 15 = .int .i64 i ∧
      hget hp (N + 0) = some ⟨118, 1, false, tb (lk n) (lm (nl ((bl n).take i)))⟩ ∧ (∀ q, q < N → hget hp q = hget h q) ∧ nx = N + 1) ?_ (bl n).length
    ⟨0, by omega, ?_, ?_, ?_, ?_, ?_, ?_, rfl⟩
  · intro m tm hp nx ⟨i, hm, h0, h3, h14, h15, hb, hh, hnx⟩
    subst hnx
    by_cases c1 : i < (bl n).length
    · obtain ⟨b, hbb⟩ : ∃ b, (bl n)[i]? = some b := ⟨_, List.getElem?_eq_getElem c1⟩
      have hts := nl_take_succ (bl n) i
      rw [hbb, Option.getD_some] at hts
      obtain ⟨g1, g2, g3⟩ := limb_byte (v := nl ((bl n).take i)) (c := b.toNat) (i := i) (nl_take_lt _ _) b.toNat_lt
      have hi : i / 4 < lk n := by omega
      have e1 : IntKind.i64.wrap ((i : Int).tdiv 4) = ((i / 4 : Nat) : Int) := by rw [i64_quo _ _ (by omega)]; omega
      have e2 : (i : Int).tmod 4 = ((i % 4 : Nat) : Int) := by rw [Int.tmod_eq_emod_of_nonneg (by omega)]; omega
      have e3 : IntKind.i64.wrap (8 * ((i % 4 : Nat) : Int)) = ((8 * (i % 4) : Nat) : Int) := by rw [i64_in _ (by omega)]; omega
      have e4 : ¬ (((8 * (i % 4) : Nat) : Int) < 0) := by omega
      have e5 := shl32 (c := b.toNat) (s := 8 * (i % 4)) (by omega) (by omega)
      have e6 := or_u32 g2 g3
      have e7 : IntKind.i64.wrap ((i : Int) + 1) = ((i + 1 : Nat) : Int) := by rw [i64_in _ (by omega)]; omega
      have e8 := tb_get' (lm (nl ((bl n).take i))) hi
      have e9 : i / 4 + 1 ≤ lk n := hi
      have ew := u32_nat (n := b.toNat) (by have := b.toNat_lt; omega)
      simp only [↓R0, R1, simprocAttr, -Int.reduceAbs, h0, h3, h14, h15, hb, c1, e1, e2, e3, e4, e5, e6, e7, e8, e9, ew, hi, hbb, tb_length]
      refine ⟨m - 1, by omega, i + 1, by omega, rfl, ?_, ?_⟩
      · rw [tb_set, hts]
        rw [show (fun j => if j = i / 4 then lm (nl ((bl n).take i)) (i / 4) + b.toNat * 2 ^ (8 * (i % 4)) else lm (nl ((bl n).take i)) j) = lm (nl ((bl n).take i) + 256 ^ i * b.toNat) from funext fun j => (g1 j).symm]
      · intro q hq
        simp only [if_neg (show ¬ N + 0 = q by omega)]
        exact hh q hq
    · have ei : i = (bl n).length := by omega
      subst ei
      rw [List.take_length, nl_bl] at hb
      simp only [↓R0, R1, simprocAttr, -Int.reduceAbs, h0, h3, h14, h15, c1]
      refine ⟨trivial, _, N + 0, false, rfl, ?_, by omega, hb, hh⟩
      (first | (simp only [↓R0, R1, simprocAttr, -Int.reduceAbs, one]; done) | (simp only [↓R0, R1, simprocAttr, -Int.reduceAbs, one]; rfl) | rfl)
  · (first | (simp only [↓R0, R1, simprocAttr, -Int.reduceAbs]; done) | (simp only [↓R0, R1, simprocAttr, -Int.reduceAbs]; rfl) | rfl)
  · (first | (simp only [↓R0, R1, simprocAttr, -Int.reduceAbs]; done) | (simp only [↓R0, R1, simprocAttr, -Int.reduceAbs]; rfl) | rfl)
  · (first | (simp only [↓R0, R1, simprocAttr, -Int.reduceAbs]; done) | (simp only [↓R0, R1, simprocAttr, -Int.reduceAbs]; rfl) | rfl)
  · (first | (simp only [↓R0, R1, simprocAttr, -Int.reduceAbs]; done) | (simp only [↓R0, R1, simprocAttr, -Int.reduceAbs]; rfl) | rfl)
  · (first | (simp only [↓R0, R1, simprocAttr, -Int.reduceAbs, List.take_zero, nl, lm_0]; done) | (simp only [↓R0, R1, simprocAttr, -Int.reduceAbs, List.take_zero, nl, lm_0]; rfl) | rfl)
  · intro q hq
    simp only [↓R0, R1, simprocAttr, -Int.reduceAbs, hget_new hq]
def spMag : List Value → Heap → Option Value
  | [v], h => match shows h v with
    | some cs => if uok cs = true ∧ cs.length ≤ 34359738368 then some (.string ⟨⟨bl (ud cs)⟩⟩) else none
    | none => none
  | _, _ => none
def c113 : ICode :=
  (.seq (.reg [qq 2 (.mv (.c e0))]) (.seq (.reg [qq 7 (.mv (.t 0)), qq 8 (.lensl (.t 7)), qq 9 (.bin .mul (ci 4) (.t 8)), qq 10 (.mkslice 5 1 1 [(.int .u8 0)] (ci 0) (.t 9)), qq 3 (.mv (.t 10))]) (.seq (.seq (.reg [qq 11 (.mv (.t 0)), qq 12 (.lensl (.t 11)), qq 13 (.mv (ci 0))]) (.block 0 (.loop (.seq (.reg [qq 14 (.bin .lss (.t 13) (.t 12))]) (.seq (.cond (.t 14) .skip (.exit 0)) (.seq (.block 1 (.seq (.reg [qq 15 (.ixsl 1 (.t 11) (.t 13)), qq 16 (.load false 1 (.t 15)), qq 5 (.mv (.t 16))]) (.seq (.reg [qq 17 (.mv (ci 0))]) (.block 2 (.loop (.seq (.reg [qq 18 (.bin .lss (.t 17) (ci 4))]) (.seq (.cond (.t 18) .skip (.exit 2)) (.seq (.block 3 (.seq (.reg [qq 19 (.mv (.t 17)), qq 6 (.mv (.t 19))]) (.reg [qq 20 (.mv (.t 3)), qq 21 (.mv (.t 5)), qq 22 (.mv (.t 6)), qq 23 (.bin .mul (ci 8) (.t 22)), qq 24 (.bin .shr (.t 21) (.t 23)), qq 25 (.conv .u8 (.t 24)), qq 26 (.bslice 5 1 1 [(.int .u8 0)] [(0, 1, (.t 25))]), qq 27 (.app 5 1 1 (.t 20) (.t 26)), qq 3 (.mv (.t 27))]))) (.reg [qq 28 (.bin .add (.t 17) (ci 1)), qq 17 (.mv (.t 28))]))))))))) (.reg [qq 29 (.bin .add (.t 13) (ci 1)), qq 13 (.mv (.t 29))]))))))) (.seq (.reg [qq 30 (.mv (.t 3)), qq 31 (.b2s (.t 30)), qq 32 (.call 108 [(.t 31)]), qq 2 (.mv (.t 32))]) .ret))))
theorem tr113 : trFun Tryz.prog 113 = some ⟨33, [.t 2], c113⟩ := by kernel_rfl
set_option maxHeartbeats 1000000 in
theorem ok_nmag : SpecOK Tryz.prog 113 (rdS spMag) := by
  refine rd_run (env_cons ok_nNorm (env_nil _)) mixed tr113 ?_ ?_
  · intro args h h' v hle e
    unfold spMag at e ⊢
    split at e
    · split at e
      · rename_i cs hcs
        simp only [shows_mono hle hcs]; exact e
      · cases e
    · cases e
  intro args v h N hG hN
  unfold spMag at hG
  split at hG
  case h_2 => cases hG
  rename_i sv _
  split at hG
  case h_2 => cases hG
  rename_i cs hcs
  split at hG
  case isFalse => cases hG
  rename_i hl
  obtain ⟨hu, hl⟩ := hl
  cases hG
  refine ⟨rfl, by simp, ?_⟩
  obtain ⟨kb, off, K, cap, blk, rfl, hb, hle, hcell, hV, hlen⟩ := shows_tb hcs hu
  have hkb := hN _ _ hb
  have hne : ∀ a, ¬ (N + a = kb) := fun a => by omega
  rw [hlen] at hl
  generalize ud cs = V at *
  have a1 : IntKind.i64.wrap (4 * (K : Int)) = ((4 * K : Nat) : Int) := by rw [i64_in _ (by omega)]; omega
  have a2 : 1 * ((4 * K : Nat) : Int) ≤ 281474976710656 := by omega
  have a3 : ((4 * K : Nat) : Int) ≤ 9223372036854775807 := by omega
  simp only [c113, G0, Nat.reduceAdd]
  simp only [↓R0, R1, simprocAttr, -Int.reduceAbs, a1, a2, a3]
  refine lp_parts (fun m tm hp nx => ∃ (i j kk : Nat) (out : List UInt8) (x : Bool), m + i = K ∧ tmget tm 11 = .slice (some ⟨kb, off, none⟩) K cap ∧ tmget tm 12 = .int .i64 K ∧ tmget tm 13 = .int .i64 i ∧
      tmget tm 3 = .slice (some ⟨N + kk, 0, none⟩) (4 * i) (4 * i) ∧ hget hp (N + kk) = some ⟨5, 1, x, bc out⟩ ∧ out.length = 4 * i ∧ nl out = V % 256 ^ (4 * i) ∧ (∀ q, q < N → hget hp q = hget h q) ∧ nx = N + j ∧ kk < j) ?_ K
    ⟨0, 1, 0, [], false, by omega, ?_, ?_, ?_, ?_, ?_, rfl, ?_, ?_, rfl, by omega⟩
  · intro m tm hp nx ⟨i, j, kk, out, x, hm, h11, h12, h13, h3, hk, ho, hv, hh, hnx, hkj⟩
    subst hnx
    by_cases c1 : i < K
    · have hbb : hget hp kb = some blk := by rw [hh kb hkb]; exact hb
      have e1 : IntKind.i64.wrap ((i : Int) + 1) = ((i + 1 : Nat) : Int) := by rw [i64_in _ (by omega)]; omega
      simp only [↓R0, R1, simprocAttr, -Int.reduceAbs, h11, h12, h13, h3, c1, hbb, hcell i c1]
      refine lp_parts (fun m2 tm hp nx => ∃ (k j kk : Nat) (out : List UInt8) (x : Bool), m2 + k = 4 ∧ tmget tm 11 = .slice (some ⟨kb, off, none⟩) K cap ∧ tmget tm 12 = .int .i64 K ∧ tmget tm 13 = .int .i64 i ∧ tmget tm 5 = .int .u32 (lm V i : Nat) ∧ tmget tm 17 = .int .i64 k ∧
        tmget tm 3 = .slice (some ⟨N + kk, 0, none⟩) (4 * i + k) (4 * i + k) ∧ hget hp (N + kk) = some ⟨5, 1, x, bc out⟩ ∧ out.length = 4 * i + k ∧ nl out = V % 256 ^ (4 * i + k) ∧ (∀ q, q < N → hget hp q = hget h q) ∧ nx = N + j ∧ kk < j) ?_ 4
        ⟨0, j, kk, out, x, by omega, ?_, ?_, ?_, ?_, ?_, ?_, hk, ho, hv, hh, rfl, hkj⟩
      · clear hk ho hv hh h11 h12 h13 h3 hbb hkj
        clear tm hp out x j kk
        intro m2 tm hp nx ⟨k, j, kk, out, x, hm2, h11, h12, h13, h5, h17, h3, hk, ho, hv, hh, hnx, hkj⟩
        subst hnx
        by_cases c2 : k < 4
        · have c2' : (k : Int) < 4 := by omega
          have e2 : IntKind.i64.wrap (8 * (k : Int)) = ((8 * k : Nat) : Int) := by rw [i64_in _ (by omega)]; omega
          have e3 : ¬ (((8 * k : Nat) : Int) < 0) := by omega
          have e4 := shr32 (lm V i) (8 * k) (by omega)
          have e5 : IntKind.u8.wrap ((lm V i / 2 ^ (8 * k) : Nat) : Int) = ((UInt8.ofNat (V / 256 ^ (4 * i + k) % 256)).toNat : Int) := by
            rw [← byte_limb V i k c2]
            have : IntKind.u8.wrap ((lm V i / 2 ^ (8 * k) : Nat) : Int) = ((lm V i / 2 ^ (8 * k) : Nat) : Int) % 256 := rfl
            rw [this]; simp
          have e6 : IntKind.i64.wrap ((k : Int) + 1) = ((k + 1 : Nat) : Int) := by rw [i64_in _ (by omega)]; omega
          have f1 : ¬ (4 * i + k + 1 ≤ 4 * i + k) := by omega
          have f2 : 4 * i + k + 1 ≤ 140737488355328 := by omega
          have f3 : ¬ (j = kk) := by omega
          have f4 : 0 + 1 ≤ 1 := by omega
          simp only [↓R0, R1, simprocAttr, -Int.reduceAbs, h11, h12, h13, h5, h17, h3, c2', e2, e3, e4, e5, e6, f1, f2, f3, f4, hk, ho]
          refine ⟨m2 - 1, by omega, k + 1, j + 2, j + 1, out ++ [UInt8.ofNat (V / 256 ^ (4 * i + k) % 256)], false, by omega, rfl, rfl, ?_, by simp [ho]; omega, ?_, ?_, rfl, Nat.lt_succ_self _⟩
          · rw [if_pos rfl, bc_append]; rfl
          · rw [nl_append, ho, hv]
            have : 4 * i + (k + 1) = (4 * i + k) + 1 := by omega
            rw [this, byte_step]
            simp [nl]
          · intro q hq
            simp only [if_neg (show ¬ N + (j + 1) = q by omega), if_neg (show ¬ N + kk = q by omega), if_neg (show ¬ N + j = q by omega)]
            exact hh q hq
        · have ek : k = 4 := by omega
          subst ek
          have c2' : ¬ (((4 : Nat) : Int) < 4) := by omega
          simp only [↓R0, R1, simprocAttr, -Int.reduceAbs, h11, h12, h13, h3, h17, c2', e1]
          refine ⟨m - 1, by omega, i + 1, j, kk, out, x, by omega, rfl, ?_, hk, by omega, ?_, hh, rfl, hkj⟩
          · rw [show 4 * (i + 1) = 4 * i + 4 by omega]
          · rw [show 4 * (i + 1) = 4 * i + 4 by omega]; exact hv
      · (first | (simp only [↓R0, R1, simprocAttr, -Int.reduceAbs, h11]; done) | (simp only [↓R0, R1, simprocAttr, -Int.reduceAbs, h11]; rfl) | rfl)
      · (first | (simp only [↓R0, R1, simprocAttr, -Int.reduceAbs, h12]; done) | (simp only [↓R0, R1, simprocAttr, -Int.reduceAbs, h12]; rfl) | rfl)
      · (first | (simp only [↓R0, R1, simprocAttr, -Int.reduceAbs, h13]; done) | (simp only [↓R0, R1, simprocAttr, -Int.reduceAbs, h13]; rfl) | rfl)
      · (first | (simp only [↓R0, R1, simprocAttr, -Int.reduceAbs]; done) | (simp only [↓R0, R1, simprocAttr, -Int.reduceAbs]; rfl) | rfl)
      · (first | (simp only [↓R0, R1, simprocAttr, -Int.reduceAbs]; done) | (simp only [↓R0, R1, simprocAttr, -Int.reduceAbs]; rfl) | rfl)
      · (first | (simp only [↓R0, R1, simprocAttr, -Int.reduceAbs, h3]; done) | (simp only [↓R0, R1, simprocAttr, -Int.reduceAbs, h3]; rfl) | rfl)
    · have ei : i = K := by omega
      subst ei
      have f5 : 4 * i ≤ out.length := by omega
      have hout : out.length ≤ 1099511627776 := by omega
      have hval : nl out = V := by rw [hv, pow4, Nat.mod_eq_of_lt hV]
      have f6 : (bc out).take (4 * i) = bc out := by rw [← ho, bc_take_all]
      simp only [↓R0, R1, simprocAttr, -Int.reduceAbs, h11, h12, h13, h3, c1, hk, f5, f6, byteList_bc, spNNorm, hout, hval, Fin, isEnd, resL, res1, iE, rE]
      exact ⟨_, rfl, rfl, hh⟩
  · (first | (simp only [↓R0, R1, simprocAttr, -Int.reduceAbs]; done) | (simp only [↓R0, R1, simprocAttr, -Int.reduceAbs]; rfl) | rfl)
  · (first | (simp only [↓R0, R1, simprocAttr, -Int.reduceAbs]; done) | (simp only [↓R0, R1, simprocAttr, -Int.reduceAbs]; rfl) | rfl)
  · (first | (simp only [↓R0, R1, simprocAttr, -Int.reduceAbs]; done) | (simp only [↓R0, R1, simprocAttr, -Int.reduceAbs]; rfl) | rfl)
  · (first | (simp only [↓R0, R1, simprocAttr, -Int.reduceAbs]; done) | (simp only [↓R0, R1, simprocAttr, -Int.reduceAbs]; rfl) | rfl)
  · (first | (simp only [↓R0, R1, simprocAttr, -Int.reduceAbs]; done) | (simp only [↓R0, R1, simprocAttr, -Int.reduceAbs]; rfl) | rfl)
  · simp [nl, Nat.mod_one]
  · intro q hq
    simp only [↓R0, R1, simprocAttr, -Int.reduceAbs, hget_new hq]
end Go.Eng
end
