/- Polynomials over two elements as natural numbers: sums, products, remainders. Plain Lean, no program. Sets of buttons as natural numbers: sums, bases with distinct tops, what presses make. Plain Lean, no program. Systems with steps: sums taken off, bases, and the theorem on the diagonal of a symmetric system. Plain Lean, no program. The machine's words on bits, at natural numbers below 2^63. Small words: what stays when it is wrapped, and a row read at a place. -/
import Derived.Test.YtoobofnpdiapgaaWMore
import Derived.Lib.BitFns
namespace Go.Proofs.Ytoobofnpdiapgaa.Gf
set_option linter.unusedVariables false
set_option linter.unusedSimpArgs false

/-- How many bits a number takes. -/
def bl (n : Nat) : Nat := if n = 0 then 0 else n.log2 + 1

theorem bl_zero : bl 0 = 0 := rfl
theorem bl_pos {n : Nat} (h : n ≠ 0) : bl n = n.log2 + 1 := by unfold bl; rw [if_neg h]
theorem bl_le_iff {n k : Nat} : bl n ≤ k ↔ n < 2 ^ k := by
  unfold bl
  by_cases h : n = 0
  · subst h; simp [Nat.two_pow_pos]
  · rw [if_neg h]
    have := Nat.log2_lt (k := k) h
    omega
theorem lt_bl (n : Nat) : n < 2 ^ bl n := bl_le_iff.1 (Nat.le_refl _)
theorem bl_eq_zero {n : Nat} : bl n = 0 ↔ n = 0 := by
  unfold bl; split <;> simp_all
theorem bl_half {n : Nat} (h : n ≠ 0) : bl n = bl (n / 2) + 1 := by
  have key : ∀ k, bl n ≤ k + 1 ↔ bl (n / 2) ≤ k := by
    intro k
    rw [bl_le_iff, bl_le_iff, Nat.pow_succ]
    omega
  have h1 := (key (bl (n / 2))).2 (Nat.le_refl _)
  have h2 : bl n ≠ 0 := fun e => h (bl_eq_zero.1 e)
  have h3 := (key (bl n - 1)).1 (by omega)
  omega
theorem top_bit {n : Nat} (h : n ≠ 0) : n.testBit (bl n - 1) = true := by
  rw [bl_pos h]; simpa using Nat.testBit_log2 h
theorem above {n i : Nat} (h : bl n ≤ i) : n.testBit i = false := Nat.testBit_lt_two_pow (bl_le_iff.1 h)
theorem bl_ge {n i : Nat} (h : n.testBit i = true) : i < bl n := by
  rcases Nat.lt_or_ge i (bl n) with h' | h'
  · exact h'
  · rw [above h'] at h; cases h
theorem bl_mono {a b : Nat} (h : a ≤ b) : bl a ≤ bl b := bl_le_iff.2 (Nat.lt_of_le_of_lt h (lt_bl b))
theorem bl_xor_le (a b k : Nat) (ha : bl a ≤ k) (hb : bl b ≤ k) : bl (a ^^^ b) ≤ k :=
  bl_le_iff.2 (Nat.xor_lt_two_pow (bl_le_iff.1 ha) (bl_le_iff.1 hb))
theorem bl_shift {n : Nat} (h : n ≠ 0) (k : Nat) : bl (n <<< k) = bl n + k := by
  have key : ∀ j, bl (n <<< k) ≤ j + k ↔ bl n ≤ j := by
    intro j
    rw [bl_le_iff, bl_le_iff, Nat.shiftLeft_eq, Nat.pow_add]
    exact ⟨fun h => Nat.lt_of_mul_lt_mul_right h, fun h => Nat.mul_lt_mul_of_pos_right h (Nat.two_pow_pos k)⟩
  have h1 := (key (bl n)).2 (Nat.le_refl _)
  have hne : n <<< k ≠ 0 := by rw [Ne, Nat.shiftLeft_eq_zero_iff]; exact h
  have h3 : bl n ≠ 0 := fun e => h (bl_eq_zero.1 e)
  have h2 : k ≤ bl (n <<< k) := by
    have hb : (n <<< k).testBit (bl n - 1 + k) = true := by
      rw [Nat.testBit_shiftLeft]; simp [top_bit h]
    have := bl_ge hb
    omega
  have := (key (bl (n <<< k) - k)).1 (by omega)
  omega
/-- Two numbers with one top: their sum lies below. -/
theorem bl_xor_lt {a b : Nat} (ha : a ≠ 0) (h : bl a = bl b) : bl (a ^^^ b) < bl a := by
  have hb : b ≠ 0 := fun e => by subst e; rw [bl_zero] at h; exact ha (bl_eq_zero.1 h)
  have hp : 0 < bl a := Nat.pos_of_ne_zero (fun e => ha (bl_eq_zero.1 e))
  have : bl (a ^^^ b) ≤ bl a - 1 := by
    rw [bl_le_iff]
    refine Nat.lt_pow_two_of_testBit _ fun i hi => ?_
    rw [Nat.testBit_xor]
    by_cases e : i = bl a - 1
    · subst e; rw [top_bit ha, h, top_bit hb]; rfl
    · rw [above (n := a) (by omega), above (n := b) (by omega)]; rfl
  omega
theorem bl_xor_ne {a b : Nat} (h : bl b < bl a) : bl (a ^^^ b) = bl a := by
  have ha : a ≠ 0 := fun e => by subst e; rw [bl_zero] at h; omega
  have h1 : bl (a ^^^ b) ≤ bl a := bl_xor_le _ _ _ (Nat.le_refl _) (by omega)
  have h2 : (a ^^^ b).testBit (bl a - 1) = true := by
    rw [Nat.testBit_xor, top_bit ha, above (n := b) (by omega)]; rfl
  have := bl_ge h2
  omega

/-- The product. -/
def mul (a : Nat) (b : Nat) : Nat := if b = 0 then 0 else (if b % 2 = 1 then a else 0) ^^^ (2 * mul a (b / 2))
decreasing_by omega

theorem mul_zero (a : Nat) : mul a 0 = 0 := by rw [mul, if_pos rfl]
theorem mul_step (a b : Nat) : mul a b = (if b % 2 = 1 then a else 0) ^^^ (2 * mul a (b / 2)) := by
  by_cases h : b = 0
  · subst h; rw [mul_zero]; simp [mul_zero]
  · rw [mul, if_neg h]
theorem two_xor (a b : Nat) : 2 * (a ^^^ b) = (2 * a) ^^^ (2 * b) := by
  have := @Nat.shiftLeft_xor_distrib 1 a b
  simp only [Nat.shiftLeft_eq, Nat.pow_one] at this
  rw [Nat.mul_comm 2, Nat.mul_comm 2, Nat.mul_comm 2]; exact this
theorem ite_xor (c : Prop) [Decidable c] (a b : Nat) : (if c then a ^^^ b else 0) = (if c then a else 0) ^^^ (if c then b else 0) := by
  split <;> simp
theorem xor4 (a b c d : Nat) : (a ^^^ b) ^^^ (c ^^^ d) = (a ^^^ c) ^^^ (b ^^^ d) := by
  rw [Nat.xor_assoc, Nat.xor_assoc, ← Nat.xor_assoc b c d, ← Nat.xor_assoc c b d, Nat.xor_comm b c]
theorem zero_mul (b : Nat) : mul 0 b = 0 := by
  induction b using Nat.strongRecOn with
  | _ b ih =>
    by_cases h : b = 0
    · subst h; exact mul_zero 0
    · rw [mul_step, ih (b / 2) (by omega)]; simp
theorem mul_xor_left (a c b : Nat) : mul (a ^^^ c) b = mul a b ^^^ mul c b := by
  induction b using Nat.strongRecOn with
  | _ b ih =>
    by_cases h : b = 0
    · subst h; simp [mul_zero]
    · rw [mul_step (a ^^^ c), mul_step a, mul_step c, ih (b / 2) (by omega), two_xor, ite_xor, xor4]
theorem mul_two_left (a b : Nat) : mul (2 * a) b = 2 * mul a b := by
  induction b using Nat.strongRecOn with
  | _ b ih =>
    by_cases h : b = 0
    · subst h; simp [mul_zero]
    · rw [mul_step (2 * a), mul_step a, ih (b / 2) (by omega), two_xor]
      congr 1
      split <;> simp
theorem mul_xor_right (a b c : Nat) : mul a (b ^^^ c) = mul a b ^^^ mul a c := by
  induction b using Nat.strongRecOn generalizing c with
  | _ b ih =>
    by_cases h : b = 0
    · subst h; simp [mul_zero]
    · rw [mul_step a (b ^^^ c), mul_step a b, mul_step a c, Nat.xor_div_two, ih (b / 2) (by omega), two_xor, xor4]
      congr 1
      have hx := @Nat.xor_mod_two_eq_one b c
      by_cases h1 : b % 2 = 1 <;> by_cases h2 : c % 2 = 1 <;> simp only [h1, h2, if_true, if_false, iff_true, iff_false, not_true, not_false_iff] at hx ⊢
      · rw [if_neg hx]; simp
      · rw [if_pos hx]; simp
      · rw [if_pos hx]; simp
      · rw [if_neg hx]; simp
theorem mul_one (a : Nat) : mul a 1 = a := by rw [mul_step]; simp [mul_zero]
theorem mul_two (a b : Nat) : mul a (2 * b) = 2 * mul a b := by
  rw [mul_step]
  have h1 : 2 * b % 2 = 0 := by omega
  have h2 : 2 * b / 2 = b := by omega
  rw [h1, h2]; simp
/-- A number is its last bit and twice its half. -/
theorem bit_split (a : Nat) : a = (a % 2) ^^^ (2 * (a / 2)) := by
  apply Nat.eq_of_testBit_eq
  intro i
  rw [Nat.testBit_xor]
  cases i with
  | zero =>
    rw [Nat.testBit_zero, Nat.testBit_zero, Nat.testBit_zero]
    have : 2 * (a / 2) % 2 = 0 := by omega
    rw [this]
    simp
  | succ i =>
    rw [Nat.testBit_add_one, Nat.testBit_add_one, Nat.testBit_add_one]
    have h1 : a % 2 / 2 = 0 := by omega
    have h2 : 2 * (a / 2) / 2 = a / 2 := by omega
    rw [h1, h2]; simp
theorem one_mul (b : Nat) : mul 1 b = b := by
  induction b using Nat.strongRecOn with
  | _ b ih =>
    by_cases h : b = 0
    · subst h; exact mul_zero 1
    · rw [mul_step, ih (b / 2) (by omega)]
      conv => rhs; rw [bit_split b]
      congr 1
      split <;> omega
theorem mul_comm (a b : Nat) : mul a b = mul b a := by
  induction b using Nat.strongRecOn generalizing a with
  | _ b ih =>
    by_cases h : b = 0
    · subst h; rw [mul_zero, zero_mul]
    · conv => rhs; rw [bit_split b]
      rw [mul_xor_left, mul_two_left, mul_step a b, ih (b / 2) (by omega)]
      congr 1
      split
      · rename_i h1; rw [h1, one_mul]
      · have h0 : b % 2 = 0 := by omega
        rw [h0, zero_mul]
theorem mul_assoc (a b c : Nat) : mul (mul a b) c = mul a (mul b c) := by
  induction c using Nat.strongRecOn with
  | _ c ih =>
    by_cases h : c = 0
    · subst h; simp [mul_zero]
    · rw [mul_step _ c, mul_step b c, mul_xor_right, mul_two, ih (c / 2) (by omega)]
      congr 1
      split <;> simp [mul_zero]
theorem mul_shift (a k : Nat) : mul a (1 <<< k) = a <<< k := by
  induction k with
  | zero => simp [mul_one]
  | succ k ih =>
    have h1 : 1 <<< (k + 1) = 2 * (1 <<< k) := by simp [Nat.shiftLeft_eq, Nat.pow_succ]; omega
    have h2 : a <<< (k + 1) = 2 * (a <<< k) := by
      rw [Nat.shiftLeft_eq, Nat.shiftLeft_eq, Nat.pow_succ, ← Nat.mul_assoc, Nat.mul_comm]
    rw [h1, mul_two, ih, h2]
theorem bl_two_mul {a : Nat} (h : a ≠ 0) : bl (2 * a) = bl a + 1 := by
  have := bl_shift h 1
  rw [Nat.shiftLeft_eq, Nat.pow_one, Nat.mul_comm] at this
  exact this
/-- Degrees add up. -/
theorem bl_mul {a b : Nat} (ha : a ≠ 0) (hb : b ≠ 0) : bl (mul a b) + 1 = bl a + bl b := by
  induction b using Nat.strongRecOn with
  | _ b ih =>
    rw [mul_step]
    have hA : 0 < bl a := Nat.pos_of_ne_zero (fun e => ha (bl_eq_zero.1 e))
    by_cases h1 : b / 2 = 0
    · have hb1 : b = 1 := by omega
      subst hb1
      have : bl 1 = 1 := by rfl
      simp [mul_zero, this]
    · have e := ih (b / 2) (by omega) h1
      have hbh := bl_half hb
      have hm : mul a (b / 2) ≠ 0 := by
        intro z; rw [z, bl_zero] at e
        have : 0 < bl (b / 2) := Nat.pos_of_ne_zero (fun e => h1 (bl_eq_zero.1 e))
        omega
      have hB : 0 < bl (b / 2) := Nat.pos_of_ne_zero (fun e => h1 (bl_eq_zero.1 e))
      have h2 := bl_two_mul hm
      rw [Nat.xor_comm, bl_xor_ne]
      · omega
      · split
        · omega
        · rw [bl_zero]; omega
theorem mul_ne_zero {a b : Nat} (ha : a ≠ 0) (hb : b ≠ 0) : mul a b ≠ 0 := by
  intro e
  have := bl_mul ha hb
  rw [e, bl_zero] at this
  have h1 : 0 < bl a := Nat.pos_of_ne_zero (fun e => ha (bl_eq_zero.1 e))
  have h2 : 0 < bl b := Nat.pos_of_ne_zero (fun e => hb (bl_eq_zero.1 e))
  omega
theorem mul_eq_zero {a b : Nat} : mul a b = 0 ↔ a = 0 ∨ b = 0 := by
  constructor
  · intro h
    by_cases ha : a = 0
    · exact .inl ha
    · by_cases hb : b = 0
      · exact .inr hb
      · exact absurd h (mul_ne_zero ha hb)
  · rintro (rfl | rfl)
    · exact zero_mul _
    · exact mul_zero _

theorem xor_eq_zero {a b : Nat} : a ^^^ b = 0 ↔ a = b := by
  constructor
  · intro h
    have : (a ^^^ b) ^^^ b = b := by rw [h]; simp
    rwa [Nat.xor_assoc, Nat.xor_self, Nat.xor_zero] at this
  · rintro rfl; exact Nat.xor_self _
theorem xor_cancel (a b : Nat) : (a ^^^ b) ^^^ b = a := by rw [Nat.xor_assoc, Nat.xor_self, Nat.xor_zero]
theorem xor_cancel_left (a b : Nat) : a ^^^ (a ^^^ b) = b := by rw [← Nat.xor_assoc, Nat.xor_self, Nat.zero_xor]
theorem xor_swap {a b c : Nat} (h : a ^^^ b = c) : a = c ^^^ b := by rw [← h, xor_cancel]

/-- The quotient and the rest. -/
def divMod (p q : Nat) : Nat × Nat :=
  if h : q ≠ 0 ∧ bl q ≤ bl p then
    let r := divMod (p ^^^ (q <<< (bl p - bl q))) q
    (r.1 ^^^ (1 <<< (bl p - bl q)), r.2)
  else (0, p)
termination_by bl p
decreasing_by
  have hp : p ≠ 0 := fun e => by
    rw [e, bl_zero] at h
    exact h.1 (bl_eq_zero.1 (by omega))
  have : bl (q <<< (bl p - bl q)) = bl p := by rw [bl_shift h.1]; omega
  exact bl_xor_lt hp this.symm

theorem divMod_step {p q : Nat} (hq : q ≠ 0) (h : bl q ≤ bl p) :
    divMod p q = ((divMod (p ^^^ (q <<< (bl p - bl q))) q).1 ^^^ (1 <<< (bl p - bl q)), (divMod (p ^^^ (q <<< (bl p - bl q))) q).2) := by
  rw [divMod, dif_pos ⟨hq, h⟩]
theorem divMod_done {p q : Nat} (h : bl p < bl q) : divMod p q = (0, p) := by
  rw [divMod, dif_neg (by omega)]
theorem down_lt {p q : Nat} (hq : q ≠ 0) (h : bl q ≤ bl p) : bl (p ^^^ (q <<< (bl p - bl q))) < bl p := by
  have hp : p ≠ 0 := fun e => by
    rw [e, bl_zero] at h
    exact hq (bl_eq_zero.1 (by omega))
  have : bl (q <<< (bl p - bl q)) = bl p := by rw [bl_shift hq]; omega
  exact bl_xor_lt hp this.symm
theorem divMod_spec {q : Nat} (hq : q ≠ 0) (p : Nat) : mul (divMod p q).1 q ^^^ (divMod p q).2 = p ∧ bl (divMod p q).2 < bl q := by
  generalize hn : bl p = n
  induction n using Nat.strongRecOn generalizing p with
  | _ n ih =>
    by_cases h : bl q ≤ bl p
    · rw [divMod_step hq h]
      have hlt := down_lt hq h
      have := ih _ (by omega) (p ^^^ (q <<< (bl p - bl q))) rfl
      refine ⟨?_, this.2⟩
      show mul (_ ^^^ _) q ^^^ _ = p
      rw [mul_xor_left, mul_comm (1 <<< _), mul_shift, Nat.xor_assoc, Nat.xor_comm (q <<< _), ← Nat.xor_assoc, this.1, xor_cancel]
    · rw [divMod_done (by omega)]
      exact ⟨by simp [zero_mul], by show bl p < bl q; omega⟩
theorem divMod_unique {q : Nat} (hq : q ≠ 0) {p s r : Nat} (h : mul s q ^^^ r = p) (hr : bl r < bl q) : divMod p q = (s, r) := by
  obtain ⟨h1, h2⟩ := divMod_spec hq p
  have e : mul ((divMod p q).1 ^^^ s) q = (divMod p q).2 ^^^ r := by
    rw [mul_xor_left]
    have := h1.trans h.symm
    have h3 := xor_swap this
    rw [h3, Nat.xor_assoc, Nat.xor_assoc, Nat.xor_comm (mul s q), ← Nat.xor_assoc, Nat.xor_comm r]
    rw [Nat.xor_assoc, Nat.xor_assoc, Nat.xor_self, Nat.xor_zero]
  by_cases hs : (divMod p q).1 ^^^ s = 0
  · rw [hs, zero_mul] at e
    have e1 := xor_eq_zero.1 hs
    have e2 := xor_eq_zero.1 e.symm
    exact Prod.ext e1 e2
  · have := bl_mul hs hq
    rw [e] at this
    have h4 : bl ((divMod p q).2 ^^^ r) ≤ bl q - 1 := bl_xor_le _ _ _ (by omega) (by omega)
    have h5 : 0 < bl ((divMod p q).1 ^^^ s) := Nat.pos_of_ne_zero (fun e => hs (bl_eq_zero.1 e))
    omega
def rest (p q : Nat) : Nat := (divMod p q).2
theorem rest_lt {q : Nat} (hq : q ≠ 0) (p : Nat) : bl (rest p q) < bl q := (divMod_spec hq p).2
theorem rest_xor {q : Nat} (hq : q ≠ 0) (a b : Nat) : rest (a ^^^ b) q = rest a q ^^^ rest b q := by
  obtain ⟨a1, a2⟩ := divMod_spec hq a
  obtain ⟨b1, b2⟩ := divMod_spec hq b
  have : divMod (a ^^^ b) q = ((divMod a q).1 ^^^ (divMod b q).1, (divMod a q).2 ^^^ (divMod b q).2) := by
    apply divMod_unique hq
    · rw [mul_xor_left, xor4, a1, b1]
    · have := bl_xor_le (divMod a q).2 (divMod b q).2 (bl q - 1) (by omega) (by omega)
      omega
  unfold rest; rw [this]
theorem rest_of_lt {p q : Nat} (h : bl p < bl q) : rest p q = p := by unfold rest; rw [divMod_done h]
theorem rest_mul_right {q : Nat} (hq : q ≠ 0) (s : Nat) : rest (mul s q) q = 0 := by
  have : divMod (mul s q) q = (s, 0) := divMod_unique hq (by simp) (by rw [bl_zero]; exact Nat.pos_of_ne_zero (fun e => hq (bl_eq_zero.1 e)))
  unfold rest; rw [this]
/-- q divides p. -/
def Dv (q p : Nat) : Prop := ∃ s, mul s q = p
theorem rest_zero_iff {q : Nat} (hq : q ≠ 0) {p : Nat} : rest p q = 0 ↔ Dv q p := by
  constructor
  · intro h
    have := (divMod_spec hq p).1
    unfold rest at h
    rw [h, Nat.xor_zero] at this
    exact ⟨_, this⟩
  · rintro ⟨s, rfl⟩; exact rest_mul_right hq s
theorem rest_rest_mul {q : Nat} (hq : q ≠ 0) (a b : Nat) : rest (mul (rest a q) b) q = rest (mul a b) q := by
  have h := (divMod_spec hq a).1
  conv => rhs; rw [← h]
  rw [mul_xor_left, rest_xor hq, mul_assoc, mul_comm q b, ← mul_assoc, rest_mul_right hq, Nat.zero_xor]
  rfl
theorem Dv.refl (a : Nat) : Dv a a := ⟨1, one_mul a⟩
theorem Dv.zero (a : Nat) : Dv a 0 := ⟨0, zero_mul a⟩
theorem Dv.trans {a b c : Nat} (h : Dv a b) (k : Dv b c) : Dv a c := by
  obtain ⟨s, rfl⟩ := h; obtain ⟨t, rfl⟩ := k
  exact ⟨mul t s, mul_assoc t s a⟩
theorem Dv.xor {a b c : Nat} (h : Dv a b) (k : Dv a c) : Dv a (b ^^^ c) := by
  obtain ⟨s, rfl⟩ := h; obtain ⟨t, rfl⟩ := k
  exact ⟨s ^^^ t, mul_xor_left s t a⟩
theorem Dv.mul_left {a b : Nat} (h : Dv a b) (c : Nat) : Dv a (mul c b) := by
  obtain ⟨s, rfl⟩ := h
  exact ⟨mul c s, mul_assoc c s a⟩
theorem Dv.mul_right {a b : Nat} (h : Dv a b) (c : Nat) : Dv a (mul b c) := by rw [mul_comm]; exact h.mul_left c
theorem Dv.bl_le {a b : Nat} (h : Dv a b) (hb : b ≠ 0) : bl a ≤ bl b := by
  obtain ⟨s, rfl⟩ := h
  have hs : s ≠ 0 := fun e => hb (by rw [e, zero_mul])
  have ha : a ≠ 0 := fun e => hb (by rw [e, mul_zero])
  have := bl_mul hs ha
  have : 0 < bl s := Nat.pos_of_ne_zero (fun e => hs (bl_eq_zero.1 e))
  omega
theorem bl_le_one {a : Nat} (h : bl a ≤ 1) : a = 0 ∨ a = 1 := by
  have := bl_le_iff.1 h
  omega
/-- Who divides each other is one. -/
theorem Dv.antisymm {a b : Nat} (h : Dv a b) (k : Dv b a) : a = b := by
  by_cases hb : b = 0
  · subst hb; obtain ⟨s, rfl⟩ := k; rw [mul_zero]
  · obtain ⟨s, rfl⟩ := h
    have hs : s ≠ 0 := fun e => hb (by rw [e, zero_mul])
    have ha : a ≠ 0 := fun e => hb (by rw [e, mul_zero])
    have h1 := k.bl_le ha
    have h2 := bl_mul hs ha
    have h3 : 0 < bl s := Nat.pos_of_ne_zero (fun e => hs (bl_eq_zero.1 e))
    rcases bl_le_one (a := s) (by omega) with e | e
    · exact absurd e hs
    · rw [e, one_mul]
/-- The greatest common divisor. -/
def gcd (p q : Nat) : Nat := if h : q = 0 then p else gcd q (rest p q)
termination_by bl q
decreasing_by exact rest_lt h p
theorem gcd_zero (p : Nat) : gcd p 0 = p := by rw [gcd, dif_pos rfl]
theorem gcd_step {p q : Nat} (h : q ≠ 0) : gcd p q = gcd q (rest p q) := by rw [gcd, dif_neg h]
theorem gcd_dv (p q : Nat) : Dv (gcd p q) p ∧ Dv (gcd p q) q := by
  generalize hn : bl q = n
  induction n using Nat.strongRecOn generalizing p q with
  | _ n ih =>
    by_cases h : q = 0
    · subst h; rw [gcd_zero]; exact ⟨Dv.refl p, Dv.zero p⟩
    · rw [gcd_step h]
      have hlt := rest_lt h p
      obtain ⟨h1, h2⟩ := ih _ (by omega) q (rest p q) rfl
      refine ⟨?_, h1⟩
      have := (divMod_spec h p).1
      have k := (h1.mul_left (divMod p q).1).xor h2
      unfold rest at k ⊢
      rw [this] at k
      exact k
theorem dv_gcd {d p q : Nat} (hp : Dv d p) (hq : Dv d q) : Dv d (gcd p q) := by
  generalize hn : bl q = n
  induction n using Nat.strongRecOn generalizing p q with
  | _ n ih =>
    by_cases h : q = 0
    · subst h; rw [gcd_zero]; exact hp
    · rw [gcd_step h]
      have hlt := rest_lt h p
      refine ih _ (by omega) hq ?_ rfl
      have := (divMod_spec h p).1
      have e : rest p q = mul (divMod p q).1 q ^^^ p := by
        have := xor_swap ((Nat.xor_comm _ _).trans this)
        rw [Nat.xor_comm]
        exact this
      rw [e]
      exact (hq.mul_left _).xor hp
end Go.Proofs.Ytoobofnpdiapgaa.Gf

namespace Go.Proofs.Ytoobofnpdiapgaa.Sp
set_option linter.unusedVariables false
set_option linter.unusedSimpArgs false
open Go.Proofs.Ytoobofnpdiapgaa.Gf

/-- v is a sum of some of the sets. -/
def InSpan : List Nat → Nat → Prop
  | [], v => v = 0
  | b :: bs, v => InSpan bs v ∨ InSpan bs (v ^^^ b)

theorem InSpan.zero : ∀ bs, InSpan bs 0
  | [] => rfl
  | _ :: bs => .inl (InSpan.zero bs)
theorem InSpan.xor : ∀ {bs : List Nat} {u v : Nat}, InSpan bs u → InSpan bs v → InSpan bs (u ^^^ v)
  | [], u, v, hu, hv => by
    have h1 : u = 0 := hu
    have h2 : v = 0 := hv
    show u ^^^ v = 0
    rw [h1, h2]; rfl
  | b :: bs, u, v, hu, hv => by
    rcases hu with hu | hu <;> rcases hv with hv | hv
    · exact .inl (hu.xor hv)
    · refine .inr ?_
      have := hu.xor hv
      rwa [← Nat.xor_assoc] at this
    · refine .inr ?_
      have := hu.xor hv
      rwa [Nat.xor_assoc, Nat.xor_comm b v, ← Nat.xor_assoc] at this
    · refine .inl ?_
      have := hu.xor hv
      rwa [xor4, Nat.xor_self, Nat.xor_zero] at this
theorem InSpan.mem : ∀ {bs : List Nat} {b : Nat}, b ∈ bs → InSpan bs b
  | c :: bs, b, h => by
    rcases List.mem_cons.1 h with rfl | h
    · exact .inr (by rw [Nat.xor_self]; exact InSpan.zero bs)
    · exact .inl (InSpan.mem h)
theorem InSpan.cons_sub {c : Nat} {bs : List Nat} {v : Nat} (h : InSpan bs v) : InSpan (c :: bs) v := .inl h
/-- A span is in each set of sums that holds its members. -/
theorem InSpan.sub {P : Nat → Prop} (h0 : P 0) (hx : ∀ u v, P u → P v → P (u ^^^ v)) : ∀ {bs : List Nat}, (∀ b ∈ bs, P b) → ∀ {v}, InSpan bs v → P v
  | [], _, v, h => by
    have : v = 0 := h
    rw [this]; exact h0
  | b :: bs, hb, v, h => by
    have hbs : ∀ c ∈ bs, P c := fun c hc => hb c (List.mem_cons_of_mem _ hc)
    rcases h with h | h
    · exact InSpan.sub h0 hx hbs h
    · have := hx _ _ (InSpan.sub h0 hx hbs h) (hb b (List.mem_cons_self ..))
      rwa [xor_cancel] at this
theorem InSpan.mono {as bs : List Nat} (h : ∀ a ∈ as, InSpan bs a) {v : Nat} (hv : InSpan as v) : InSpan bs v :=
  InSpan.sub (P := InSpan bs) (InSpan.zero bs) (fun _ _ => InSpan.xor) h hv
theorem InSpan.snoc {bs : List Nat} {b v : Nat} : InSpan (bs ++ [b]) v ↔ InSpan bs v ∨ InSpan bs (v ^^^ b) := by
  constructor
  · intro h
    have : ∀ {v}, InSpan (bs ++ [b]) v → InSpan (b :: bs) v := fun h => InSpan.mono (fun a ha => by
      rcases List.mem_append.1 ha with ha | ha
      · exact InSpan.mem (List.mem_cons_of_mem _ ha)
      · exact InSpan.mem (by simp at ha; subst ha; exact List.mem_cons_self ..)) h
    exact this h
  · intro h
    have : ∀ {v}, InSpan (b :: bs) v → InSpan (bs ++ [b]) v := fun h => InSpan.mono (fun a ha => by
      rcases List.mem_cons.1 ha with rfl | ha
      · exact InSpan.mem (by simp)
      · exact InSpan.mem (by simp [ha])) h
    exact this h

/-- No two have one top, none is empty. -/
def Tri : List Nat → Prop
  | [] => True
  | b :: bs => b ≠ 0 ∧ (∀ c ∈ bs, bl c ≠ bl b) ∧ Tri bs
theorem Tri.top : ∀ {bs : List Nat}, Tri bs → ∀ {v}, InSpan bs v → v ≠ 0 → ∃ b ∈ bs, bl b = bl v
  | [], _, v, h, hv => absurd h hv
  | b :: bs, ⟨hb0, hbd, hbs⟩, v, h, hv => by
    rcases h with h | h
    · obtain ⟨c, hc, e⟩ := hbs.top h hv
      exact ⟨c, List.mem_cons_of_mem _ hc, e⟩
    · by_cases e : v ^^^ b = 0
      · exact ⟨b, List.mem_cons_self .., by rw [xor_eq_zero.1 e]⟩
      · obtain ⟨c, hc, e2⟩ := hbs.top h e
        have hne := hbd c hc
        rcases Nat.lt_or_ge (bl b) (bl c) with hlt | hge
        · refine ⟨c, List.mem_cons_of_mem _ hc, ?_⟩
          have : bl ((v ^^^ b) ^^^ b) = bl (v ^^^ b) := bl_xor_ne (by omega)
          rw [xor_cancel] at this
          omega
        · refine ⟨b, List.mem_cons_self .., ?_⟩
          have : bl (b ^^^ (v ^^^ b)) = bl b := bl_xor_ne (by omega)
          rw [Nat.xor_comm v, xor_cancel_left] at this
          exact this.symm
theorem Tri.snoc : ∀ {bs : List Nat} {b : Nat}, Tri bs → b ≠ 0 → (∀ c ∈ bs, bl c ≠ bl b) → Tri (bs ++ [b])
  | [], b, _, h0, _ => ⟨h0, by simp, trivial⟩
  | c :: bs, b, ⟨hc0, hcd, hbs⟩, h0, hd => by
    refine ⟨hc0, fun a ha => ?_, hbs.snoc h0 (fun a ha => hd a (List.mem_cons_of_mem _ ha))⟩
    rcases List.mem_append.1 ha with ha | ha
    · exact hcd a ha
    · simp at ha; subst ha
      exact fun e => hd c (List.mem_cons_self ..) e.symm

/-- What presses make: the sum of the effects of the buttons below n that are in x. -/
def eff (e : Nat → Nat) : Nat → Nat → Nat
  | 0, _ => 0
  | n + 1, x => eff e n x ^^^ (if x.testBit n = true then e n else 0)
theorem eff_zero (e : Nat → Nat) : ∀ n, eff e n 0 = 0
  | 0 => rfl
  | n + 1 => by rw [eff, eff_zero e n]; simp
theorem eff_xor (e : Nat → Nat) : ∀ n x y, eff e n (x ^^^ y) = eff e n x ^^^ eff e n y
  | 0, _, _ => by simp [eff]
  | n + 1, x, y => by
    simp only [eff]
    rw [eff_xor e n x y, xor4, Nat.testBit_xor]
    congr 1
    cases x.testBit n <;> cases y.testBit n <;> simp
theorem eff_bit (e : Nat → Nat) (i : Nat) : ∀ n, eff e n (2 ^ i) = if i < n then e i else 0
  | 0 => by simp [eff]
  | n + 1 => by
    simp only [eff]
    rw [eff_bit e i n, Nat.testBit_two_pow]
    by_cases h : i = n
    · subst h; simp
    · by_cases h2 : i < n
      · simp [h, h2]; omega
      · simp [h, h2]; omega
/-- Only the buttons below n count. -/
theorem eff_congr (e : Nat → Nat) : ∀ n x y, (∀ i, i < n → x.testBit i = y.testBit i) → eff e n x = eff e n y
  | 0, _, _, _ => rfl
  | n + 1, x, y, h => by
    simp only [eff]
    rw [eff_congr e n x y (fun i hi => h i (by omega)), h n (by omega)]
theorem eff_fn (e e' : Nat → Nat) : ∀ n x, (∀ i, i < n → e i = e' i) → eff e n x = eff e' n x
  | 0, _, _ => rfl
  | n + 1, x, h => by
    simp only [eff]
    rw [eff_fn e e' n x (fun i hi => h i (by omega)), h n (by omega)]
theorem eff_more (e : Nat → Nat) {n x : Nat} (h : x < 2 ^ n) (k : Nat) : eff e (n + k) x = eff e n x := by
  induction k with
  | zero => rfl
  | succ k ih =>
    rw [← Nat.add_assoc]
    simp only [eff]
    rw [ih, Nat.testBit_lt_two_pow (Nat.lt_of_lt_of_le h (Nat.pow_le_pow_right (by omega) (by omega)))]
    simp
theorem eff_lt (e : Nat → Nat) {m : Nat} : ∀ n x, (∀ i, i < n → e i < 2 ^ m) → eff e n x < 2 ^ m
  | 0, _, _ => Nat.two_pow_pos m
  | n + 1, x, h => by
    simp only [eff]
    refine Nat.xor_lt_two_pow (eff_lt e n x (fun i hi => h i (by omega))) ?_
    split
    · exact h n (by omega)
    · exact Nat.two_pow_pos m
/-- Sums of the effects of the first n buttons are what presses of these make. -/
theorem span_eff (e : Nat → Nat) (n : Nat) (v : Nat) : InSpan ((List.range n).map e) v ↔ ∃ x, x < 2 ^ n ∧ eff e n x = v := by
  induction n generalizing v with
  | zero =>
    constructor
    · intro h; exact ⟨0, by simp, (show v = 0 from h).symm⟩
    · rintro ⟨x, _, rfl⟩; rfl
  | succ n ih =>
    rw [List.range_succ, List.map_append, List.map_cons, List.map_nil, InSpan.snoc, ih, ih]
    constructor
    · rintro (⟨x, hx, rfl⟩ | ⟨x, hx, he⟩)
      · exact ⟨x, by rw [Nat.pow_succ]; omega, eff_more e hx 1⟩
      · refine ⟨x ^^^ 2 ^ n, Nat.xor_lt_two_pow (by rw [Nat.pow_succ]; omega) (by rw [Nat.pow_succ]; have := Nat.two_pow_pos n; omega), ?_⟩
        rw [eff_xor, eff_more e hx 1, eff_bit, if_pos (by omega), he, xor_cancel]
    · rintro ⟨x, hx, rfl⟩
      simp only [eff]
      by_cases hb : x.testBit n = true
      · refine .inr ⟨x ^^^ 2 ^ n, ?_, ?_⟩
        · refine Nat.lt_pow_two_of_testBit _ fun i hi => ?_
          rw [Nat.testBit_xor, Nat.testBit_two_pow]
          by_cases e : n = i
          · subst e; simp [hb]
          · rw [Nat.testBit_lt_two_pow (Nat.lt_of_lt_of_le hx (Nat.pow_le_pow_right (by omega) (by omega)))]; simp [e]
        · rw [if_pos hb, xor_cancel]
          exact eff_congr e n _ _ fun i hi => by rw [Nat.testBit_xor, Nat.testBit_two_pow, decide_eq_false (by omega), Bool.xor_false]
      · refine .inl ⟨x, ?_, ?_⟩
        · refine Nat.lt_pow_two_of_testBit _ fun i hi => ?_
          by_cases e : n = i
          · subst e; simpa using hb
          · exact Nat.testBit_lt_two_pow (Nat.lt_of_lt_of_le hx (Nat.pow_le_pow_right (by omega) (by omega)))
        · rw [if_neg hb, Nat.xor_zero]
end Go.Proofs.Ytoobofnpdiapgaa.Sp

namespace Go.Proofs.Ytoobofnpdiapgaa.Pa
set_option linter.unusedVariables false
set_option linter.unusedSimpArgs false
open Go.Proofs.Ytoobofnpdiapgaa.Gf Go.Proofs.Ytoobofnpdiapgaa.Sp

/-- Has v the greatest element of b? -/
def tb (b v : Nat) : Bool := v.testBit (bl b - 1)
theorem tb_self {b : Nat} (h : b ≠ 0) : tb b b = true := top_bit h
theorem tb_xor (b u v : Nat) : tb b (u ^^^ v) = (tb b u ^^ tb b v) := Nat.testBit_xor ..
theorem tb_of_bl {b c v : Nat} (h : bl b = bl c) : tb b v = tb c v := by unfold tb; rw [h]
/-- The rows are taken off one behind the other. -/
def putN : List Nat → Nat → Nat
  | [], v => v
  | r :: rs, v => putN rs (if tb r v = true then v ^^^ r else v)
theorem putN_span : ∀ (S : List Nat) (v : Nat), InSpan S (v ^^^ putN S v)
  | [], v => by show v ^^^ v = 0; simp
  | r :: rs, v => by
    rw [putN]
    split
    · have h := putN_span rs (v ^^^ r)
      refine .inr ?_
      rw [show (v ^^^ putN rs (v ^^^ r)) ^^^ r = (v ^^^ r) ^^^ putN rs (v ^^^ r) by rw [Nat.xor_assoc, Nat.xor_comm _ r, ← Nat.xor_assoc]]
      exact h
    · exact .inl (putN_span rs v)
theorem putN_keep {t : Nat} : ∀ (S : List Nat) (v : Nat), (∀ s ∈ S, s.testBit t = false) → v.testBit t = false → (putN S v).testBit t = false
  | [], v, _, h => h
  | r :: rs, v, hS, h => by
    rw [putN]
    refine putN_keep rs _ (fun s hs => hS s (List.mem_cons_of_mem _ hs)) ?_
    split
    · rw [Nat.testBit_xor, h, hS r (List.mem_cons_self ..)]; rfl
    · exact h
/-- Later rows have no greatest element of an elder one. -/
def Tro : List Nat → Prop
  | [] => True
  | r :: rs => r ≠ 0 ∧ (∀ s ∈ rs, tb r s = false) ∧ Tro rs
theorem Tro.ne : ∀ {S : List Nat}, Tro S → ∀ r ∈ S, r ≠ 0
  | _ :: _, h, r, hr => by
    rcases List.mem_cons.1 hr with rfl | hr
    · exact h.1
    · exact h.2.2.ne r hr
theorem Tro.tri : ∀ {S : List Nat}, Tro S → Tri S
  | [], _ => trivial
  | r :: rs, h => ⟨h.1, fun c hc e => (by
      have h1 := h.2.1 c hc
      rw [tb_of_bl e.symm, tb_self (h.2.2.ne c hc)] at h1
      cases h1), h.2.2.tri⟩
theorem putN_bits : ∀ {S : List Nat}, Tro S → ∀ (v : Nat), ∀ r ∈ S, tb r (putN S v) = false
  | q :: rs, h, v, r, hr => by
    rw [putN]
    rcases List.mem_cons.1 hr with rfl | hr
    · refine putN_keep rs _ h.2.1 ?_
      split
      · rename_i c
        show tb r (v ^^^ r) = false
        rw [tb_xor, c, tb_self h.1]; rfl
      · rename_i c
        simpa [tb] using c
    · exact putN_bits h.2.2 _ r hr
theorem xor_xor (a b : Nat) : a ^^^ (a ^^^ b) = b := xor_cancel_left a b
theorem putN_zero {S : List Nat} (h : Tro S) (v : Nat) : putN S v = 0 ↔ InSpan S v := by
  have hs := putN_span S v
  constructor
  · intro e; rw [e, Nat.xor_zero] at hs; exact hs
  · intro hv
    have h2 := hv.xor hs
    rw [xor_xor] at h2
    by_cases e : putN S v = 0
    · exact e
    · obtain ⟨b, hb, eb⟩ := h.tri.top h2 e
      have := putN_bits h v b hb
      rw [tb_of_bl eb, tb_self e] at this
      cases this
theorem Tro.snoc : ∀ {S : List Nat} {v : Nat}, Tro S → v ≠ 0 → (∀ r ∈ S, tb r v = false) → Tro (S ++ [v])
  | [], v, _, h0, _ => ⟨h0, by simp, trivial⟩
  | r :: rs, v, h, h0, hv => ⟨h.1, fun s hs => (by
      rcases List.mem_append.1 hs with hs | hs
      · exact h.2.1 s hs
      · simp at hs; subst hs; exact hv r (List.mem_cons_self ..)), h.2.2.snoc h0 (fun s hs => hv s (List.mem_cons_of_mem _ hs))⟩
theorem putN_lt {n : Nat} : ∀ (S : List Nat) (v : Nat), (∀ s ∈ S, s < 2 ^ n) → v < 2 ^ n → putN S v < 2 ^ n
  | [], v, _, h => h
  | r :: rs, v, hS, h => by
    rw [putN]
    refine putN_lt rs _ (fun s hs => hS s (List.mem_cons_of_mem _ hs)) ?_
    split
    · exact Nat.xor_lt_two_pow h (hS r (List.mem_cons_self ..))
    · exact h
/-- No set of a basis has the greatest element of another. -/
def Rb (B : List Nat) : Prop := (∀ b ∈ B, b ≠ 0) ∧ B.Pairwise fun a b => tb a b = false ∧ tb b a = false
theorem Rb.tro : ∀ {B : List Nat}, Rb B → Tro B
  | [], _ => trivial
  | b :: B, h => by
    have hp := List.pairwise_cons.1 h.2
    exact ⟨h.1 b (List.mem_cons_self ..), fun s hs => (hp.1 s hs).1, Rb.tro ⟨fun c hc => h.1 c (List.mem_cons_of_mem _ hc), hp.2⟩⟩
theorem Rb.perm {B C : List Nat} (h : Rb B) (p : C.Perm B) : Rb C := ⟨fun b hb => h.1 b (p.mem_iff.1 hb), (p.pairwise_iff (fun {a b} h => ⟨h.2, h.1⟩)).2 h.2⟩
theorem InSpan.perm {B C : List Nat} (p : C.Perm B) (v : Nat) : InSpan C v ↔ InSpan B v :=
  ⟨fun h => InSpan.mono (fun a ha => InSpan.mem (p.mem_iff.1 ha)) h, fun h => InSpan.mono (fun a ha => InSpan.mem (p.mem_iff.2 ha)) h⟩
/-- A set is put into a basis: what it is before the order is brought about. -/
def extL (B : List Nat) (s : Nat) : List Nat := (B.map fun b => if tb s b = true then b ^^^ s else b) ++ [s]
theorem ext_bl {b s : Nat} (hb : b ≠ 0) (hs : tb b s = false) : bl (if tb s b = true then b ^^^ s else b) = bl b := by
  split
  · rename_i c
    rcases Nat.lt_trichotomy (bl s) (bl b) with h | h | h
    · exact bl_xor_ne h
    · rw [tb_of_bl h.symm] at hs
      by_cases e : s = 0
      · subst e; simp at c ⊢
      · rw [tb_self e] at hs; cases hs
    · have : tb s b = false := above (by omega)
      rw [this] at c; cases c
  · rfl
theorem extL_rb {B : List Nat} {s : Nat} (h : Rb B) (h0 : s ≠ 0) (hs : ∀ b ∈ B, tb b s = false) : Rb (extL B s) := by
  have hne : ∀ b ∈ B, (if tb s b = true then b ^^^ s else b) ≠ 0 := fun b hb e => by
    have := ext_bl (h.1 b hb) (hs b hb)
    rw [e, bl_zero] at this
    exact h.1 b hb (bl_eq_zero.1 this.symm)
  have hlack : ∀ b, tb s (if tb s b = true then b ^^^ s else b) = false := fun b => by
    split
    · rename_i c; rw [tb_xor, c, tb_self h0]; rfl
    · rename_i c; simpa using c
  refine ⟨fun c hc => ?_, ?_⟩
  · rcases List.mem_append.1 hc with hc | hc
    · obtain ⟨b, hb, rfl⟩ := List.mem_map.1 hc; exact hne b hb
    · simp at hc; subst hc; exact h0
  · refine List.pairwise_append.2 ⟨?_, by simp, ?_⟩
    · rw [List.pairwise_map]
      refine h.2.imp_of_mem (fun {a b} ha hb hab => ?_)
      have key : ∀ x y, x ∈ B → y ∈ B → tb x y = false → tb (if tb s x = true then x ^^^ s else x) (if tb s y = true then y ^^^ s else y) = false := fun x y hx hy hxy => by
        rw [tb_of_bl (ext_bl (h.1 x hx) (hs x hx))]
        split
        · rw [tb_xor, hxy, hs x hx]; rfl
        · exact hxy
      exact ⟨key a b ha hb hab.1, key b a hb ha hab.2⟩
    · intro a ha c hc
      simp at hc; subst hc
      obtain ⟨b, hb, rfl⟩ := List.mem_map.1 ha
      exact ⟨by rw [tb_of_bl (ext_bl (h.1 b hb) (hs b hb))]; exact hs b hb, hlack b⟩
theorem extL_span (B : List Nat) (s v : Nat) : InSpan (extL B s) v ↔ InSpan (s :: B) v := by
  constructor
  · refine InSpan.mono (fun a ha => ?_)
    rcases List.mem_append.1 ha with ha | ha
    · obtain ⟨b, hb, rfl⟩ := List.mem_map.1 ha
      split
      · exact (InSpan.mem (List.mem_cons_of_mem _ hb)).xor (InSpan.mem (List.mem_cons_self ..))
      · exact InSpan.mem (List.mem_cons_of_mem _ hb)
    · simp at ha; subst ha; exact InSpan.mem (List.mem_cons_self ..)
  · refine InSpan.mono (fun a ha => ?_)
    have hsm : InSpan (extL B s) s := InSpan.mem (List.mem_append.2 (.inr (by simp)))
    rcases List.mem_cons.1 ha with rfl | ha
    · exact hsm
    · have hm : InSpan (extL B s) (if tb s a = true then a ^^^ s else a) := InSpan.mem (List.mem_append.2 (.inl (List.mem_map.2 ⟨a, ha, rfl⟩)))
      split at hm
      · have := hm.xor hsm
        rwa [xor_cancel] at this
      · exact hm
/-! ### The diagonal of a symmetric system -/
def xs (f : Nat → Bool) : Nat → Bool
  | 0 => false
  | n + 1 => xs f n ^^ f n
theorem xs_congr {f g : Nat → Bool} : ∀ n, (∀ i, i < n → f i = g i) → xs f n = xs g n
  | 0, _ => rfl
  | n + 1, h => by rw [xs, xs, xs_congr n (fun i hi => h i (by omega)), h n (by omega)]
theorem xs_false : ∀ n, xs (fun _ => false) n = false
  | 0 => rfl
  | n + 1 => by rw [xs, xs_false n]; rfl
theorem xs_xor (f g : Nat → Bool) : ∀ n, xs (fun i => f i ^^ g i) n = (xs f n ^^ xs g n)
  | 0 => rfl
  | n + 1 => by
    rw [xs, xs, xs, xs_xor f g n]
    cases xs f n <;> cases xs g n <;> cases f n <;> cases g n <;> rfl
theorem xs_and (c : Bool) (f : Nat → Bool) : ∀ n, xs (fun i => c && f i) n = (c && xs f n)
  | 0 => by simp [xs]
  | n + 1 => by rw [xs, xs, xs_and c f n]; cases c <;> simp
/-- The double sum of a symmetric system is that of its diagonal. -/
theorem xs_diag (a : Nat → Nat → Bool) : ∀ n, (∀ i j, i < n → j < n → a i j = a j i) → xs (fun i => xs (a i) n) n = xs (fun i => a i i) n
  | 0, _ => rfl
  | n + 1, h => by
    have ih := xs_diag a n (fun i j hi hj => h i j (by omega) (by omega))
    rw [xs, xs]
    have e1 : xs (fun i => xs (a i) (n + 1)) n = (xs (fun i => xs (a i) n) n ^^ xs (fun i => a i n) n) := by rw [← xs_xor]; rfl
    have e2 : xs (fun i => a i n) n = xs (a n) n := xs_congr n (fun i hi => h i n (by omega) (by omega))
    show (xs (fun i => xs (a i) (n + 1)) n ^^ (xs (a n) n ^^ a n n)) = (xs (fun i => a i i) n ^^ a n n)
    rw [e1, e2, ih]
    cases xs (fun i => a i i) n <;> cases xs (a n) n <;> cases a n n <;> rfl
/-- What presses make, place by place. -/
theorem eff_bit_at (e : Nat → Nat) (x j : Nat) : ∀ n, (eff e n x).testBit j = xs (fun i => x.testBit i && (e i).testBit j) n
  | 0 => by simp [eff, xs]
  | n + 1 => by
    rw [eff, xs, Nat.testBit_xor, eff_bit_at e x j n]
    congr 1
    cases x.testBit n <;> simp
/-- How a set meets another: evenly or oddly. -/
def dot (n : Nat) (u v : Nat) : Bool := xs (fun i => u.testBit i && v.testBit i) n
theorem dot_xor (n u v w : Nat) : dot n (u ^^^ v) w = (dot n u w ^^ dot n v w) := by
  unfold dot
  rw [← xs_xor]
  refine xs_congr n (fun i _ => ?_)
  rw [Nat.testBit_xor]
  cases u.testBit i <;> cases v.testBit i <;> cases w.testBit i <;> rfl
theorem dot_comm (n u v : Nat) : dot n u v = dot n v u := xs_congr n (fun i _ => Bool.and_comm ..)
theorem dot_zero (n v : Nat) : dot n 0 v = false := by
  unfold dot
  rw [xs_congr (g := fun _ => false) n (fun i _ => by simp), xs_false]
/-- A sum of rows of a symmetric system that is empty asks for nothing that the diagonal doesn't grant. -/
theorem gallai {n : Nat} {e : Nat → Nat} {W : Nat} (hsym : ∀ i j, i < n → j < n → (e i).testBit j = (e j).testBit i) (hd : ∀ i, i < n → W.testBit i = (e i).testBit i) {T : Nat} (hT : ∀ j, j < n → (eff e n T).testBit j = false) : dot n T W = false := by
  have h1 := xs_diag (fun i j => (T.testBit i && T.testBit j) && (e i).testBit j) n (fun i j hi hj => by rw [hsym i j hi hj, Bool.and_comm (T.testBit i)])
  have h2 : dot n T W = xs (fun i => (T.testBit i && T.testBit i) && (e i).testBit i) n := xs_congr n (fun i hi => by rw [hd i hi, Bool.and_self])
  rw [h2, ← h1]
  rw [xs_congr (g := fun _ => false) n (fun i hi => ?_), xs_false]
  have h3 := hT i hi
  rw [eff_bit_at] at h3
  have h4 : xs (fun j => (T.testBit i && T.testBit j) && (e i).testBit j) n = (T.testBit i && xs (fun j => T.testBit j && (e j).testBit i) n) := by
    rw [← xs_and]
    exact xs_congr n (fun j hj => by rw [hsym i j hi hj, Bool.and_assoc])
  rw [h4, h3, Bool.and_false]
end Go.Proofs.Ytoobofnpdiapgaa.Pa

namespace Go.Proofs.Ytoobofnpdiapgaa.Bt
open Go.RowKit Go.Proofs.YtoobofnpdiapgaaW.PrintWords Go.Proofs.YtoobofnpdiapgaaW.PrintLast Go.Proofs.YtoobofnpdiapgaaW.PrintMore
set_option linter.unusedVariables false
set_option linter.unusedSimpArgs false

theorem wrap_id {x : Int} (h0 : -9223372036854775808 ≤ x) (h : x < 9223372036854775808) : wrap64 x = x := by unfold wrap64; omega
theorem wrap_nat {n : Nat} (h : n < 9223372036854775808) : wrap64 (n : Int) = n := wrap_id (by omega) (by omega)
theorem ofInt_nat {a : Nat} (h : a < 9223372036854775808) : (BitVec.ofInt 64 (a : Int)).toNat = a := by
  rw [BitVec.toNat_ofInt]; omega
theorem bits_xor {a b : Nat} (ha : a < 9223372036854775808) (hb : b < 9223372036854775808) : Go.bits .xor .i64 (a : Int) (b : Int) = ((a ^^^ b : Nat) : Int) := by
  have h : a ^^^ b < 2 ^ 63 := Nat.xor_lt_two_pow (by simpa using ha) (by simpa using hb)
  show IntKind.i64.wrap ((BitVec.ofInt 64 (a : Int) ^^^ BitVec.ofInt 64 (b : Int)).toNat : Int) = _
  rw [BitVec.toNat_xor, ofInt_nat ha, ofInt_nat hb, i64_w, wrap_nat (by simpa using h)]
theorem bits_or {a b : Nat} (ha : a < 9223372036854775808) (hb : b < 9223372036854775808) : Go.bits .or .i64 (a : Int) (b : Int) = ((a ||| b : Nat) : Int) := by
  have h : a ||| b < 2 ^ 63 := Nat.or_lt_two_pow (by simpa using ha) (by simpa using hb)
  show IntKind.i64.wrap ((BitVec.ofInt 64 (a : Int) ||| BitVec.ofInt 64 (b : Int)).toNat : Int) = _
  rw [BitVec.toNat_or, ofInt_nat ha, ofInt_nat hb, i64_w, wrap_nat (by simpa using h)]
theorem bits_and {a b : Nat} (ha : a < 9223372036854775808) (hb : b < 9223372036854775808) : Go.bits .and .i64 (a : Int) (b : Int) = ((a &&& b : Nat) : Int) := by
  have h : a &&& b < 2 ^ 63 := Nat.and_lt_two_pow _ (by simpa using hb)
  show IntKind.i64.wrap ((BitVec.ofInt 64 (a : Int) &&& BitVec.ofInt 64 (b : Int)).toNat : Int) = _
  rw [BitVec.toNat_and, ofInt_nat ha, ofInt_nat hb, i64_w, wrap_nat (by simpa using h)]
theorem shl_nat {a n : Nat} (hn : n ≤ 64) (h : a * 2 ^ n < 9223372036854775808) : shl .i64 (a : Int) (n : Int) = ((a <<< n : Nat) : Int) := by
  unfold shl
  rw [i64_w, Nat.shiftLeft_eq, Int.toNat_natCast, Nat.min_eq_left (by simpa [IntKind.bits] using hn)]
  have e : (a : Int) * 2 ^ n = ((a * 2 ^ n : Nat) : Int) := by simp
  rw [e, wrap_nat h]
theorem shr_nat {a n : Nat} (ha : a < 9223372036854775808) : shr .i64 (a : Int) (n : Int) = ((a >>> n : Nat) : Int) := by
  unfold shr
  rw [Nat.shiftRight_eq_div_pow, Int.toNat_natCast]
  have e : ∀ m : Nat, (a : Int) / 2 ^ m = ((a / 2 ^ m : Nat) : Int) := fun m => by simp
  rw [e]
  congr 1
  show a / 2 ^ min n 64 = _
  rcases Nat.lt_or_ge 64 n with h | h
  · rw [Nat.min_eq_right (by omega), Nat.div_eq_of_lt (by omega), Nat.div_eq_of_lt]
    exact Nat.lt_of_lt_of_le (show a < 2 ^ 64 by omega) (Nat.pow_le_pow_right (by omega) (by omega))
  · rw [Nat.min_eq_left h]
theorem tmod_two (n : Nat) : Int.tmod (n : Int) 2 = ((n % 2 : Nat) : Int) := by rw [Int.tmod_eq_emod_of_nonneg (by omega)]; omega
theorem tdiv_two (n : Nat) : Int.tdiv (n : Int) 2 = ((n / 2 : Nat) : Int) := by rw [Int.tdiv_eq_ediv_of_nonneg (by omega)]; omega
theorem grIn_val {s i : Nat} (hs : s < 9223372036854775808) : ((Int.tmod (shr .i64 (s : Int) (i : Int)) 2) == 1) = s.testBit i := by
  rw [shr_nat hs, tmod_two, Nat.testBit_eq_decide_div_mod_eq, Nat.shiftRight_eq_div_pow, Bool.eq_iff_iff, beq_iff_eq, decide_eq_true_iff]
  omega
theorem has_val {s i : Nat} (hs : s < 9223372036854775808) : ((Go.bits .and .i64 (shr .i64 (s : Int) (i : Int)) 1) == 1) = s.testBit i := by
  have h1 : s >>> i < 9223372036854775808 := by
    rw [Nat.shiftRight_eq_div_pow]
    exact Nat.lt_of_le_of_lt (Nat.div_le_self _ _) hs
  rw [shr_nat hs, show (1 : Int) = ((1 : Nat) : Int) from rfl, bits_and h1 (by omega), Nat.and_one_is_mod, Nat.testBit_eq_decide_div_mod_eq, Nat.shiftRight_eq_div_pow, Bool.eq_iff_iff, beq_iff_eq, decide_eq_true_iff]
  omega
theorem bitLen_bl (n : Nat) (h : n < 18446744073709551616) : Go.Lib.bitLen n = Gf.bl n := by
  have key : ∀ f x, x < 2 ^ f → Go.Lib.bitLenAux f x = Gf.bl x := by
    intro f
    induction f with
    | zero => intro x hx; have : x = 0 := by omega
              subst this; rfl
    | succ f ih =>
      intro x hx
      rw [Go.Lib.bitLenAux]
      split
      · rename_i h0; subst h0; rfl
      · rename_i h0
        rw [ih (x / 2) (by rw [Nat.pow_succ] at hx; omega), Gf.bl_half h0]; omega
  exact key 64 n h
end Go.Proofs.Ytoobofnpdiapgaa.Bt

namespace Go.Proofs.Ytoobofnpdiapgaa.Lw
set_option linter.unusedVariables false
set_option linter.unusedSimpArgs false
open Go.RowKit Go.Proofs.YtoobofnpdiapgaaW.PrintWords Go.Proofs.YtoobofnpdiapgaaW.PrintLast Go.Proofs.YtoobofnpdiapgaaW.PrintMore
theorem wrap_id {x : Int} (h0 : -9223372036854775808 ≤ x) (h : x < 9223372036854775808) : wrap64 x = x := by unfold wrap64; omega
theorem rd_nat (l : List Int) (i : Nat) : rd l (i : Int) = l.getD i 0 := by simp [rd]
end Go.Proofs.Ytoobofnpdiapgaa.Lw
