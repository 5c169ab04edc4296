/- Polynomials over two elements as natural numbers: sums, products, remainders. Plain Lean, no program. -/
namespace Go.Proofs.Ytfhbkgbhogndfaa.Gf
set_option linter.unusedVariables false
set_option linter.unusedSimpArgs false

/-- How many bits a number takes. -/
def bl (n : Nat) : Nat := if n = 0 then 0 else n.log2 + 1

theorem bl_zero : bl 0 = 0 := rfl
theorem bl_pos {n : Nat} (h : n ≠ 0) : bl n = n.log2 + 1 := by unfold bl; rw [if_neg h]
theorem bl_le_iff {n k : Nat} : bl n ≤ k ↔ n < 2 ^ k := by
  unfold bl
  by_cases h : n = 0
  · subst h; simp [Nat.two_pow_pos]
  · rw [if_neg h]
    have := Nat.log2_lt (k := k) h
    omega
theorem lt_bl (n : Nat) : n < 2 ^ bl n := bl_le_iff.1 (Nat.le_refl _)
theorem bl_eq_zero {n : Nat} : bl n = 0 ↔ n = 0 := by
  unfold bl; split <;> simp_all
theorem bl_half {n : Nat} (h : n ≠ 0) : bl n = bl (n / 2) + 1 := by
  have key : ∀ k, bl n ≤ k + 1 ↔ bl (n / 2) ≤ k := by
    intro k
    rw [bl_le_iff, bl_le_iff, Nat.pow_succ]
    omega
  have h1 := (key (bl (n / 2))).2 (Nat.le_refl _)
  have h2 : bl n ≠ 0 := fun e => h (bl_eq_zero.1 e)
  have h3 := (key (bl n - 1)).1 (by omega)
  omega
theorem top_bit {n : Nat} (h : n ≠ 0) : n.testBit (bl n - 1) = true := by
  rw [bl_pos h]; simpa using Nat.testBit_log2 h
theorem above {n i : Nat} (h : bl n ≤ i) : n.testBit i = false := Nat.testBit_lt_two_pow (bl_le_iff.1 h)
theorem bl_ge {n i : Nat} (h : n.testBit i = true) : i < bl n := by
  rcases Nat.lt_or_ge i (bl n) with h' | h'
  · exact h'
  · rw [above h'] at h; cases h
theorem bl_mono {a b : Nat} (h : a ≤ b) : bl a ≤ bl b := bl_le_iff.2 (Nat.lt_of_le_of_lt h (lt_bl b))
theorem bl_xor_le (a b k : Nat) (ha : bl a ≤ k) (hb : bl b ≤ k) : bl (a ^^^ b) ≤ k :=
  bl_le_iff.2 (Nat.xor_lt_two_pow (bl_le_iff.1 ha) (bl_le_iff.1 hb))
theorem bl_shift {n : Nat} (h : n ≠ 0) (k : Nat) : bl (n <<< k) = bl n + k := by
  have key : ∀ j, bl (n <<< k) ≤ j + k ↔ bl n ≤ j := by
    intro j
    rw [bl_le_iff, bl_le_iff, Nat.shiftLeft_eq, Nat.pow_add]
    exact ⟨fun h => Nat.lt_of_mul_lt_mul_right h, fun h => Nat.mul_lt_mul_of_pos_right h (Nat.two_pow_pos k)⟩
  have h1 := (key (bl n)).2 (Nat.le_refl _)
  have hne : n <<< k ≠ 0 := by rw [Ne, Nat.shiftLeft_eq_zero_iff]; exact h
  have h3 : bl n ≠ 0 := fun e => h (bl_eq_zero.1 e)
  have h2 : k ≤ bl (n <<< k) := by
    have hb : (n <<< k).testBit (bl n - 1 + k) = true := by
      rw [Nat.testBit_shiftLeft]; simp [top_bit h]
    have := bl_ge hb
    omega
  have := (key (bl (n <<< k) - k)).1 (by omega)
  omega
/-- Two numbers with one top: their sum lies below. -/
theorem bl_xor_lt {a b : Nat} (ha : a ≠ 0) (h : bl a = bl b) : bl (a ^^^ b) < bl a := by
  have hb : b ≠ 0 := fun e => by subst e; rw [bl_zero] at h; exact ha (bl_eq_zero.1 h)
  have hp : 0 < bl a := Nat.pos_of_ne_zero (fun e => ha (bl_eq_zero.1 e))
  have : bl (a ^^^ b) ≤ bl a - 1 := by
    rw [bl_le_iff]
    refine Nat.lt_pow_two_of_testBit _ fun i hi => ?_
    rw [Nat.testBit_xor]
    by_cases e : i = bl a - 1
    · subst e; rw [top_bit ha, h, top_bit hb]; rfl
    · rw [above (n := a) (by omega), above (n := b) (by omega)]; rfl
  omega
theorem bl_xor_ne {a b : Nat} (h : bl b < bl a) : bl (a ^^^ b) = bl a := by
  have ha : a ≠ 0 := fun e => by subst e; rw [bl_zero] at h; omega
  have h1 : bl (a ^^^ b) ≤ bl a := bl_xor_le _ _ _ (Nat.le_refl _) (by omega)
  have h2 : (a ^^^ b).testBit (bl a - 1) = true := by
    rw [Nat.testBit_xor, top_bit ha, above (n := b) (by omega)]; rfl
  have := bl_ge h2
  omega

/-- The product. -/
def mul (a : Nat) (b : Nat) : Nat := if b = 0 then 0 else (if b % 2 = 1 then a else 0) ^^^ (2 * mul a (b / 2))
decreasing_by omega

theorem mul_zero (a : Nat) : mul a 0 = 0 := by rw [mul, if_pos rfl]
theorem mul_step (a b : Nat) : mul a b = (if b % 2 = 1 then a else 0) ^^^ (2 * mul a (b / 2)) := by
  by_cases h : b = 0
  · subst h; rw [mul_zero]; simp [mul_zero]
  · rw [mul, if_neg h]
theorem two_xor (a b : Nat) : 2 * (a ^^^ b) = (2 * a) ^^^ (2 * b) := by
  have := @Nat.shiftLeft_xor_distrib 1 a b
  simp only [Nat.shiftLeft_eq, Nat.pow_one] at this
  rw [Nat.mul_comm 2, Nat.mul_comm 2, Nat.mul_comm 2]; exact this
theorem ite_xor (c : Prop) [Decidable c] (a b : Nat) : (if c then a ^^^ b else 0) = (if c then a else 0) ^^^ (if c then b else 0) := by
  split <;> simp
theorem xor4 (a b c d : Nat) : (a ^^^ b) ^^^ (c ^^^ d) = (a ^^^ c) ^^^ (b ^^^ d) := by
  rw [Nat.xor_assoc, Nat.xor_assoc, ← Nat.xor_assoc b c d, ← Nat.xor_assoc c b d, Nat.xor_comm b c]
theorem zero_mul (b : Nat) : mul 0 b = 0 := by
  induction b using Nat.strongRecOn with
  | _ b ih =>
    by_cases h : b = 0
    · subst h; exact mul_zero 0
    · rw [mul_step, ih (b / 2) (by omega)]; simp
theorem mul_xor_left (a c b : Nat) : mul (a ^^^ c) b = mul a b ^^^ mul c b := by
  induction b using Nat.strongRecOn with
  | _ b ih =>
    by_cases h : b = 0
    · subst h; simp [mul_zero]
    · rw [mul_step (a ^^^ c), mul_step a, mul_step c, ih (b / 2) (by omega), two_xor, ite_xor, xor4]
theorem mul_two_left (a b : Nat) : mul (2 * a) b = 2 * mul a b := by
  induction b using Nat.strongRecOn with
  | _ b ih =>
    by_cases h : b = 0
    · subst h; simp [mul_zero]
    · rw [mul_step (2 * a), mul_step a, ih (b / 2) (by omega), two_xor]
      congr 1
      split <;> simp
theorem mul_xor_right (a b c : Nat) : mul a (b ^^^ c) = mul a b ^^^ mul a c := by
  induction b using Nat.strongRecOn generalizing c with
  | _ b ih =>
    by_cases h : b = 0
    · subst h; simp [mul_zero]
    · rw [mul_step a (b ^^^ c), mul_step a b, mul_step a c, Nat.xor_div_two, ih (b / 2) (by omega), two_xor, xor4]
      congr 1
      have hx := @Nat.xor_mod_two_eq_one b c
      by_cases h1 : b % 2 = 1 <;> by_cases h2 : c % 2 = 1 <;> simp only [h1, h2, if_true, if_false, iff_true, iff_false, not_true, not_false_iff] at hx ⊢
      · rw [if_neg hx]; simp
      · rw [if_pos hx]; simp
      · rw [if_pos hx]; simp
      · rw [if_neg hx]; simp
theorem mul_one (a : Nat) : mul a 1 = a := by rw [mul_step]; simp [mul_zero]
theorem mul_two (a b : Nat) : mul a (2 * b) = 2 * mul a b := by
  rw [mul_step]
  have h1 : 2 * b % 2 = 0 := by omega
  have h2 : 2 * b / 2 = b := by omega
  rw [h1, h2]; simp
/-- A number is its last bit and twice its half. -/
theorem bit_split (a : Nat) : a = (a % 2) ^^^ (2 * (a / 2)) := by
  apply Nat.eq_of_testBit_eq
  intro i
  rw [Nat.testBit_xor]
  cases i with
  | zero =>
    rw [Nat.testBit_zero, Nat.testBit_zero, Nat.testBit_zero]
    have : 2 * (a / 2) % 2 = 0 := by omega
    rw [this]
    simp
  | succ i =>
    rw [Nat.testBit_add_one, Nat.testBit_add_one, Nat.testBit_add_one]
    have h1 : a % 2 / 2 = 0 := by omega
    have h2 : 2 * (a / 2) / 2 = a / 2 := by omega
    rw [h1, h2]; simp
theorem one_mul (b : Nat) : mul 1 b = b := by
  induction b using Nat.strongRecOn with
  | _ b ih =>
    by_cases h : b = 0
    · subst h; exact mul_zero 1
    · rw [mul_step, ih (b / 2) (by omega)]
      conv => rhs; rw [bit_split b]
      congr 1
      split <;> omega
theorem mul_comm (a b : Nat) : mul a b = mul b a := by
  induction b using Nat.strongRecOn generalizing a with
  | _ b ih =>
    by_cases h : b = 0
    · subst h; rw [mul_zero, zero_mul]
    · conv => rhs; rw [bit_split b]
      rw [mul_xor_left, mul_two_left, mul_step a b, ih (b / 2) (by omega)]
      congr 1
      split
      · rename_i h1; rw [h1, one_mul]
      · have h0 : b % 2 = 0 := by omega
        rw [h0, zero_mul]
theorem mul_assoc (a b c : Nat) : mul (mul a b) c = mul a (mul b c) := by
  induction c using Nat.strongRecOn with
  | _ c ih =>
    by_cases h : c = 0
    · subst h; simp [mul_zero]
    · rw [mul_step _ c, mul_step b c, mul_xor_right, mul_two, ih (c / 2) (by omega)]
      congr 1
      split <;> simp [mul_zero]
theorem mul_shift (a k : Nat) : mul a (1 <<< k) = a <<< k := by
  induction k with
  | zero => simp [mul_one]
  | succ k ih =>
    have h1 : 1 <<< (k + 1) = 2 * (1 <<< k) := by simp [Nat.shiftLeft_eq, Nat.pow_succ]; omega
    have h2 : a <<< (k + 1) = 2 * (a <<< k) := by
      rw [Nat.shiftLeft_eq, Nat.shiftLeft_eq, Nat.pow_succ, ← Nat.mul_assoc, Nat.mul_comm]
    rw [h1, mul_two, ih, h2]
theorem bl_two_mul {a : Nat} (h : a ≠ 0) : bl (2 * a) = bl a + 1 := by
  have := bl_shift h 1
  rw [Nat.shiftLeft_eq, Nat.pow_one, Nat.mul_comm] at this
  exact this
/-- Degrees add up. -/
theorem bl_mul {a b : Nat} (ha : a ≠ 0) (hb : b ≠ 0) : bl (mul a b) + 1 = bl a + bl b := by
  induction b using Nat.strongRecOn with
  | _ b ih =>
    rw [mul_step]
    have hA : 0 < bl a := Nat.pos_of_ne_zero (fun e => ha (bl_eq_zero.1 e))
    by_cases h1 : b / 2 = 0
    · have hb1 : b = 1 := by omega
      subst hb1
      have : bl 1 = 1 := by rfl
      simp [mul_zero, this]
    · have e := ih (b / 2) (by omega) h1
      have hbh := bl_half hb
      have hm : mul a (b / 2) ≠ 0 := by
        intro z; rw [z, bl_zero] at e
        have : 0 < bl (b / 2) := Nat.pos_of_ne_zero (fun e => h1 (bl_eq_zero.1 e))
        omega
      have hB : 0 < bl (b / 2) := Nat.pos_of_ne_zero (fun e => h1 (bl_eq_zero.1 e))
      have h2 := bl_two_mul hm
      rw [Nat.xor_comm, bl_xor_ne]
      · omega
      · split
        · omega
        · rw [bl_zero]; omega
theorem mul_ne_zero {a b : Nat} (ha : a ≠ 0) (hb : b ≠ 0) : mul a b ≠ 0 := by
  intro e
  have := bl_mul ha hb
  rw [e, bl_zero] at this
  have h1 : 0 < bl a := Nat.pos_of_ne_zero (fun e => ha (bl_eq_zero.1 e))
  have h2 : 0 < bl b := Nat.pos_of_ne_zero (fun e => hb (bl_eq_zero.1 e))
  omega
theorem mul_eq_zero {a b : Nat} : mul a b = 0 ↔ a = 0 ∨ b = 0 := by
  constructor
  · intro h
    by_cases ha : a = 0
    · exact .inl ha
    · by_cases hb : b = 0
      · exact .inr hb
      · exact absurd h (mul_ne_zero ha hb)
  · rintro (rfl | rfl)
    · exact zero_mul _
    · exact mul_zero _

theorem xor_eq_zero {a b : Nat} : a ^^^ b = 0 ↔ a = b := by
  constructor
  · intro h
    have : (a ^^^ b) ^^^ b = b := by rw [h]; simp
    rwa [Nat.xor_assoc, Nat.xor_self, Nat.xor_zero] at this
  · rintro rfl; exact Nat.xor_self _
theorem xor_cancel (a b : Nat) : (a ^^^ b) ^^^ b = a := by rw [Nat.xor_assoc, Nat.xor_self, Nat.xor_zero]
theorem xor_cancel_left (a b : Nat) : a ^^^ (a ^^^ b) = b := by rw [← Nat.xor_assoc, Nat.xor_self, Nat.zero_xor]
theorem xor_swap {a b c : Nat} (h : a ^^^ b = c) : a = c ^^^ b := by rw [← h, xor_cancel]

/-- The quotient and the rest. -/
def divMod (p q : Nat) : Nat × Nat :=
  if h : q ≠ 0 ∧ bl q ≤ bl p then
    let r := divMod (p ^^^ (q <<< (bl p - bl q))) q
    (r.1 ^^^ (1 <<< (bl p - bl q)), r.2)
  else (0, p)
termination_by bl p
decreasing_by
  have hp : p ≠ 0 := fun e => by
    rw [e, bl_zero] at h
    exact h.1 (bl_eq_zero.1 (by omega))
  have : bl (q <<< (bl p - bl q)) = bl p := by rw [bl_shift h.1]; omega
  exact bl_xor_lt hp this.symm

theorem divMod_step {p q : Nat} (hq : q ≠ 0) (h : bl q ≤ bl p) :
    divMod p q = ((divMod (p ^^^ (q <<< (bl p - bl q))) q).1 ^^^ (1 <<< (bl p - bl q)), (divMod (p ^^^ (q <<< (bl p - bl q))) q).2) := by
  rw [divMod, dif_pos ⟨hq, h⟩]
theorem divMod_done {p q : Nat} (h : bl p < bl q) : divMod p q = (0, p) := by
  rw [divMod, dif_neg (by omega)]
theorem down_lt {p q : Nat} (hq : q ≠ 0) (h : bl q ≤ bl p) : bl (p ^^^ (q <<< (bl p - bl q))) < bl p := by
  have hp : p ≠ 0 := fun e => by
    rw [e, bl_zero] at h
    exact hq (bl_eq_zero.1 (by omega))
  have : bl (q <<< (bl p - bl q)) = bl p := by rw [bl_shift hq]; omega
  exact bl_xor_lt hp this.symm
theorem divMod_spec {q : Nat} (hq : q ≠ 0) (p : Nat) : mul (divMod p q).1 q ^^^ (divMod p q).2 = p ∧ bl (divMod p q).2 < bl q := by
  generalize hn : bl p = n
  induction n using Nat.strongRecOn generalizing p with
  | _ n ih =>
    by_cases h : bl q ≤ bl p
    · rw [divMod_step hq h]
      have hlt := down_lt hq h
      have := ih _ (by omega) (p ^^^ (q <<< (bl p - bl q))) rfl
      refine ⟨?_, this.2⟩
      show mul (_ ^^^ _) q ^^^ _ = p
      rw [mul_xor_left, mul_comm (1 <<< _), mul_shift, Nat.xor_assoc, Nat.xor_comm (q <<< _), ← Nat.xor_assoc, this.1, xor_cancel]
    · rw [divMod_done (by omega)]
      exact ⟨by simp [zero_mul], by show bl p < bl q; omega⟩
theorem divMod_unique {q : Nat} (hq : q ≠ 0) {p s r : Nat} (h : mul s q ^^^ r = p) (hr : bl r < bl q) : divMod p q = (s, r) := by
  obtain ⟨h1, h2⟩ := divMod_spec hq p
  have e : mul ((divMod p q).1 ^^^ s) q = (divMod p q).2 ^^^ r := by
    rw [mul_xor_left]
    have := h1.trans h.symm
    have h3 := xor_swap this
    rw [h3, Nat.xor_assoc, Nat.xor_assoc, Nat.xor_comm (mul s q), ← Nat.xor_assoc, Nat.xor_comm r]
    rw [Nat.xor_assoc, Nat.xor_assoc, Nat.xor_self, Nat.xor_zero]
  by_cases hs : (divMod p q).1 ^^^ s = 0
  · rw [hs, zero_mul] at e
    have e1 := xor_eq_zero.1 hs
    have e2 := xor_eq_zero.1 e.symm
    exact Prod.ext e1 e2
  · have := bl_mul hs hq
    rw [e] at this
    have h4 : bl ((divMod p q).2 ^^^ r) ≤ bl q - 1 := bl_xor_le _ _ _ (by omega) (by omega)
    have h5 : 0 < bl ((divMod p q).1 ^^^ s) := Nat.pos_of_ne_zero (fun e => hs (bl_eq_zero.1 e))
    omega
def rest (p q : Nat) : Nat := (divMod p q).2
theorem rest_lt {q : Nat} (hq : q ≠ 0) (p : Nat) : bl (rest p q) < bl q := (divMod_spec hq p).2
theorem rest_xor {q : Nat} (hq : q ≠ 0) (a b : Nat) : rest (a ^^^ b) q = rest a q ^^^ rest b q := by
  obtain ⟨a1, a2⟩ := divMod_spec hq a
  obtain ⟨b1, b2⟩ := divMod_spec hq b
  have : divMod (a ^^^ b) q = ((divMod a q).1 ^^^ (divMod b q).1, (divMod a q).2 ^^^ (divMod b q).2) := by
    apply divMod_unique hq
    · rw [mul_xor_left, xor4, a1, b1]
    · have := bl_xor_le (divMod a q).2 (divMod b q).2 (bl q - 1) (by omega) (by omega)
      omega
  unfold rest; rw [this]
theorem rest_of_lt {p q : Nat} (h : bl p < bl q) : rest p q = p := by unfold rest; rw [divMod_done h]
theorem rest_mul_right {q : Nat} (hq : q ≠ 0) (s : Nat) : rest (mul s q) q = 0 := by
  have : divMod (mul s q) q = (s, 0) := divMod_unique hq (by simp) (by rw [bl_zero]; exact Nat.pos_of_ne_zero (fun e => hq (bl_eq_zero.1 e)))
  unfold rest; rw [this]
/-- q divides p. -/
def Dv (q p : Nat) : Prop := ∃ s, mul s q = p
theorem rest_zero_iff {q : Nat} (hq : q ≠ 0) {p : Nat} : rest p q = 0 ↔ Dv q p := by
  constructor
  · intro h
    have := (divMod_spec hq p).1
    unfold rest at h
    rw [h, Nat.xor_zero] at this
    exact ⟨_, this⟩
  · rintro ⟨s, rfl⟩; exact rest_mul_right hq s
theorem rest_rest_mul {q : Nat} (hq : q ≠ 0) (a b : Nat) : rest (mul (rest a q) b) q = rest (mul a b) q := by
  have h := (divMod_spec hq a).1
  conv => rhs; rw [← h]
  rw [mul_xor_left, rest_xor hq, mul_assoc, mul_comm q b, ← mul_assoc, rest_mul_right hq, Nat.zero_xor]
  rfl
theorem Dv.refl (a : Nat) : Dv a a := ⟨1, one_mul a⟩
theorem Dv.zero (a : Nat) : Dv a 0 := ⟨0, zero_mul a⟩
theorem Dv.trans {a b c : Nat} (h : Dv a b) (k : Dv b c) : Dv a c := by
  obtain ⟨s, rfl⟩ := h; obtain ⟨t, rfl⟩ := k
  exact ⟨mul t s, mul_assoc t s a⟩
theorem Dv.xor {a b c : Nat} (h : Dv a b) (k : Dv a c) : Dv a (b ^^^ c) := by
  obtain ⟨s, rfl⟩ := h; obtain ⟨t, rfl⟩ := k
  exact ⟨s ^^^ t, mul_xor_left s t a⟩
theorem Dv.mul_left {a b : Nat} (h : Dv a b) (c : Nat) : Dv a (mul c b) := by
  obtain ⟨s, rfl⟩ := h
  exact ⟨mul c s, mul_assoc c s a⟩
theorem Dv.mul_right {a b : Nat} (h : Dv a b) (c : Nat) : Dv a (mul b c) := by rw [mul_comm]; exact h.mul_left c
theorem Dv.bl_le {a b : Nat} (h : Dv a b) (hb : b ≠ 0) : bl a ≤ bl b := by
  obtain ⟨s, rfl⟩ := h
  have hs : s ≠ 0 := fun e => hb (by rw [e, zero_mul])
  have ha : a ≠ 0 := fun e => hb (by rw [e, mul_zero])
  have := bl_mul hs ha
  have : 0 < bl s := Nat.pos_of_ne_zero (fun e => hs (bl_eq_zero.1 e))
  omega
theorem bl_le_one {a : Nat} (h : bl a ≤ 1) : a = 0 ∨ a = 1 := by
  have := bl_le_iff.1 h
  omega
/-- Who divides each other is one. -/
theorem Dv.antisymm {a b : Nat} (h : Dv a b) (k : Dv b a) : a = b := by
  by_cases hb : b = 0
  · subst hb; obtain ⟨s, rfl⟩ := k; rw [mul_zero]
  · obtain ⟨s, rfl⟩ := h
    have hs : s ≠ 0 := fun e => hb (by rw [e, zero_mul])
    have ha : a ≠ 0 := fun e => hb (by rw [e, mul_zero])
    have h1 := k.bl_le ha
    have h2 := bl_mul hs ha
    have h3 : 0 < bl s := Nat.pos_of_ne_zero (fun e => hs (bl_eq_zero.1 e))
    rcases bl_le_one (a := s) (by omega) with e | e
    · exact absurd e hs
    · rw [e, one_mul]
/-- The greatest common divisor. -/
def gcd (p q : Nat) : Nat := if h : q = 0 then p else gcd q (rest p q)
termination_by bl q
decreasing_by exact rest_lt h p
theorem gcd_zero (p : Nat) : gcd p 0 = p := by rw [gcd, dif_pos rfl]
theorem gcd_step {p q : Nat} (h : q ≠ 0) : gcd p q = gcd q (rest p q) := by rw [gcd, dif_neg h]
theorem gcd_dv (p q : Nat) : Dv (gcd p q) p ∧ Dv (gcd p q) q := by
  generalize hn : bl q = n
  induction n using Nat.strongRecOn generalizing p q with
  | _ n ih =>
    by_cases h : q = 0
    · subst h; rw [gcd_zero]; exact ⟨Dv.refl p, Dv.zero p⟩
    · rw [gcd_step h]
      have hlt := rest_lt h p
      obtain ⟨h1, h2⟩ := ih _ (by omega) q (rest p q) rfl
      refine ⟨?_, h1⟩
      have := (divMod_spec h p).1
      have k := (h1.mul_left (divMod p q).1).xor h2
      unfold rest at k ⊢
      rw [this] at k
      exact k
theorem dv_gcd {d p q : Nat} (hp : Dv d p) (hq : Dv d q) : Dv d (gcd p q) := by
  generalize hn : bl q = n
  induction n using Nat.strongRecOn generalizing p q with
  | _ n ih =>
    by_cases h : q = 0
    · subst h; rw [gcd_zero]; exact hp
    · rw [gcd_step h]
      have hlt := rest_lt h p
      refine ih _ (by omega) hq ?_ rfl
      have := (divMod_spec h p).1
      have e : rest p q = mul (divMod p q).1 q ^^^ p := by
        have := xor_swap ((Nat.xor_comm _ _).trans this)
        rw [Nat.xor_comm]
        exact this
      rw [e]
      exact (hq.mul_left _).xor hp
end Go.Proofs.Ytfhbkgbhogndfaa.Gf
