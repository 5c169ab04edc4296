/- Polynomials over two elements: x + 1 for x, and the derivative. -/
import Derived.Test.YtigkmdlbijdoaaaGreatDoorShift
namespace Go.Proofs.YtigkmdlbijdoaaaGreatDoor.Gf
open Go.Proofs.YtigkmdlbijdoaaaGreatDoor.Pf
/-- x + 1 for x. -/
def sub1 (p : Nat) : Nat := shM p (bl p) 0
theorem shM_low (p : Nat) : ∀ (c out : Nat), shM p (c + 1) out = mul (shM (p / 2) c out) 3 ^^^ (p % 2)
  | 0, out => by
    rw [shM, shM, shM, mul_three]
    congr 1
    rcases Nat.mod_two_eq_zero_or_one p with h | h <;> simp [Nat.testBit_zero, h]
  | c + 1, out => by
    rw [shM, shM_low p c, shM]
    rw [show (p / 2).testBit c = p.testBit (c + 1) by rw [Nat.testBit_succ]]
theorem sub1_zero : sub1 0 = 0 := by unfold sub1; rw [bl_zero, shM]
theorem sub1_step (p : Nat) : sub1 p = mul (sub1 (p / 2)) 3 ^^^ (p % 2) := by
  by_cases h : p = 0
  · subst h; rw [Nat.zero_div, sub1_zero, zero_mul]; rfl
  · unfold sub1
    rw [bl_half h, shM_low]
theorem sub1_one : sub1 1 = 1 := by rw [sub1_step, show 1 / 2 = 0 from rfl, sub1_zero, zero_mul]; rfl
theorem sub1_two (a : Nat) : sub1 (2 * a) = mul (sub1 a) 3 := by
  rw [sub1_step, show 2 * a / 2 = a by omega, show 2 * a % 2 = 0 by omega, Nat.xor_zero]
theorem sub1_bit (b : Nat) (h : b < 2) : sub1 b = b := by
  rcases (show b = 0 ∨ b = 1 by omega) with rfl | rfl
  · exact sub1_zero
  · exact sub1_one
theorem xor_mod2 (a b : Nat) : (a ^^^ b) % 2 = (a % 2) ^^^ (b % 2) := by
  have := Nat.xor_mod_two_pow (a := a) (b := b) (n := 1)
  simpa using this
theorem xor_div2 (a b : Nat) : (a ^^^ b) / 2 = (a / 2) ^^^ (b / 2) := by
  have := Nat.shiftRight_xor_distrib (a := a) (b := b) (i := 1)
  simpa [Nat.shiftRight_eq_div_pow] using this
theorem sub1_xor : ∀ (n a b : Nat), a ≤ n → b ≤ n → sub1 (a ^^^ b) = sub1 a ^^^ sub1 b
  | 0, a, b, ha, hb => by
    obtain rfl : a = 0 := by omega
    obtain rfl : b = 0 := by omega
    rw [Nat.xor_self, sub1_zero, Nat.xor_self]
  | n + 1, a, b, ha, hb => by
    rw [sub1_step (a ^^^ b), sub1_step a, sub1_step b, xor_div2, xor_mod2, sub1_xor n (a / 2) (b / 2) (by omega) (by omega), mul_xor_left, xor4]
theorem sub1_add (a b : Nat) : sub1 (a ^^^ b) = sub1 a ^^^ sub1 b := sub1_xor (max a b) a b (Nat.le_max_left _ _) (Nat.le_max_right _ _)
theorem mul_ite (a b : Nat) (h : b < 2) : mul a b = if b = 1 then a else 0 := by
  rcases (show b = 0 ∨ b = 1 by omega) with rfl | rfl
  · rw [mul_zero]; rfl
  · rw [mul_one]; rfl
theorem sub1_mul_aux (a : Nat) : ∀ (n b : Nat), b ≤ n → sub1 (mul a b) = mul (sub1 a) (sub1 b)
  | 0, b, hb => by
    obtain rfl : b = 0 := by omega
    rw [mul_zero, sub1_zero, mul_zero]
  | n + 1, b, hb => by
    by_cases h0 : b = 0
    · subst h0; rw [mul_zero, sub1_zero, mul_zero]
    · rw [mul_step, sub1_add, sub1_two, sub1_mul_aux a n (b / 2) (by omega), sub1_step b, mul_xor_right, ← mul_assoc, Nat.xor_comm]
      congr 1
      rw [mul_ite _ _ (Nat.mod_lt _ (by omega))]
      split
      · rfl
      · exact sub1_zero
theorem sub1_mul (a b : Nat) : sub1 (mul a b) = mul (sub1 a) (sub1 b) := sub1_mul_aux a b b (Nat.le_refl _)
theorem sub1_three : sub1 3 = 2 := by
  have e : (3 : Nat) = 1 ^^^ 2 * 1 := rfl
  rw [e, sub1_add, sub1_two, sub1_one, one_mul]
  rfl
theorem sub1_back_aux : ∀ (n a : Nat), a ≤ n → sub1 (sub1 a) = a
  | 0, a, h => by obtain rfl : a = 0 := by omega
                  rw [sub1_zero, sub1_zero]
  | n + 1, a, h => by
    by_cases h0 : a = 0
    · subst h0; rw [sub1_zero, sub1_zero]
    · rw [sub1_step a, sub1_add, sub1_mul, sub1_three, sub1_back_aux n (a / 2) (by omega), sub1_bit _ (Nat.mod_lt _ (by omega))]
      rw [show (2 : Nat) = 2 * 1 from rfl, mul_two, mul_one, Nat.mul_one]
      rw [Nat.xor_comm]
      exact (bit_split a).symm
theorem sub1_back (a : Nat) : sub1 (sub1 a) = a := sub1_back_aux a a (Nat.le_refl _)
theorem sub1_ne {a : Nat} (h : a ≠ 0) : sub1 a ≠ 0 := fun e => h (by rw [← sub1_back a, e, sub1_zero])
theorem bl_sub1_le : ∀ (n a : Nat), a ≤ n → bl (sub1 a) ≤ bl a
  | 0, a, h => by obtain rfl : a = 0 := by omega
                  rw [sub1_zero]; exact Nat.le_refl _
  | n + 1, a, h => by
    by_cases h0 : a = 0
    · subst h0; rw [sub1_zero]; exact Nat.le_refl _
    · rw [sub1_step a, bl_half h0]
      have h1 := bl_sub1_le n (a / 2) (by omega)
      refine bl_xor_le _ _ _ ?_ ?_
      · rw [mul_three]
        have := bl_mul3 (sub1 (a / 2)); omega
      · have : a % 2 < 2 := Nat.mod_lt _ (by omega)
        exact bl_le_iff.2 (Nat.lt_of_lt_of_le this (by rw [Nat.pow_succ]; have := Nat.two_pow_pos (bl (a / 2)); omega))
theorem bl_sub1 (a : Nat) : bl (sub1 a) = bl a := by
  have h1 := bl_sub1_le a a (Nat.le_refl _)
  have h2 := bl_sub1_le (sub1 a) (sub1 a) (Nat.le_refl _)
  rw [sub1_back] at h2
  omega
/-- The derivative. -/
def der (p : Nat) : Nat := if p = 0 then 0 else (p / 2 % 2) ^^^ (4 * der (p / 4))
termination_by p
decreasing_by omega
theorem der_zero : der 0 = 0 := by rw [der, if_pos rfl]
theorem der_step (p : Nat) : der p = (p / 2 % 2) ^^^ (4 * der (p / 4)) := by
  by_cases h : p = 0
  · subst h; rw [der_zero]; rfl
  · rw [der, if_neg h]
theorem four_xor (a b : Nat) : 4 * (a ^^^ b) = (4 * a) ^^^ (4 * b) := by
  rw [show 4 * (a ^^^ b) = 2 * (2 * (a ^^^ b)) by omega, two_xor, two_xor]
  congr 1 <;> omega
theorem der_xor : ∀ (n a b : Nat), a ≤ n → b ≤ n → der (a ^^^ b) = der a ^^^ der b
  | 0, a, b, ha, hb => by
    obtain rfl : a = 0 := by omega
    obtain rfl : b = 0 := by omega
    rw [Nat.xor_self, der_zero, Nat.xor_self]
  | n + 1, a, b, ha, hb => by
    have e4 : (a ^^^ b) / 4 = (a / 4) ^^^ (b / 4) := by
      have : ∀ x, x / 4 = x / 2 / 2 := fun x => by omega
      rw [this, this a, this b, xor_div2, xor_div2]
    rw [der_step (a ^^^ b), der_step a, der_step b, xor_div2, xor_mod2, e4, der_xor n (a / 4) (b / 4) (by omega) (by omega), four_xor, xor4]
theorem der_add (a b : Nat) : der (a ^^^ b) = der a ^^^ der b := der_xor (max a b) a b (Nat.le_max_left _ _) (Nat.le_max_right _ _)
theorem der_two : ∀ (n a : Nat), a ≤ n → der (2 * a) = a ^^^ 2 * der a
  | 0, a, h => by obtain rfl : a = 0 := by omega
                  rw [Nat.mul_zero, der_zero]; rfl
  | n + 1, a, h => by
    by_cases h0 : a = 0
    · subst h0; rw [Nat.mul_zero, der_zero]; rfl
    · have e1 : 2 * a / 4 = a / 2 := by omega
      have e2 : 2 * a / 2 = a := by omega
      rw [der_step (2 * a), e1, e2]
      have ea := bit_split a
      have eh := bit_split (a / 2)
      have ih := der_two n (a / 2 / 2) (by omega)
      -- the half of a
      have hh : der (a / 2) = a / 4 ^^^ 2 * der (a / 4) := by
        have e3 : a / 2 / 2 = a / 4 := by omega
        rw [e3] at ih eh
        rw [eh, der_add, ih]
        have : der (a / 2 % 2) = 0 := by
          rcases (show a / 2 % 2 = 0 ∨ a / 2 % 2 = 1 by omega) with e | e
          · rw [e, der_zero]
          · rw [e, der_step]; rw [show (1 : Nat) / 2 % 2 = 0 from rfl, show (1 : Nat) / 4 = 0 from rfl, der_zero]; rfl
        rw [this, Nat.zero_xor]
      rw [hh, four_xor, der_step a, two_xor]
      have e5 : 4 * (a / 4) = 2 * (2 * (a / 4)) := by omega
      have e6 : 2 * (a / 2 % 2) ^^^ 2 * (2 * (a / 4)) = 2 * (a / 2) := by
        rw [← two_xor]
        congr 1
        rw [show a / 4 = a / 2 / 2 by omega]
        exact eh.symm
      have e7 : 4 * (2 * der (a / 4)) = 2 * (4 * der (a / 4)) := by omega
      have ea' : a = a % 2 ^^^ (2 * (a / 2 % 2) ^^^ 2 * (2 * (a / 4))) := by rw [e6]; exact ea
      rw [e5, e7]
      have key : ∀ u v x y A : Nat, A = u ^^^ (v ^^^ x) → u ^^^ (x ^^^ y) = A ^^^ (v ^^^ y) := fun u v x y A h => by
        rw [h, Nat.xor_assoc u (v ^^^ x), Nat.xor_comm v x, Nat.xor_assoc x v, xor_cancel_left v y]
      exact key _ _ _ _ _ ea'
theorem der_mul_aux (a : Nat) : ∀ (n b : Nat), b ≤ n → der (mul a b) = mul (der a) b ^^^ mul a (der b)
  | 0, b, hb => by
    obtain rfl : b = 0 := by omega
    rw [mul_zero, der_zero, mul_zero, mul_zero]; rfl
  | n + 1, b, hb => by
    by_cases h0 : b = 0
    · subst h0; rw [mul_zero, der_zero, mul_zero, mul_zero]; rfl
    · have ih := der_mul_aux a n (b / 2) (by omega)
      have eb := bit_split b
      have d0 : der (b % 2) = 0 := by
        rcases (show b % 2 = 0 ∨ b % 2 = 1 by omega) with e | e
        · rw [e, der_zero]
        · rw [e, der_step]; rw [show (1 : Nat) / 2 % 2 = 0 from rfl, show (1 : Nat) / 4 = 0 from rfl, der_zero]; rfl
      have hb2 : der b = b / 2 ^^^ 2 * der (b / 2) := by
        conv => lhs; rw [eb]
        rw [der_add, d0, Nat.zero_xor, der_two _ _ (Nat.le_refl _)]
      have hm : mul a b = mul a (b % 2) ^^^ 2 * mul a (b / 2) := by
        conv => lhs; rw [eb]
        rw [mul_xor_right, mul_two]
      have hd : mul (der a) b = mul (der a) (b % 2) ^^^ 2 * mul (der a) (b / 2) := by
        conv => lhs; rw [eb]
        rw [mul_xor_right, mul_two]
      have h1 : der (mul a (b % 2)) = mul (der a) (b % 2) := by
        rcases (show b % 2 = 0 ∨ b % 2 = 1 by omega) with e | e
        · rw [e, mul_zero, mul_zero, der_zero]
        · rw [e, mul_one, mul_one]
      rw [hm, der_add, der_two _ _ (Nat.le_refl _), ih, h1, hd, hb2, mul_xor_right, mul_two, two_xor]
      generalize mul (der a) (b % 2) = u
      generalize mul a (b / 2) = v
      generalize 2 * mul (der a) (b / 2) = x
      generalize 2 * mul a (der (b / 2)) = y
      rw [Nat.xor_assoc u x, ← Nat.xor_assoc x v y, Nat.xor_comm x v, Nat.xor_assoc v x y]
theorem der_mul (a b : Nat) : der (mul a b) = mul (der a) b ^^^ mul a (der b) := der_mul_aux a b b (Nat.le_refl _)
theorem der_bits : ∀ (n p i : Nat), p ≤ n → (der p).testBit i = (decide (i % 2 = 0) && p.testBit (i + 1))
  | 0, p, i, h => by
    obtain rfl : p = 0 := by omega
    rw [der_zero]; simp
  | n + 1, p, i, h => by
    by_cases h0 : p = 0
    · subst h0; rw [der_zero]; simp
    · have ih := fun i => der_bits n (p / 4) i (by omega)
      rw [der_step, Nat.testBit_xor]
      match i with
      | 0 =>
        rw [show 4 * der (p / 4) = 2 * (2 * der (p / 4)) by omega, Nat.testBit_zero, Nat.testBit_zero, Nat.testBit_succ, Nat.testBit_zero]
        simp
      | 1 =>
        rw [show 4 * der (p / 4) = 2 * (2 * der (p / 4)) by omega, Nat.testBit_succ, Nat.testBit_succ, show p / 2 % 2 / 2 = 0 by omega]
        simp
      | i + 2 =>
        have h1 : (4 * der (p / 4)).testBit (i + 2) = (der (p / 4)).testBit i := by
          rw [Nat.testBit_succ, Nat.testBit_succ]; congr 1; omega
        have h2 : (p / 2 % 2).testBit (i + 2) = false := by
          rw [Nat.testBit_succ, show p / 2 % 2 / 2 = 0 by omega]; simp
        have h3 : p.testBit (i + 2 + 1) = (p / 4).testBit (i + 1) := by
          rw [show i + 2 + 1 = (i + 1 + 1) + 1 by omega, Nat.testBit_succ, Nat.testBit_succ]; congr 1; omega
        rw [h1, h2, h3, ih, show (i + 2) % 2 = i % 2 by omega]
        simp
end Go.Proofs.YtigkmdlbijdoaaaGreatDoor.Gf
