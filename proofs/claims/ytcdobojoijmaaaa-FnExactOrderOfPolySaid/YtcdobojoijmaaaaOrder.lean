/- Orders and the first of Fibonacci's polynomials: the loops of both sides. -/
import Derived.Test.YtcdobojoijmaaaaShift
import Derived.Test.YtcdobojoijmaaaaPx20
import Derived.Test.YtcdobojoijmaaaaPx26
import Derived.Test.YtcdobojoijmaaaaPx27
namespace Go.Proofs.Ytcdobojoijmaaaa.Pf
open Go.RowKit Go.Proofs.Ytcdobojoijmaaaa.P Go.Proofs.Ytcdobojoijmaaaa.Bt Go.Proofs.Ytcdobojoijmaaaa.Gf Go.Proofs.YtcdobojoijmaaaaW.PrintWords Go.Proofs.YtcdobojoijmaaaaW.PrintLast
set_option linter.unusedVariables false
set_option linter.unusedSimpArgs false

/-- More pigeons than holes. -/
theorem pigeons : ∀ (N : Nat) (g : Nat → Nat), (∀ i, i ≤ N → g i < N) → ∃ i j, i < j ∧ j ≤ N ∧ g i = g j
  | 0, g, h => absurd (h 0 (Nat.le_refl 0)) (Nat.not_lt_zero _)
  | N + 1, g, h => by
    by_cases hx : ∃ i, i ≤ N ∧ g i = g (N + 1)
    · obtain ⟨i, hi, e⟩ := hx
      exact ⟨i, N + 1, by omega, Nat.le_refl _, e⟩
    · have hne : ∀ i, i ≤ N → g i ≠ g (N + 1) := fun i hi e => hx ⟨i, hi, e⟩
      obtain ⟨i, j, hij, hj, e⟩ := pigeons N (fun i => if g i = N then g (N + 1) else g i) (fun i hi => by
        have h1 := h i (by omega)
        have h2 := h (N + 1) (Nat.le_refl _)
        have h3 := hne i hi
        show (if g i = N then g (N + 1) else g i) < N
        split <;> omega)
      refine ⟨i, j, hij, by omega, ?_⟩
      have h1 := hne i (by omega)
      have h2 := hne j hj
      split at e <;> split at e <;> omega

/-- Powers of x, reduced. -/
def pw (p : Nat) : Nat → Nat
  | 0 => 1
  | n + 1 => rest (2 * pw p n) p
theorem pw_lt {p : Nat} (hp : 2 ≤ bl p) : ∀ n, bl (pw p n) < bl p
  | 0 => by show 1 < _; omega
  | n + 1 => rest_lt (fun e => by rw [e, bl_zero] at hp; omega) _
/-- x may be cancelled. -/
theorem cancel {p a b : Nat} (hodd : p % 2 = 1) (ha : bl a < bl p) (hb : bl b < bl p) (h : rest (2 * a) p = rest (2 * b) p) : a = b := by
  have hp0 : p ≠ 0 := by omega
  have h1 : rest (2 * a ^^^ 2 * b) p = 0 := by rw [rest_xor hp0, h, Nat.xor_self]
  obtain ⟨s, hs⟩ := (rest_zero_iff hp0).1 h1
  rw [← two_xor] at hs
  have h2 : mul p s = 2 * (a ^^^ b) := by rw [mul_comm]; exact hs
  have h3 : s % 2 = 0 := by
    rw [mul_comm, mul_step] at h2
    have h5 : (if p % 2 = 1 then s else 0) ^^^ 2 * mul s (p / 2) = 2 * (a ^^^ b) := h2
    rw [if_pos hodd] at h5
    have h4 := @Nat.xor_mod_two_eq_one s (2 * mul s (p / 2))
    rw [h5] at h4
    have h6 : 2 * (a ^^^ b) % 2 = 0 := by omega
    have h7 : 2 * mul s (p / 2) % 2 = 0 := by omega
    rw [h6, h7] at h4
    simp at h4
    exact h4
  have h4 : mul p (s / 2) = a ^^^ b := by
    have : s = 2 * (s / 2) := by omega
    rw [this, mul_two] at h2
    omega
  by_cases hs0 : s / 2 = 0
  · rw [hs0, mul_zero] at h4
    exact xor_eq_zero.1 h4.symm
  · have h5 := bl_mul hp0 hs0
    rw [h4] at h5
    have h6 := bl_xor_le a b (bl p - 1) (by omega) (by omega)
    have h7 := bl_pos' hs0
    omega
theorem pw_cancel {p : Nat} (hp : 2 ≤ bl p) (hodd : p % 2 = 1) : ∀ (i d : Nat), pw p i = pw p (i + d) → pw p d = 1
  | 0, d, h => by rw [Nat.zero_add] at h; exact h.symm
  | i + 1, d, h => by
    rw [show i + 1 + d = (i + d) + 1 by omega] at h
    exact pw_cancel hp hodd i d (cancel hodd (pw_lt hp i) (pw_lt hp (i + d)) h)
/-- Some power is 1. -/
theorem order_exists {p : Nat} (hp : 2 ≤ bl p) (hodd : p % 2 = 1) : ∃ n, 1 ≤ n ∧ n ≤ 2 ^ bl p ∧ pw p n = 1 := by
  obtain ⟨i, j, hij, hj, e⟩ := pigeons (2 ^ bl p) (pw p) (fun i _ => bl_le_iff.1 (by have := pw_lt hp i; omega))
  refine ⟨j - i, by omega, by omega, pw_cancel hp hodd i (j - i) ?_⟩
  rw [show i + (j - i) = j by omega]; exact e
/-- The least such power: from n on, at most d further. -/
theorem order_l0 {p : Nat} (hp : 2 ≤ bl p) (hpb : bl p ≤ 41) : ∀ (d n : Nat), n + d ≤ 4611686018427387904 → (∃ m, m ≤ d ∧ pw p (n + m) = 1) →
    ∃ r : Nat, n ≤ r ∧ r ≤ n + d ∧ pw p r = 1 ∧ (∀ j, n ≤ j → j < r → pw p j ≠ 1) ∧
      ∀ k, d + 200 < k → impl_OrderOfPoly.l0 k (p : Int) ((pw p n : Nat) : Int) (n : Int) = some ((r : Int), true) ∧ spec_OrderOfPoly.l0 k (p : Int) (n : Int) ((pw p n : Nat) : Int) = some ((r : Int), true) := by
  intro d
  have hp0 : p ≠ 0 := fun e => by rw [e, bl_zero] at hp; omega
  have h1 : rest 1 p = 1 := rest_of_lt (by show 1 < _; omega)
  have hr1 : ∀ k, 130 < k → spec_poRest.f k 1 (p : Int) = some 1 := fun k hk => by
    have := poRest_at 1 p hp0 (by show 1 ≤ _; omega) (by omega) k hk
    rw [h1] at this
    exact this
  induction d with
  | zero =>
    intro n hn ⟨m, hm, e⟩
    have : m = 0 := by omega
    subst this
    rw [Nat.add_zero] at e
    refine ⟨n, by omega, by omega, e, fun j _ _ => by omega, fun k hk => ?_⟩
    obtain ⟨k, rfl⟩ : ∃ m, k = m + 1 := ⟨k - 1, by omega⟩
    rw [impl_OrderOfPoly.l0, spec_OrderOfPoly.l0, e, hr1 k (by omega)]
    simp
  | succ d ih =>
    intro n hn ⟨m, hm, e⟩
    by_cases h : pw p n = 1
    · refine ⟨n, by omega, by omega, h, fun j _ _ => by omega, fun k hk => ?_⟩
      obtain ⟨k, rfl⟩ : ∃ m, k = m + 1 := ⟨k - 1, by omega⟩
      rw [impl_OrderOfPoly.l0, spec_OrderOfPoly.l0, h, hr1 k (by omega)]
      simp
    · obtain ⟨m, rfl⟩ : ∃ m', m = m' + 1 := ⟨m - 1, by
        have : m ≠ 0 := fun e0 => by subst e0; exact h e
        omega⟩
      obtain ⟨r, a1, a2, a3, a4, a5⟩ := ih (n + 1) (by omega) ⟨m, by omega, by rw [← e]; congr 1; omega⟩
      refine ⟨r, by omega, by omega, a3, fun j hj1 hj2 => ?_, fun k hk => ?_⟩
      · by_cases ej : j = n
        · subst ej; exact h
        · exact a4 j (by omega) hj2
      · obtain ⟨k, rfl⟩ : ∃ m, k = m + 1 := ⟨k - 1, by omega⟩
        obtain ⟨b1, b2⟩ := a5 k (by omega)
        have hlt := pw_lt hp n
        have hpn := lt_of_bl (n := pw p n) (by omega)
        have h2 : bl (2 * pw p n) ≤ 61 := by
          by_cases z : pw p n = 0
          · rw [z]; simp [bl_zero]
          · rw [bl_two_mul z]; omega
        have h2l := lt_of_bl (n := 2 * pw p n) (by omega)
        have hi : ¬ ((pw p n : Nat) : Int) = 1 := by omega
        rw [impl_OrderOfPoly.l0, spec_OrderOfPoly.l0, hr1 k (by omega)]
        simp only [Option.bind_some]
        rw [if_neg hi, if_neg hi, two_nat, wrap_nat (by omega), modulo_at _ p hp0 h2 (by omega) k (by omega), poRest_at _ p hp0 h2 (by omega) k (by omega)]
        simp only [Option.bind_some]
        rw [show wrap64 ((n : Int) + 1) = ((n + 1 : Nat) : Int) from wrap_id (by omega) (by omega)]
        exact ⟨b1, b2⟩
/-- Both sides tell the least power of x that is 1. -/
theorem order_at {p : Nat} (hp : 2 ≤ bl p) (hpb : bl p ≤ 13) (hodd : p % 2 = 1) : ∃ r : Nat, 1 ≤ r ∧ r ≤ 8192 ∧ pw p r = 1 ∧ (∀ j, 1 ≤ j → j < r → pw p j ≠ 1) ∧
    ∀ k, 9000 < k → impl_OrderOfPoly.f k (p : Int) = some ((r : Int), true) ∧ spec_OrderOfPoly.f k (p : Int) = some ((r : Int), true) := by
  obtain ⟨n, n1, n2, n3⟩ := order_exists hp hodd
  have n4 : 2 ^ bl p ≤ 2 ^ 13 := Nat.pow_le_pow_right (by omega) hpb
  have n5 : (2 : Nat) ^ 13 = 8192 := rfl
  have hp0 : p ≠ 0 := by omega
  have hpl : p < 8192 := by have := bl_le_iff.1 hpb; omega
  obtain ⟨r, a1, a2, a3, a4, a5⟩ := order_l0 hp (by omega) (n - 1) 1 (by omega) ⟨n - 1, by omega, by rw [show 1 + (n - 1) = n by omega]; exact n3⟩
  refine ⟨r, a1, by omega, a3, a4, fun k hk => ?_⟩
  obtain ⟨k, rfl⟩ : ∃ m, k = m + 1 := ⟨k - 1, by omega⟩
  obtain ⟨b1, b2⟩ := a5 k (by omega)
  have hm : Int.tmod (p : Int) 2 = 1 := by rw [tmod_two]; omega
  have hd := poDegree_at p (by omega) (k + 1) (by omega)
  have hbit : p.testBit 0 = true := by rw [Nat.testBit_zero]; simp [hodd]
  have m2 := modulo_at 2 p hp0 (by show 2 ≤ _; omega) (by omega) k (by omega)
  have r2 := poRest_at 2 p hp0 (by show 2 ≤ _; omega) (by omega) k (by omega)
  have e2 : rest 2 p = pw p 1 := by show _ = rest (2 * 1) p; rfl
  constructor
  · unfold impl_OrderOfPoly.f impl_isPoly.f
    simp only [Option.bind_some, List.all_cons, List.all_nil, Bool.and_true]
    have hin : (decide (0 ≤ (p : Int)) && decide ((p : Int) ≤ 2199023255551)) = true := by simp; omega
    rw [hin, if_pos rfl, show (0 : Int) = ((0 : Nat) : Int) from rfl, has_at p 0 (by omega), hbit]
    simp only [Option.bind_some, if_true]
    rw [degree_at p (by omega)]
    simp only [Option.bind_some]
    rw [in_at]
    have hin2 : (decide (1 ≤ (bl p : Int) - 1) && decide ((bl p : Int) - 1 ≤ 12)) = true := by simp; omega
    rw [hin2]
    simp only [Option.bind_some, Bool.not_true]
    rw [impl_OrderOfPoly.j0, if_neg (by simp), show (2 : Int) = ((2 : Nat) : Int) from rfl, m2]
    simp only [Option.bind_some]
    rw [e2]
    exact b1
  · unfold spec_OrderOfPoly.f
    rw [poGood_at, hm, hd]
    have hin : (decide (0 ≤ (p : Int)) && decide ((p : Int) ≤ 2199023255551)) = true := by simp; omega
    rw [hin]
    simp only [Option.bind_some, if_true]
    rw [l1In_at, if_neg (by omega)]
    have hin2 : (decide (1 ≤ (bl p : Int) - 1) && decide ((bl p : Int) - 1 ≤ 12)) = true := by simp; omega
    rw [hin2]
    simp only [Option.bind_some, Bool.not_true]
    rw [spec_OrderOfPoly.j0, if_neg (by simp), show (2 : Int) = ((2 : Nat) : Int) from rfl, r2]
    simp only [Option.bind_some]
    rw [e2]
    exact b2
/-- .. and else both say no. -/
theorem order_no (p : Int) (h : ¬ (0 ≤ p ∧ p ≤ 2199023255551 ∧ p % 2 = 1 ∧ 2 ≤ bl p.toNat ∧ bl p.toNat ≤ 13)) (k : Nat) (hk : 200 < k) : impl_OrderOfPoly.f k p = some (0, false) ∧ spec_OrderOfPoly.f k p = some (0, false) := by
  obtain ⟨k, rfl⟩ : ∃ m, k = m + 1 := ⟨k - 1, by omega⟩
  unfold impl_OrderOfPoly.f spec_OrderOfPoly.f impl_isPoly.f
  rw [poGood_at]
  simp only [Option.bind_some, List.all_cons, List.all_nil, Bool.and_true]
  by_cases hin : (decide (0 ≤ p) && decide (p ≤ 2199023255551)) = true
  · rw [hin]
    simp only [Bool.and_eq_true, decide_eq_true_eq] at hin
    obtain ⟨p, rfl⟩ := Int.eq_ofNat_of_zero_le hin.1
    rw [Int.toNat_natCast] at h
    have hpb := bl41 hin.2
    rw [if_pos rfl, if_pos rfl, show (0 : Int) = ((0 : Nat) : Int) from rfl, has_at p 0 (by omega), tmod_two, Nat.testBit_zero]
    simp only [Option.bind_some]
    by_cases ho : p % 2 = 1
    · rw [if_pos (by simp [ho]), if_neg (by omega), degree_at p (by omega), poDegree_at p (by omega) (k + 1) (by omega)]
      simp only [Option.bind_some]
      rw [in_at, l1In_at]
      have : (decide (1 ≤ (bl p : Int) - 1) && decide ((bl p : Int) - 1 ≤ 12)) = false := by
        rw [Bool.eq_false_iff]
        simp
        omega
      rw [this]
      simp only [Option.bind_some, Bool.not_false]
      rw [impl_OrderOfPoly.j0, spec_OrderOfPoly.j0]
      simp
    · rw [if_neg (by simp [ho]), if_pos (by omega), impl_OrderOfPoly.j0, spec_OrderOfPoly.j0]
      simp
  · rw [Bool.eq_false_iff.mpr hin, if_neg (by simp), if_neg (by simp), impl_OrderOfPoly.j0, spec_OrderOfPoly.j0]
    simp
end Go.Proofs.Ytcdobojoijmaaaa.Pf
