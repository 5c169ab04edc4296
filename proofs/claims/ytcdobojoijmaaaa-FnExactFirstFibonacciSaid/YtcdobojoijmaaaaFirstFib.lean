/- The first of Fibonacci's polynomials that a polynomial divides: the loops of both sides. -/
import Derived.Test.YtcdobojoijmaaaaShift
import Derived.Test.YtcdobojoijmaaaaPx20
import Derived.Test.YtcdobojoijmaaaaPx28
namespace Go.Proofs.Ytcdobojoijmaaaa.Pf
open Go.RowKit Go.Proofs.Ytcdobojoijmaaaa.P Go.Proofs.Ytcdobojoijmaaaa.Bt Go.Proofs.Ytcdobojoijmaaaa.Gf Go.Proofs.YtcdobojoijmaaaaW.PrintWords Go.Proofs.YtcdobojoijmaaaaW.PrintLast
set_option linter.unusedVariables false
set_option linter.unusedSimpArgs false

/-- From number n on, with the two last rests: the first that is 0, at most d further. -/
def ffM (p : Nat) : Nat → Nat → Nat → Nat → Int × Bool
  | 0, _, _, _ => (0, false)
  | d + 1, n, a, b => if b = 0 then ((n : Int), true) else ffM p d (n + 1) b (rest (2 * b) p ^^^ a)
theorem firstFib_l0 {p : Nat} (hp : 2 ≤ bl p) (hpb : bl p ≤ 41) : ∀ (d n a b k : Nat), n + d = 5001 → bl a < bl p → bl b < bl p → d + 200 < k →
    impl_FirstFibonacci.l0 k (p : Int) (a : Int) (b : Int) (n : Int) = some (ffM p d n a b) ∧ spec_FirstFibonacci.l0 k (p : Int) (a : Int) (b : Int) (n : Int) = some (ffM p d n a b) := by
  intro d
  have hp0 : p ≠ 0 := fun e => by rw [e, bl_zero] at hp; omega
  induction d with
  | zero =>
    intro n a b k hn ha hb hk
    obtain ⟨k, rfl⟩ : ∃ m, k = m + 1 := ⟨k - 1, by omega⟩
    rw [impl_FirstFibonacci.l0, spec_FirstFibonacci.l0, if_neg (by omega), if_neg (by omega)]
    exact ⟨rfl, rfl⟩
  | succ d ih =>
    intro n a b k hn ha hb hk
    obtain ⟨k, rfl⟩ : ∃ m, k = m + 1 := ⟨k - 1, by omega⟩
    have h2 : bl (2 * b) ≤ bl p := by
      by_cases z : b = 0
      · rw [z]; simp [bl_zero]
      · rw [bl_two_mul z]; omega
    have hbl := lt_of_bl (n := b) (by omega)
    have hal := lt_of_bl (n := a) (by omega)
    have h2l := lt_of_bl (n := 2 * b) (by omega)
    have hx : bl (2 * b ^^^ a) ≤ 61 := bl_xor_le _ _ _ (by omega) (by omega)
    have hr : rest (2 * b ^^^ a) p = rest (2 * b) p ^^^ a := by rw [rest_xor hp0, rest_of_lt ha]
    have hr2 := rest_lt hp0 (2 * b)
    have hrl := lt_of_bl (n := rest (2 * b) p) (by omega)
    have hnew : bl (rest (2 * b) p ^^^ a) < bl p := by
      have := bl_xor_le (rest (2 * b) p) a (bl p - 1) (by omega) (by omega)
      omega
    rw [impl_FirstFibonacci.l0, spec_FirstFibonacci.l0, if_pos (by omega), if_pos (by omega), two_nat, wrap_nat (by omega), bits_xor (by omega) (by omega), modulo_at _ p hp0 hx (by omega) k (by omega), poRest_at _ p hp0 (by omega) (by omega) k (by omega)]
    simp only [Option.bind_some]
    rw [show wrap64 ((n : Int) + 1) = ((n + 1 : Nat) : Int) from wrap_id (by omega) (by omega), bits_xor (by omega) (by omega), hr]
    rw [show ffM p (d + 1) n a b = if b = 0 then ((n : Int), true) else ffM p d (n + 1) b (rest (2 * b) p ^^^ a) from rfl]
    by_cases hb0 : b = 0
    · have hbi : (b : Int) = 0 := by omega
      rw [if_pos hbi, if_pos hbi, if_pos hb0]; exact ⟨rfl, rfl⟩
    · have hbi : ¬ (b : Int) = 0 := by omega
      rw [if_neg hbi, if_neg hbi, if_neg hb0]
      exact ih (n + 1) b _ k (by omega) hb hnew (by omega)
theorem firstFib_at {p : Nat} (hp : 2 ≤ bl p) (hpb : bl p ≤ 11) (k : Nat) (hk : 6000 < k) : impl_FirstFibonacci.f k (p : Int) = some (ffM p 5000 1 0 1) ∧ spec_FirstFibonacci.f k (p : Int) = some (ffM p 5000 1 0 1) := by
  obtain ⟨k, rfl⟩ : ∃ m, k = m + 1 := ⟨k - 1, by omega⟩
  have hp0 : p ≠ 0 := fun e => by rw [e, bl_zero] at hp; omega
  have hpl : p < 2048 := by have := bl_le_iff.1 hpb; have e : (2 : Nat) ^ 11 = 2048 := rfl; omega
  obtain ⟨b1, b2⟩ := firstFib_l0 hp (by omega) 5000 1 0 1 k (by omega) (by rw [bl_zero]; omega) (by show 1 < _; omega) (by omega)
  have h1 : rest 1 p = 1 := rest_of_lt (by show 1 < _; omega)
  have m1 := modulo_at 1 p hp0 (by show 1 ≤ _; omega) (by omega) k (by omega)
  rw [h1] at m1
  have hin : (decide (0 ≤ (p : Int)) && decide ((p : Int) ≤ 2199023255551)) = true := by simp; omega
  have hin2 : (decide (1 ≤ (bl p : Int) - 1) && decide ((bl p : Int) - 1 ≤ 10)) = true := by simp; omega
  constructor
  · unfold impl_FirstFibonacci.f impl_isPoly.f
    simp only [Option.bind_some, List.all_cons, List.all_nil, Bool.and_true]
    rw [hin, if_pos rfl, degree_at p (by omega)]
    simp only [Option.bind_some]
    rw [in_at, hin2]
    simp only [Option.bind_some, Bool.not_true]
    rw [impl_FirstFibonacci.j0, if_neg (by simp), show (1 : Int) = ((1 : Nat) : Int) from rfl, m1]
    exact b1
  · unfold spec_FirstFibonacci.f
    rw [poGood_at, hin, poDegree_at p (by omega) (k + 1) (by omega)]
    simp only [Option.bind_some, if_true]
    rw [l1In_at, hin2]
    simp only [Option.bind_some, Bool.not_true]
    rw [spec_FirstFibonacci.j0, if_neg (by simp)]
    exact b2
theorem firstFib_no (p : Int) (h : ¬ (0 ≤ p ∧ p ≤ 2199023255551 ∧ 2 ≤ bl p.toNat ∧ bl p.toNat ≤ 11)) (k : Nat) (hk : 200 < k) : impl_FirstFibonacci.f k p = some (0, false) ∧ spec_FirstFibonacci.f k p = some (0, false) := by
  obtain ⟨k, rfl⟩ : ∃ m, k = m + 1 := ⟨k - 1, by omega⟩
  unfold impl_FirstFibonacci.f spec_FirstFibonacci.f impl_isPoly.f
  rw [poGood_at]
  simp only [Option.bind_some, List.all_cons, List.all_nil, Bool.and_true]
  by_cases hin : (decide (0 ≤ p) && decide (p ≤ 2199023255551)) = true
  · rw [hin]
    simp only [Bool.and_eq_true, decide_eq_true_eq] at hin
    obtain ⟨p, rfl⟩ := Int.eq_ofNat_of_zero_le hin.1
    rw [Int.toNat_natCast] at h
    have hpb := bl41 hin.2
    rw [if_pos rfl, if_pos rfl, degree_at p (by omega), poDegree_at p (by omega) (k + 1) (by omega)]
    simp only [Option.bind_some]
    rw [in_at, l1In_at]
    have : (decide (1 ≤ (bl p : Int) - 1) && decide ((bl p : Int) - 1 ≤ 10)) = false := by
      rw [Bool.eq_false_iff]
      simp
      omega
    rw [this]
    simp only [Option.bind_some, Bool.not_false]
    rw [impl_FirstFibonacci.j0, spec_FirstFibonacci.j0]
    simp
  · rw [Bool.eq_false_iff.mpr hin, if_neg (by simp), if_neg (by simp), impl_FirstFibonacci.j0, spec_FirstFibonacci.j0]
    simp
end Go.Proofs.Ytcdobojoijmaaaa.Pf
