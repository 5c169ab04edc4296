/- How many bits are set: the trick of the machine's library, at every number of 16 bits. -/
import Derived.Test.YtdpdmhjmmpncoaaBits
namespace Go.Proofs.Ytdpdmhjmmpncoaa.Gr
set_option linter.unusedVariables false
set_option linter.unusedSimpArgs false
/-- How many bits are set, of the lowest 16. -/
def pc (n : Nat) : Nat := Go.Lib.popAux 16 n
def trick (n : Nat) : Nat :=
  let a := (n / 2 &&& 6148914691236517205) + (n &&& 6148914691236517205)
  let b := (a / 4 &&& 3689348814741910323) + (a &&& 3689348814741910323)
  let c := (b / 16 + b) &&& 1085102592571150095
  let d := c + c / 256
  let e := d + d / 65536
  let f := e + e / 4294967296
  f &&& 127
def chk : Nat → Nat → Bool
  | 0, a => Nat.beq (trick a) (pc a)
  | l + 1, a => chk l (2 * a) && chk l (2 * a + 1)
theorem chk_at : ∀ (l a : Nat), chk l a = true → ∀ n, a * 2 ^ l ≤ n → n < (a + 1) * 2 ^ l → trick n = pc n := by
  intro l
  induction l with
  | zero =>
    intro a h n h1 h2
    have : n = a := by simp at h1 h2; omega
    subst this
    exact Nat.eq_of_beq_eq_true h
  | succ l ih =>
    intro a h n h1 h2
    simp only [chk, Bool.and_eq_true] at h
    have e1 : a * 2 ^ (l + 1) = 2 * a * 2 ^ l := by rw [Nat.pow_succ, Nat.mul_comm (2 ^ l) 2, ← Nat.mul_assoc, Nat.mul_comm a 2]
    have e2 : (a + 1) * 2 ^ (l + 1) = 2 * a * 2 ^ l + 2 * 2 ^ l := by rw [Nat.add_mul, e1, Nat.one_mul, Nat.pow_succ, Nat.mul_comm (2 ^ l) 2]
    have e3 : (2 * a + 1) * 2 ^ l = 2 * a * 2 ^ l + 2 ^ l := by rw [Nat.add_mul, Nat.one_mul]
    have e4 : (2 * a + 1 + 1) * 2 ^ l = 2 * a * 2 ^ l + 2 * 2 ^ l := by rw [Nat.add_assoc, Nat.add_mul]
    rcases Nat.lt_or_ge n ((2 * a + 1) * 2 ^ l) with c | c
    · exact ih (2 * a) h.1 n (by omega) c
    · exact ih (2 * a + 1) h.2 n c (by omega)
theorem chk0 : chk 11 0 = true := by decide +kernel
theorem chk1 : chk 11 1 = true := by decide +kernel
theorem chk2 : chk 11 2 = true := by decide +kernel
theorem chk3 : chk 11 3 = true := by decide +kernel
theorem chk4 : chk 11 4 = true := by decide +kernel
theorem chk5 : chk 11 5 = true := by decide +kernel
theorem chk6 : chk 11 6 = true := by decide +kernel
theorem chk7 : chk 11 7 = true := by decide +kernel
theorem chk8 : chk 11 8 = true := by decide +kernel
theorem chk9 : chk 11 9 = true := by decide +kernel
theorem chk10 : chk 11 10 = true := by decide +kernel
theorem chk11 : chk 11 11 = true := by decide +kernel
theorem chk12 : chk 11 12 = true := by decide +kernel
theorem chk13 : chk 11 13 = true := by decide +kernel
theorem chk14 : chk 11 14 = true := by decide +kernel
theorem chk15 : chk 11 15 = true := by decide +kernel
theorem chk16 : chk 11 16 = true := by decide +kernel
theorem chk17 : chk 11 17 = true := by decide +kernel
theorem chk18 : chk 11 18 = true := by decide +kernel
theorem chk19 : chk 11 19 = true := by decide +kernel
theorem chk20 : chk 11 20 = true := by decide +kernel
theorem chk21 : chk 11 21 = true := by decide +kernel
theorem chk22 : chk 11 22 = true := by decide +kernel
theorem chk23 : chk 11 23 = true := by decide +kernel
theorem chk24 : chk 11 24 = true := by decide +kernel
theorem chk25 : chk 11 25 = true := by decide +kernel
theorem chk26 : chk 11 26 = true := by decide +kernel
theorem chk27 : chk 11 27 = true := by decide +kernel
theorem chk28 : chk 11 28 = true := by decide +kernel
theorem chk29 : chk 11 29 = true := by decide +kernel
theorem chk30 : chk 11 30 = true := by decide +kernel
theorem chk31 : chk 11 31 = true := by decide +kernel
theorem trick_at {n : Nat} (h : n < 65536) : trick n = pc n := by
  obtain ⟨q, hq⟩ : ∃ q, q = n / 2048 := ⟨_, rfl⟩
  have h1 : q < 32 := by omega
  have h2 : q * 2 ^ 11 ≤ n := by omega
  have h3 : n < (q + 1) * 2 ^ 11 := by omega
  have h4 : chk 11 q = true := by
    have : q = 0 ∨ q = 1 ∨ q = 2 ∨ q = 3 ∨ q = 4 ∨ q = 5 ∨ q = 6 ∨ q = 7 ∨ q = 8 ∨ q = 9 ∨ q = 10 ∨ q = 11 ∨ q = 12 ∨ q = 13 ∨ q = 14 ∨ q = 15 ∨ q = 16 ∨ q = 17 ∨ q = 18 ∨ q = 19 ∨ q = 20 ∨ q = 21 ∨ q = 22 ∨ q = 23 ∨ q = 24 ∨ q = 25 ∨ q = 26 ∨ q = 27 ∨ q = 28 ∨ q = 29 ∨ q = 30 ∨ q = 31 := by omega
    rcases this with rfl | rfl | rfl | rfl | rfl | rfl | rfl | rfl | rfl | rfl | rfl | rfl | rfl | rfl | rfl | rfl | rfl | rfl | rfl | rfl | rfl | rfl | rfl | rfl | rfl | rfl | rfl | rfl | rfl | rfl | rfl | rfl
    · exact chk0
    · exact chk1
    · exact chk2
    · exact chk3
    · exact chk4
    · exact chk5
    · exact chk6
    · exact chk7
    · exact chk8
    · exact chk9
    · exact chk10
    · exact chk11
    · exact chk12
    · exact chk13
    · exact chk14
    · exact chk15
    · exact chk16
    · exact chk17
    · exact chk18
    · exact chk19
    · exact chk20
    · exact chk21
    · exact chk22
    · exact chk23
    · exact chk24
    · exact chk25
    · exact chk26
    · exact chk27
    · exact chk28
    · exact chk29
    · exact chk30
    · exact chk31
  exact chk_at 11 q h4 n h2 h3
theorem pc_le (n : Nat) : pc n ≤ 16 := by
  have : ∀ f m, Go.Lib.popAux f m ≤ f := fun f => by
    induction f with
    | zero => intro m; exact Nat.le_refl _
    | succ f ih => intro m; rw [Go.Lib.popAux]; have := ih (m / 2); omega
  exact this 16 n
end Go.Proofs.Ytdpdmhjmmpncoaa.Gr
