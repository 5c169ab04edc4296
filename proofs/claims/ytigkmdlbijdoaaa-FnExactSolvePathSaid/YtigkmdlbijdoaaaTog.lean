/- What a button changes, and what presses change together. -/
import Derived.Test.YtigkmdlbijdoaaaGraphImpl
import Derived.Test.YtigkmdlbijdoaaaClose
import Derived.Test.YtigkmdlbijdoaaaPx2
import Derived.Test.YtigkmdlbijdoaaaPx3
namespace Go.Proofs.Ytigkmdlbijdoaaa.Tg
open Go.RowKit Go.Proofs.Ytigkmdlbijdoaaa.P Go.Proofs.Ytigkmdlbijdoaaa.Bt Go.Proofs.Ytigkmdlbijdoaaa.Lw Go.Proofs.Ytigkmdlbijdoaaa.Gr Go.Proofs.YtigkmdlbijdoaaaW.PrintWords Go.Proofs.YtigkmdlbijdoaaaW.PrintLast Go.Proofs.YtigkmdlbijdoaaaW.PrintMore
set_option linter.unusedVariables false
set_option linter.unusedSimpArgs false

/-- What button i changes, as a natural number. -/
def tg (l : List Int) (own : Bool) (i : Nat) : Nat := if own = true then nr l i ||| 1 <<< i else nr l i
theorem shl_bit {i : Nat} (h : i ≤ 16) : shl .i64 1 (i : Int) = ((1 <<< i : Nat) : Int) := by
  have h1 : 2 ^ i ≤ 2 ^ 16 := Nat.pow_le_pow_right (by omega) h
  have := shl_nat (a := 1) (n := i) (by omega) (by omega)
  simpa using this
theorem tg_lt {l : List Int} (G : Gr.Good l) (own : Bool) {i : Nat} (hi : i < l.length) : tg l own i < 2 ^ l.length := by
  have h1 := nr_lt G.2.2.1 hi
  unfold tg
  split
  · exact Nat.or_lt_two_pow h1 (by rw [Nat.one_shiftLeft]; exact Nat.pow_lt_pow_right (by omega) hi)
  · exact h1
theorem tg_small {l : List Int} (G : Gr.Good l) (own : Bool) {i : Nat} (hi : i < l.length) : tg l own i < 65536 := Nat.lt_of_lt_of_le (tg_lt G own hi) (pow16 G.2.1)
theorem toggles_at {l : List Int} (G : Gr.Good l) (own : Bool) {i : Nat} (hi : i < l.length) : spec_grToggles.f l own (i : Int) = some ((tg l own i : Nat) : Int) ∧ impl_Graph_toggles.f l own (i : Int) = some ((tg l own i : Nat) : Int) := by
  have hl := G.2.1
  have hri : rd l (i : Int) = (nr l i : Int) := by rw [rd_nat]; exact nr_cast G.2.2.1 hi
  have hsi := nr_small hl G.2.2.1 hi
  have hp := pow16 hl
  have hb : 1 <<< i < 2 ^ l.length := by rw [Nat.one_shiftLeft]; exact Nat.pow_lt_pow_right (by omega) hi
  unfold spec_grToggles.f impl_Graph_toggles.f tg
  cases own with
  | false => exact ⟨by rw [if_neg (by simp), if_pos (by omega), if_pos (by omega), hri]; rfl, by rw [if_neg (by simp), if_pos (by omega), if_pos (by omega), hri]; rfl⟩
  | true => exact ⟨by rw [if_pos rfl, if_pos (by omega), if_pos (by omega), hri, shl_bit (by omega), bits_or (by omega) (by omega)]; rfl, by rw [if_pos rfl, if_pos (by omega), if_pos (by omega), hri, shl_bit (by omega), bits_or (by omega) (by omega)]; rfl⟩
def effA (T : Nat → Nat) (S : Nat) : Nat → Nat
  | 0 => 0
  | n + 1 => effA T S n ^^^ (if S.testBit n = true then T n else 0)
theorem effA_lt {T : Nat → Nat} {S m : Nat} : ∀ n, (∀ j, j < n → T j < 2 ^ m) → effA T S n < 2 ^ m := by
  intro n
  induction n with
  | zero => intro _; exact Nat.two_pow_pos m
  | succ n ih =>
    intro h
    rw [effA]
    refine Nat.xor_lt_two_pow (ih fun j hj => h j (by omega)) ?_
    split
    · exact h n (by omega)
    · exact Nat.two_pow_pos m
theorem effA_zero (T : Nat → Nat) : ∀ n, effA T 0 n = 0 := by
  intro n
  induction n with
  | zero => rfl
  | succ n ih => rw [effA, ih]; simp
theorem effA_add (T : Nat → Nat) (S v : Nat) (hs : S.testBit v = false) : ∀ n, effA T (S ||| 1 <<< v) n = effA T S n ^^^ (if v < n then T v else 0) := by
  intro n
  induction n with
  | zero => simp [effA]
  | succ n ih =>
    have e : (S ||| 1 <<< v).testBit n = (S.testBit n || decide (v = n)) := by rw [Nat.testBit_or, Nat.one_shiftLeft, Nat.testBit_two_pow]
    rw [effA, effA, ih, e]
    by_cases c : v = n
    · subst c
      rw [hs, if_neg (by omega), if_pos (by simp), if_neg (by simp), if_pos (show v < v + 1 by omega), Nat.xor_zero]
    · have h1 : decide (v = n) = false := by simp [c]
      rw [h1, Bool.or_false]
      by_cases c2 : v < n
      · rw [if_pos c2, if_pos (show v < n + 1 by omega), Nat.xor_assoc, Nat.xor_assoc, Nat.xor_comm (T v)]
      · rw [if_neg c2, if_neg (show ¬ v < n + 1 by omega), Nat.xor_zero, Nat.xor_zero]
theorem effect_l0 {l : List Int} (G : Gr.Good l) (own : Bool) (S : Nat) (hS : S < 65536) : ∀ (d i k : Nat), i + d = l.length → d < k →
    spec_grEffect.l0 k (S : Int) ((effA (tg l own) S i : Nat) : Int) (l.length : Int) (i : Int) l own = some ((effA (tg l own) S l.length : Nat) : Int) := by
  have hl := G.2.1
  have hp := pow16 hl
  intro d
  induction d with
  | zero =>
    intro i k hi hk
    obtain ⟨k, rfl⟩ : ∃ m, k = m + 1 := ⟨k - 1, by omega⟩
    have : i = l.length := by omega
    subst this
    rw [spec_grEffect.l0, if_neg (by omega)]
  | succ d ih =>
    intro i k hi hk
    obtain ⟨k, rfl⟩ : ∃ m, k = m + 1 := ⟨k - 1, by omega⟩
    have h := ih (i + 1) k (by omega) (by omega)
    have ha : effA (tg l own) S i < 2 ^ l.length := effA_lt i fun j hj => tg_lt G own (by omega)
    have ht := tg_lt G own (i := i) (by omega)
    rw [spec_grEffect.l0, if_pos (by omega), grIn_nat S i (by omega), Option.bind_some]
    rw [effA] at h
    by_cases c : S.testBit i = true
    · rw [if_pos c] at h
      rw [if_pos c, (toggles_at G own (by omega)).1, Option.bind_some, bits_xor (by omega) (by omega), step1 (by omega)]
      exact h
    · rw [if_neg c, Nat.xor_zero] at h
      rw [if_neg c, step1 (by omega)]
      exact h
theorem effect_at {l : List Int} (G : Gr.Good l) (own : Bool) (S : Nat) (hS : S < 65536) (k : Nat) (hk : 16 < k) : spec_grEffect.f k l own (S : Int) = some ((effA (tg l own) S l.length : Nat) : Int) := by
  have hl := G.2.1
  exact effect_l0 G own S hS l.length 0 k (by omega) (by omega)
end Go.Proofs.Ytigkmdlbijdoaaa.Tg
