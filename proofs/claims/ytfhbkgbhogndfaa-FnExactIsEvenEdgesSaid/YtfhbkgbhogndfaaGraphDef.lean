/- Graphs as lists of rows: the words. -/
import Derived.Test.YtfhbkgbhogndfaaBits
import Derived.Test.YtfhbkgbhogndfaaRd
import Derived.Test.YtfhbkgbhogndfaaPx1
import Derived.Test.YtfhbkgbhogndfaaPx3
namespace Go.Proofs.Ytfhbkgbhogndfaa.Gr
open Go.RowKit Go.Proofs.Ytfhbkgbhogndfaa.P Go.Proofs.Ytfhbkgbhogndfaa.Bt Go.Proofs.Ytfhbkgbhogndfaa.Lw Go.Proofs.YtfhbkgbhogndfaaW.PrintWords Go.Proofs.YtfhbkgbhogndfaaW.PrintLast Go.Proofs.YtfhbkgbhogndfaaW.PrintMore
set_option linter.unusedVariables false
set_option linter.unusedSimpArgs false

theorem Ev.succ {α : Type} {f g : Nat → Option α} {r : α} (h : Ev g r) (K : Nat) (hs : ∀ k, K ≤ k → f (k + 1) = g k) : Ev f r := by
  obtain ⟨K1, h1⟩ := h
  refine ⟨K + K1 + 1, fun k hk => ?_⟩
  obtain ⟨k, rfl⟩ : ∃ m, k = m + 1 := ⟨k - 1, by omega⟩
  rw [hs k (by omega)]
  exact h1 k (by omega)
theorem Ev.konst {α : Type} {f : Nat → Option α} {r : α} (K : Nat) (hs : ∀ k, K ≤ k → f k = some r) : Ev f r := ⟨K, hs⟩
theorem Ev.unique {α : Type} {f : Nat → Option α} {r q : α} (h : Ev f r) (h' : Ev f q) : r = q := by
  obtain ⟨K, a⟩ := h
  obtain ⟨K', b⟩ := h'
  have h1 := a (K + K') (by omega)
  rw [b (K + K') (by omega)] at h1
  exact (Option.some.inj h1).symm

/-- The neighbours of i, as a natural number. -/
def nr (l : List Int) (i : Nat) : Nat := (l.getD i 0).toNat
/-- No loop, and whoever is a neighbour has one. -/
def OkE (l : List Int) (i j : Nat) : Prop := (nr l i).testBit j = true → i ≠ j ∧ (nr l j).testBit i = true
def Rng (l : List Int) : Prop := ∀ i, i < l.length → 0 ≤ l.getD i 0 ∧ l.getD i 0 < 2 ^ l.length
def Good (l : List Int) : Prop := 1 ≤ l.length ∧ l.length ≤ 16 ∧ Rng l ∧ ∀ i, i < l.length → ∀ j, j < l.length → OkE l i j
theorem pow16 {n : Nat} (h : n ≤ 16) : (2 : Nat) ^ n ≤ 65536 := Nat.le_trans (Nat.pow_le_pow_right (by omega) h) (by decide)
theorem nr_cast {l : List Int} (h : Rng l) {i : Nat} (hi : i < l.length) : l.getD i 0 = (nr l i : Int) := by
  have := (h i hi).1
  unfold nr; omega
theorem nr_lt {l : List Int} (h : Rng l) {i : Nat} (hi : i < l.length) : nr l i < 2 ^ l.length := by
  have := h i hi
  have e : ((2 ^ l.length : Nat) : Int) = (2 : Int) ^ l.length := by simp
  unfold nr; omega
theorem nr_small {l : List Int} (hl : l.length ≤ 16) (h : Rng l) {i : Nat} (hi : i < l.length) : nr l i < 65536 := Nat.lt_of_lt_of_le (nr_lt h hi) (pow16 hl)
theorem grIn_nat (s i : Nat) (hs : s < 9223372036854775808) : spec_grIn.f (s : Int) (i : Int) = some (s.testBit i) := by
  unfold spec_grIn.f; rw [if_pos (by omega), grIn_val hs]
theorem has_nat (s i : Nat) (hs : s < 9223372036854775808) : impl_has.f (s : Int) (i : Int) = some (s.testBit i) := by
  unfold impl_has.f; rw [if_pos (by omega), has_val hs]
theorem in_nat (a b c : Int) : impl_in.f a b c = some (decide (b ≤ a) && decide (a ≤ c)) := by
  unfold impl_in.f
  by_cases h : b ≤ a
  · rw [if_pos h]; simp [h]
  · rw [if_neg h]; simp [h]
theorem shl1 {n : Nat} (h : n ≤ 16) : wrap64 (shl .i64 1 (n : Int) - 1) = ((2 ^ n - 1 : Nat) : Int) := by
  have h2 := pow16 h
  have h3 := Nat.two_pow_pos n
  rw [show (1 : Int) = ((1 : Nat) : Int) from rfl, shl_nat (by omega) (by omega), Nat.shiftLeft_eq, Nat.one_mul, Bt.wrap_id (by omega) (by omega)]
  omega
theorem whole_nat {n : Nat} (h : n ≤ 16) : impl_whole.f (n : Int) = some ((2 ^ n - 1 : Nat) : Int) := by
  unfold impl_whole.f
  rw [if_pos (by omega), shl1 h]
theorem step1 {i : Nat} (h : i ≤ 1000) : wrap64 ((i : Int) + 1) = ((i + 1 : Nat) : Int) := by rw [Bt.wrap_id (by omega) (by omega)]; omega

end Go.Proofs.Ytfhbkgbhogndfaa.Gr
