/- The least of what functions on polynomials answer. -/
import Derived.Test.YtigkmdlbijdoaaaDoorBits
import Derived.Test.YtigkmdlbijdoaaaDoorPx1
import Derived.Test.YtigkmdlbijdoaaaDoorPx2
import Derived.Test.YtigkmdlbijdoaaaDoorPx5
import Derived.Test.YtigkmdlbijdoaaaDoorPx6
namespace Go.Proofs.YtigkmdlbijdoaaaDoor.Pf
open Go.RowKit Go.Proofs.YtigkmdlbijdoaaaDoor.P Go.Proofs.YtigkmdlbijdoaaaDoor.Bt Go.Proofs.YtigkmdlbijdoaaaDoor.Gf Go.Proofs.YtigkmdlbijdoaaaDoorW.PrintWords Go.Proofs.YtigkmdlbijdoaaaDoorW.PrintLast Go.Proofs.YtigkmdlbijdoaaaDoorW.PrintMore
set_option linter.unusedVariables false
set_option linter.unusedSimpArgs false

theorem pow62 : (2 : Nat) ^ 62 = 4611686018427387904 := rfl
theorem pow63 : (2 : Nat) ^ 63 = 9223372036854775808 := rfl
theorem bl_le62 {n : Nat} (h : n < 4611686018427387904) : bl n ≤ 62 := bl_le_iff.2 (by rw [pow62]; exact h)
theorem lt_of_bl {n : Nat} (h : bl n ≤ 62) : n < 4611686018427387904 := by have := bl_le_iff.1 h; rwa [pow62] at this
theorem bl41 {n : Nat} (h : (n : Int) ≤ 2199023255551) : bl n ≤ 41 := bl_le_iff.2 (by have : (2 : Nat) ^ 41 = 2199023255552 := rfl; omega)
theorem bl_pos' {n : Nat} (h : n ≠ 0) : 0 < bl n := Nat.pos_of_ne_zero (fun e => h (bl_eq_zero.1 e))

theorem two_nat (n : Nat) : (n : Int) * 2 = ((2 * n : Nat) : Int) := by omega
theorem soTop_l0 : ∀ (d n k : Nat) (c : Int), bl n = d → d ≤ 62 → -1 ≤ c → c + d ≤ 100 → d < k → spec_soTop.l0 k (n : Int) c = some (c + (d : Int)) := by
  intro d
  induction d with
  | zero =>
    intro n k c hn _ _ _ hk
    obtain ⟨k, rfl⟩ : ∃ m, k = m + 1 := ⟨k - 1, by omega⟩
    have : n = 0 := bl_eq_zero.1 hn
    subst this
    rw [spec_soTop.l0, if_neg (by omega)]
    simp
  | succ d ih =>
    intro n k c hn hd h1 h2 hk
    obtain ⟨k, rfl⟩ : ∃ m, k = m + 1 := ⟨k - 1, by omega⟩
    have h0 : n ≠ 0 := fun e => by rw [e, bl_zero] at hn; omega
    have hlt := lt_of_bl (n := n) (by omega)
    rw [spec_soTop.l0, if_pos (by omega), tdiv_two, wrap_nat (by omega), wrap_id (by omega) (by omega)]
    have hb := bl_half h0
    rw [ih (n / 2) k (c + 1) (by omega) (by omega) (by omega) (by omega) (by omega)]
    congr 1; omega
theorem soTop_at (n : Nat) (h : bl n ≤ 62) : ∀ k, bl n < k → spec_soTop.f k (n : Int) = some ((bl n : Int) - 1) := by
  intro k hk
  unfold spec_soTop.f
  rw [soTop_l0 (bl n) n k (-1) rfl h (by omega) (by omega) hk, Int.add_comm]
  rfl
theorem poDegree_at (n : Nat) (h : bl n ≤ 62) : ∀ k, 62 < k → spec_poDegree.f k (n : Int) = some ((bl n : Int) - 1) := by
  intro k hk
  unfold spec_poDegree.f
  rw [soTop_at n h k (by omega)]
  rfl
theorem u64_nat {n : Nat} (h : n < 18446744073709551616) : IntKind.u64.wrap (n : Int) = n := by
  rw [IntKind.wrap_u64]; omega
theorem top_at (n : Nat) (h : bl n ≤ 62) : impl_top.f (n : Int) = some ((bl n : Int) - 1) := by
  have hlt := lt_of_bl h
  unfold impl_top.f bits_Len.f bits_Len64.f
  rw [u64_nat (by omega), if_pos (by omega), Int.toNat_natCast, bitLen_bl n (by omega)]
  simp only [Option.bind_some]
  rw [wrap_id (by omega) (by omega)]
theorem degree_at (n : Nat) (h : bl n ≤ 62) : impl_degree.f (n : Int) = some ((bl n : Int) - 1) := by
  unfold impl_degree.f; rw [top_at n h]; rfl
theorem grIn_at (s i : Nat) (hs : s < 9223372036854775808) : spec_grIn.f (s : Int) (i : Int) = some (s.testBit i) := by
  unfold spec_grIn.f; rw [if_pos (by omega), grIn_val hs]
theorem has_at (s i : Nat) (hs : s < 9223372036854775808) : impl_has.f (s : Int) (i : Int) = some (s.testBit i) := by
  unfold impl_has.f; rw [if_pos (by omega), has_val hs]
theorem l1In_at (a b c : Int) : spec_l1In.f a b c = some (decide (b ≤ a) && decide (a ≤ c)) := by
  unfold spec_l1In.f
  by_cases h : b ≤ a
  · rw [if_pos h]; simp [h]
  · rw [if_neg h]; simp [h]
theorem poGood_at (a : Int) : spec_poGood.f a = some (decide (0 ≤ a) && decide (a ≤ 2199023255551)) := by
  unfold spec_poGood.f; rw [l1In_at]; rfl

/-! ### products -/
end Go.Proofs.YtigkmdlbijdoaaaDoor.Pf
