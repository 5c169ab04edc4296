/- The greatest common divisor, as the program has it. -/
import Derived.Test.YtigkmdlbijdoaaaGreatDoorPolyF
import Derived.Test.YtigkmdlbijdoaaaGreatDoorPx7
namespace Go.Proofs.YtigkmdlbijdoaaaGreatDoor.Pf
open Go.RowKit Go.Proofs.YtigkmdlbijdoaaaGreatDoor.P Go.Proofs.YtigkmdlbijdoaaaGreatDoor.Bt Go.Proofs.YtigkmdlbijdoaaaGreatDoor.Gf Go.Proofs.YtigkmdlbijdoaaaGreatDoorW.PrintWords Go.Proofs.YtigkmdlbijdoaaaGreatDoorW.PrintLast Go.Proofs.YtigkmdlbijdoaaaGreatDoorW.PrintMore
set_option linter.unusedVariables false
set_option linter.unusedSimpArgs false

theorem gcd_l0 : ∀ (d p q k : Nat), bl q = d → bl p ≤ 61 → d ≤ 61 → d + 63 < k → impl_gcd.l0 k (p : Int) (q : Int) = some ((Gf.gcd p q : Nat) : Int) := by
  intro d
  induction d using Nat.strongRecOn with
  | _ d ih =>
    intro p q k hq hp hd hk
    obtain ⟨k, rfl⟩ : ∃ m, k = m + 1 := ⟨k - 1, by omega⟩
    rw [impl_gcd.l0]
    by_cases h : q = 0
    · subst h; rw [if_pos (by omega), gcd_zero]
    · have hlt := rest_lt h p
      rw [if_neg (by omega), modulo_at p q h hp (by omega) k (by omega)]
      simp only [Option.bind_some]
      rw [gcd_step h]
      exact ih (bl (rest p q)) (by omega) q (rest p q) k rfl (by omega) (by omega) (by omega)
theorem gcd_at (p q : Nat) (hp : bl p ≤ 61) (hq : bl q ≤ 61) (k : Nat) (hk : 130 < k) : impl_gcd.f k (p : Int) (q : Int) = some ((Gf.gcd p q : Nat) : Int) := by
  unfold impl_gcd.f; exact gcd_l0 (bl q) p q k rfl hp hq (by omega)
end Go.Proofs.YtigkmdlbijdoaaaGreatDoor.Pf
