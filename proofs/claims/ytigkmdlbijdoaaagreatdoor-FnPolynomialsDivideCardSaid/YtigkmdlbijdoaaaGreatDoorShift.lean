/- x + 1 for x. -/
import Derived.Test.YtigkmdlbijdoaaaGreatDoorPolyF
import Derived.Test.YtigkmdlbijdoaaaGreatDoorPx2
import Derived.Test.YtigkmdlbijdoaaaGreatDoorPx7
namespace Go.Proofs.YtigkmdlbijdoaaaGreatDoor.Pf
open Go.RowKit Go.Proofs.YtigkmdlbijdoaaaGreatDoor.P Go.Proofs.YtigkmdlbijdoaaaGreatDoor.Bt Go.Proofs.YtigkmdlbijdoaaaGreatDoor.Gf Go.Proofs.YtigkmdlbijdoaaaGreatDoorW.PrintWords Go.Proofs.YtigkmdlbijdoaaaGreatDoorW.PrintLast
set_option linter.unusedVariables false
set_option linter.unusedSimpArgs false
/-- Horner's rule at x + 1: the bits below c are to come. -/
def shM (p : Nat) : Nat → Nat → Nat
  | 0, out => out
  | c + 1, out => shM p c ((out ^^^ 2 * out) ^^^ (if p.testBit c = true then 1 else 0))
theorem mul_three (a : Nat) : mul a 3 = a ^^^ 2 * a := by
  rw [mul_step]
  simp only [show 3 % 2 = 1 from rfl, show 3 / 2 = 1 from rfl, if_true, mul_one]
theorem bl_step (out : Nat) (b : Bool) : bl ((out ^^^ 2 * out) ^^^ (if b = true then 1 else 0)) ≤ bl out + 1 := by
  refine bl_xor_le _ _ _ (bl_xor_le _ _ _ (by omega) ?_) ?_
  · by_cases e : out = 0
    · subst e; simp [bl_zero]
    · rw [bl_two_mul e]; omega
  · split
    · show 1 ≤ _; omega
    · rw [bl_zero]; omega
theorem bl_mul3 (out : Nat) : bl (out ^^^ 2 * out) ≤ bl out + 1 := by
  have := bl_step out false
  simpa using this
theorem shift_l0 (p : Nat) (hp : bl p ≤ 61) : ∀ (c out k : Nat), bl out + c ≤ 60 → c < k → impl_shift.l0 k (p : Int) (out : Int) ((c : Int) - 1) = some ((shM p c out : Nat) : Int) := by
  intro c
  induction c with
  | zero =>
    intro out k ho hk
    obtain ⟨k, rfl⟩ : ∃ m, k = m + 1 := ⟨k - 1, by omega⟩
    rw [impl_shift.l0, if_neg (by omega)]; rfl
  | succ c ih =>
    intro out k ho hk
    obtain ⟨k, rfl⟩ : ∃ m, k = m + 1 := ⟨k - 1, by omega⟩
    have hpl := lt_of_bl (n := p) (by omega)
    have hol := lt_of_bl (n := out) (by omega)
    have h3 := bl_mul3 out
    have h3l := lt_of_bl (n := out ^^^ 2 * out) (by omega)
    have hs := bl_step out (p.testBit c)
    have e2 : wrap64 (((c + 1 : Nat) : Int) - 1 - 1) = (c : Int) - 1 := by rw [wrap_id (by omega) (by omega)]; omega
    have e3 : ((c + 1 : Nat) : Int) - 1 = (c : Int) := by omega
    rw [impl_shift.l0, if_pos (by omega), e2, e3, has_at p c (by omega), two_nat, wrap_nat (by omega), bits_xor (by omega) (by omega)]
    simp only [Option.bind_some]
    have key := ih ((out ^^^ 2 * out) ^^^ (if p.testBit c = true then 1 else 0)) k (by omega) (by omega)
    rw [show shM p (c + 1) out = shM p c ((out ^^^ 2 * out) ^^^ (if p.testBit c = true then 1 else 0)) from rfl]
    by_cases hb : p.testBit c = true
    · rw [if_pos hb] at key ⊢
      rw [show (1 : Int) = ((1 : Nat) : Int) from rfl, bits_xor (by omega) (by omega), if_pos hb]
      exact key
    · rw [if_neg hb] at key ⊢
      rw [if_neg hb]
      rw [Nat.xor_zero] at key ⊢
      exact key
theorem shift_at (p : Nat) (hp : bl p ≤ 41) (k : Nat) (hk : 62 < k) : impl_shift.f k (p : Int) = some ((shM p (bl p) 0 : Nat) : Int) := by
  unfold impl_shift.f
  rw [degree_at p (by omega)]
  exact shift_l0 p (by omega) (bl p) 0 k (by rw [bl_zero]; omega) (by omega)
theorem poShift_l0 (p : Nat) (hp : bl p ≤ 61) : ∀ (c out k : Nat), bl out + c ≤ 60 → c + 63 < k → spec_poShift.l0 k (p : Int) (out : Int) ((c : Int) - 1) = some ((shM p c out : Nat) : Int) := by
  intro c
  induction c with
  | zero =>
    intro out k ho hk
    obtain ⟨k, rfl⟩ : ∃ m, k = m + 1 := ⟨k - 1, by omega⟩
    rw [spec_poShift.l0, if_neg (by omega)]; rfl
  | succ c ih =>
    intro out k ho hk
    obtain ⟨k, rfl⟩ : ∃ m, k = m + 1 := ⟨k - 1, by omega⟩
    have hpl := lt_of_bl (n := p) (by omega)
    have hol := lt_of_bl (n := out) (by omega)
    have h3 := bl_mul3 out
    have h3l := lt_of_bl (n := out ^^^ 2 * out) (by omega)
    have hs := bl_step out (p.testBit c)
    have e2 : wrap64 (((c + 1 : Nat) : Int) - 1 - 1) = (c : Int) - 1 := by rw [wrap_id (by omega) (by omega)]; omega
    have e3 : ((c + 1 : Nat) : Int) - 1 = (c : Int) := by omega
    have e4 := poTimes_at out 3 (by rw [show bl 3 = 2 from rfl]; omega) k (by omega)
    rw [mul_three] at e4
    rw [spec_poShift.l0, if_pos (by omega), e2, e3, show (3 : Int) = ((3 : Nat) : Int) from rfl, e4, grIn_at p c (by omega)]
    simp only [Option.bind_some]
    have key := ih ((out ^^^ 2 * out) ^^^ (if p.testBit c = true then 1 else 0)) k (by omega) (by omega)
    rw [show shM p (c + 1) out = shM p c ((out ^^^ 2 * out) ^^^ (if p.testBit c = true then 1 else 0)) from rfl]
    by_cases hb : p.testBit c = true
    · rw [if_pos hb] at key ⊢
      rw [show (1 : Int) = ((1 : Nat) : Int) from rfl, bits_xor (by omega) (by omega), if_pos hb]
      exact key
    · rw [if_neg hb] at key ⊢
      rw [if_neg hb]
      rw [Nat.xor_zero] at key ⊢
      exact key
theorem poShift_at (p : Nat) (hp : bl p ≤ 41) (k : Nat) (hk : 130 < k) : spec_poShift.f k (p : Int) = some ((shM p (bl p) 0 : Nat) : Int) := by
  unfold spec_poShift.f
  rw [poDegree_at p (by omega) k (by omega)]
  exact poShift_l0 p (by omega) (bl p) 0 k (by rw [bl_zero]; omega) (by omega)
end Go.Proofs.YtigkmdlbijdoaaaGreatDoor.Pf
