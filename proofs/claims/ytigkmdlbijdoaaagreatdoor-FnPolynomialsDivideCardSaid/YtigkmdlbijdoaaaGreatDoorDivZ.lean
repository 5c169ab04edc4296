/- The law FnPolynomialsDivide: what its calls answer. -/
import Derived.Test.YtigkmdlbijdoaaaGreatDoorDraw
import Derived.Test.YtigkmdlbijdoaaaGreatDoorPolyG
import Derived.Test.YtigkmdlbijdoaaaGreatDoorGcdI
import Derived.Test.YtigkmdlbijdoaaaGreatDoorAlg
import Derived.Test.YtigkmdlbijdoaaaGreatDoorParseZ
import Derived.Test.YtigkmdlbijdoaaaGreatDoorPx1
import Derived.Test.YtigkmdlbijdoaaaGreatDoorPx2
import Derived.Test.YtigkmdlbijdoaaaGreatDoorPx6
import Derived.Test.YtigkmdlbijdoaaaGreatDoorPx8
namespace Go.Proofs.YtigkmdlbijdoaaaGreatDoor.Dv
open Go.RowKit Go.Proofs.YtigkmdlbijdoaaaGreatDoor.P Go.Proofs.YtigkmdlbijdoaaaGreatDoor.Bt Go.Proofs.YtigkmdlbijdoaaaGreatDoor.Pf Go.Proofs.YtigkmdlbijdoaaaGreatDoor.Gf Go.Proofs.YtigkmdlbijdoaaaGreatDoor.Dr Go.Proofs.YtigkmdlbijdoaaaGreatDoor.Tx Go.Proofs.YtigkmdlbijdoaaaGreatDoor.Ps Go.Proofs.YtigkmdlbijdoaaaGreatDoorW.PrintWords Go.Proofs.YtigkmdlbijdoaaaGreatDoorW.PrintLast
set_option linter.unusedVariables false
set_option linter.unusedSimpArgs false

/-! ### the functions -/
theorem le41 {p : Nat} (h : bl p ≤ 41) : (p : Int) ≤ 2199023255551 := by
  have h1 := bl_le_iff.1 h
  have : (2 : Nat) ^ 41 = 2199023255552 := rfl
  omega
def okP (a : Int) : Bool := decide (0 ≤ a) && decide (a ≤ 2199023255551)
theorem okP_nat {a : Int} (h : okP a = true) : ∃ n : Nat, a = n ∧ bl n ≤ 41 := by
  simp only [okP, Bool.and_eq_true, decide_eq_true_eq] at h
  exact ⟨a.toNat, by omega, bl41 (by omega)⟩
theorem isPoly_one (a : Int) : impl_isPoly.f [a] = some (okP a) := by unfold impl_isPoly.f okP; simp
theorem isPoly_two (a b : Int) : impl_isPoly.f [a, b] = some (okP a && okP b) := by unfold impl_isPoly.f okP; simp
theorem good_at (a : Int) : spec_poGood.f a = some (okP a) := poGood_at a
theorem okP_of {n : Nat} (h : bl n ≤ 41) : okP (n : Int) = true := by have := le41 h; unfold okP; simp; omega
theorem times_zero {p q : Nat} (hp : bl p ≤ 41) (hq : bl q ≤ 41) (h : p = 0 ∨ q = 0 ∨ bl p + bl q ≤ 42) (k : Nat) (hk : 200 < k) : impl_TimesPoly.f k (p : Int) (q : Int) = some (((mul p q : Nat) : Int), true) := by
  unfold impl_TimesPoly.f
  rw [isPoly_two, okP_of hp, okP_of hq]
  simp only [Option.bind_some, Bool.and_self, if_true]
  have hs : bl p + bl q ≤ 62 := by
    rcases h with rfl | rfl | h
    · rw [bl_zero]; omega
    · rw [bl_zero]; omega
    · omega
  have hm := times_at p q hs k (by omega)
  by_cases p0 : (p : Int) = 0
  · rw [if_pos p0, hm]; rfl
  · rw [if_neg p0]
    by_cases q0 : (q : Int) = 0
    · rw [if_pos q0, hm]; rfl
    · rw [if_neg q0, degree_at p (by omega), Option.bind_some, degree_at q (by omega), Option.bind_some, wrap_id (by omega) (by omega), if_neg (by omega), hm]; rfl
theorem times_both (a b : Int) : ∃ R : Int × Bool, (∀ k, 400 < k → impl_TimesPoly.f k a b = some R ∧ spec_TimesPoly.f k a b = some R) ∧ (R.2 = true → ∃ p q : Nat, a = p ∧ b = q ∧ bl p ≤ 41 ∧ bl q ≤ 41 ∧ (p = 0 ∨ q = 0 ∨ bl p + bl q ≤ 42) ∧ R.1 = ((mul p q : Nat) : Int)) := by
  by_cases ha : okP a = true
  · by_cases hb : okP b = true
    · obtain ⟨p, rfl, hp⟩ := okP_nat ha
      obtain ⟨q, rfl, hq⟩ := okP_nat hb
      have sp : ∀ k, 400 < k → spec_TimesPoly.f k (p : Int) (q : Int) = if (bl p : Int) - 1 + ((bl q : Int) - 1) > 40 then some (0, false) else some (((mul p q : Nat) : Int), true) := fun k hk => by
        unfold spec_TimesPoly.f
        rw [good_at, good_at, ha, hb]
        simp only [Option.bind_some, if_true]
        rw [poDegree_at p (by omega) k (by omega), poDegree_at q (by omega) k (by omega)]
        simp only [Option.bind_some]
        rw [wrap_id (by omega) (by omega)]
        split
        · rfl
        · rw [poTimes_at p q (by omega) k (by omega)]; rfl
      by_cases c : p = 0 ∨ q = 0 ∨ bl p + bl q ≤ 42
      · have hn : ¬ ((bl p : Int) - 1 + ((bl q : Int) - 1) > 40) := by
          rcases c with rfl | rfl | c
          · rw [bl_zero]; omega
          · rw [bl_zero]; omega
          · omega
        exact ⟨_, fun k hk => ⟨times_zero hp hq c k (by omega), by rw [sp k hk, if_neg hn]⟩, fun _ => ⟨p, q, rfl, rfl, hp, hq, c, rfl⟩⟩
      · simp only [not_or] at c
        obtain ⟨c1, c2, c3⟩ := c
        refine ⟨(0, false), fun k hk => ⟨?_, by rw [sp k hk, if_pos (by omega)]⟩, fun h => by cases h⟩
        unfold impl_TimesPoly.f
        rw [isPoly_two, ha, hb]
        simp only [Option.bind_some, Bool.and_self, if_true]
        rw [if_neg (by omega), if_neg (by omega), degree_at p (by omega), Option.bind_some, degree_at q (by omega), Option.bind_some, wrap_id (by omega) (by omega), if_pos (by omega)]
    · have hb : okP b = false := by simpa using hb
      refine ⟨(0, false), fun k hk => ⟨?_, ?_⟩, fun h => by cases h⟩
      · unfold impl_TimesPoly.f; rw [isPoly_two, ha, hb]; rfl
      · unfold spec_TimesPoly.f; rw [good_at, good_at, ha, hb]; rfl
  · have ha : okP a = false := by simpa using ha
    refine ⟨(0, false), fun k hk => ⟨?_, ?_⟩, fun h => by cases h⟩
    · unfold impl_TimesPoly.f; rw [isPoly_two, ha]; rfl
    · unfold spec_TimesPoly.f; rw [good_at, ha]; rfl
theorem divide_in {p q : Nat} (hp : bl p ≤ 41) (hq : bl q ≤ 41) (q0 : q ≠ 0) (k : Nat) (hk : 200 < k) : impl_DividePoly.f k (p : Int) (q : Int) = some (((divMod p q).1 : Int), ((rest p q : Nat) : Int), true) := by
  unfold impl_DividePoly.f
  rw [isPoly_two, okP_of hp, okP_of hq]
  simp only [Option.bind_some, Bool.and_self, if_true]
  rw [if_neg (by omega), divide_at p q q0 (by omega) (by omega) k (by omega), Option.bind_some]
  rfl
theorem divide_both (a b : Int) : ∃ R : Int × Int × Bool, (∀ k, 400 < k → impl_DividePoly.f k a b = some R ∧ spec_DividePoly.f k a b = some R) ∧ (R.2.2 = true → ∃ p q : Nat, a = p ∧ b = q ∧ bl p ≤ 41 ∧ bl q ≤ 41 ∧ q ≠ 0 ∧ R.1 = ((divMod p q).1 : Int) ∧ R.2.1 = ((rest p q : Nat) : Int)) := by
  by_cases ha : okP a = true
  · by_cases hb : okP b = true
    · obtain ⟨p, rfl, hp⟩ := okP_nat ha
      obtain ⟨q, rfl, hq⟩ := okP_nat hb
      by_cases q0 : q = 0
      · subst q0
        refine ⟨(0, 0, false), fun k hk => ⟨?_, ?_⟩, fun h => by cases h⟩
        · unfold impl_DividePoly.f; rw [isPoly_two, ha, hb]; simp only [Option.bind_some, Bool.and_self, if_true]; rw [if_pos (by omega)]
        · unfold spec_DividePoly.f; rw [good_at, good_at, ha, hb]; simp only [Option.bind_some, if_true]; rw [if_pos (by omega)]
      · refine ⟨_, fun k hk => ⟨divide_in hp hq q0 k (by omega), ?_⟩, fun _ => ⟨p, q, rfl, rfl, hp, hq, q0, rfl, rfl⟩⟩
        unfold spec_DividePoly.f
        rw [good_at, good_at, ha, hb]
        simp only [Option.bind_some, if_true]
        rw [if_neg (by omega), poDivide_at p q q0 (by omega) (by omega) k (by omega), Option.bind_some]
        rfl
    · have hb : okP b = false := by simpa using hb
      refine ⟨(0, 0, false), fun k hk => ⟨?_, ?_⟩, fun h => by cases h⟩
      · unfold impl_DividePoly.f; rw [isPoly_two, ha, hb]; rfl
      · unfold spec_DividePoly.f; rw [good_at, good_at, ha, hb]; rfl
  · have ha : okP a = false := by simpa using ha
    refine ⟨(0, 0, false), fun k hk => ⟨?_, ?_⟩, fun h => by cases h⟩
    · unfold impl_DividePoly.f; rw [isPoly_two, ha]; rfl
    · unfold spec_DividePoly.f; rw [good_at, ha]; rfl
theorem gcd_both (a b : Int) : ∃ R : Int × Bool, (∀ k, 400 < k → impl_GcdPoly.f k a b = some R ∧ spec_GcdPoly.f k a b = some R) ∧ (R.2 = true → ∃ p q : Nat, a = p ∧ b = q ∧ bl p ≤ 41 ∧ bl q ≤ 41 ∧ R.1 = ((Gf.gcd p q : Nat) : Int)) := by
  by_cases ha : okP a = true
  · by_cases hb : okP b = true
    · obtain ⟨p, rfl, hp⟩ := okP_nat ha
      obtain ⟨q, rfl, hq⟩ := okP_nat hb
      refine ⟨(((Gf.gcd p q : Nat) : Int), true), fun k hk => ⟨?_, ?_⟩, fun _ => ⟨p, q, rfl, rfl, hp, hq, rfl⟩⟩
      · unfold impl_GcdPoly.f; rw [isPoly_two, ha, hb]; simp only [Option.bind_some, Bool.and_self, if_true]; rw [gcd_at p q (by omega) (by omega) k (by omega)]; rfl
      · unfold spec_GcdPoly.f; rw [good_at, good_at, ha, hb]; simp only [Option.bind_some, if_true]; rw [poGcd_at p q (by omega) (by omega) k (by omega)]; rfl
    · have hb : okP b = false := by simpa using hb
      refine ⟨(0, false), fun k hk => ⟨?_, ?_⟩, fun h => by cases h⟩
      · unfold impl_GcdPoly.f; rw [isPoly_two, ha, hb]; rfl
      · unfold spec_GcdPoly.f; rw [good_at, good_at, ha, hb]; rfl
  · have ha : okP a = false := by simpa using ha
    refine ⟨(0, false), fun k hk => ⟨?_, ?_⟩, fun h => by cases h⟩
    · unfold impl_GcdPoly.f; rw [isPoly_two, ha]; rfl
    · unfold spec_GcdPoly.f; rw [good_at, ha]; rfl
theorem shift_in {n : Nat} (h : bl n ≤ 41) (k : Nat) (hk : 200 < k) : impl_ShiftPoly.f k (n : Int) = some (((sub1 n : Nat) : Int), true) := by
  unfold impl_ShiftPoly.f
  rw [isPoly_one, okP_of h]
  simp only [Option.bind_some, if_true]
  rw [shift_at n h k (by omega)]; rfl
theorem shift_spec {n : Nat} (h : bl n ≤ 41) (k : Nat) (hk : 200 < k) : spec_ShiftPoly.f k (n : Int) = some (((sub1 n : Nat) : Int), true) := by
  unfold spec_ShiftPoly.f
  rw [good_at, okP_of h]
  simp only [Option.bind_some, if_true]
  rw [poShift_at n h k (by omega)]; rfl
theorem der_bl (n : Nat) : bl (der n) ≤ bl n := by
  refine bl_le_iff.2 ?_
  refine Nat.lt_pow_two_of_testBit _ fun i hi => ?_
  rw [der_bits n n i (Nat.le_refl _), above (by omega)]; simp
theorem der_l0 (n : Nat) (hn : bl n ≤ 41) : ∀ (d j out k : Nat), j + d = 20 → bl out ≤ 41 → (∀ i, out.testBit i = (decide (i % 2 = 0) && (decide (i < 2 * j) && n.testBit (i + 1)))) → d < k → impl_DerivativeOf.l0 k (n : Int) (out : Int) ((2 * j + 1 : Nat) : Int) = some (((der n : Nat) : Int), true)
  | 0, j, out, k, hj, ho, hb, hk => by
    obtain ⟨k, rfl⟩ : ∃ m, k = m + 1 := ⟨k - 1, by omega⟩
    rw [impl_DerivativeOf.l0, if_neg (by omega)]
    have e : out = der n := by
      apply Nat.eq_of_testBit_eq
      intro i
      rw [hb i, der_bits n n i (Nat.le_refl _)]
      by_cases c : i < 2 * j
      · simp [c]
      · rw [above (n := n) (by omega)]; simp
    rw [e]
  | d + 1, j, out, k, hj, ho, hb, hk => by
    obtain ⟨k, rfl⟩ : ∃ m, k = m + 1 := ⟨k - 1, by omega⟩
    have hlt := lt_of_bl (n := n) (by omega)
    have hol := lt_of_bl (n := out) (by omega)
    rw [impl_DerivativeOf.l0, if_pos (by omega), has_at n (2 * j + 1) (by omega)]
    simp only [Option.bind_some]
    rw [show wrap64 (((2 * j + 1 : Nat) : Int) - 1) = ((2 * j : Nat) : Int) by rw [wrap_id (by omega) (by omega)]; omega, show wrap64 (((2 * j + 1 : Nat) : Int) + 2) = ((2 * (j + 1) + 1 : Nat) : Int) by rw [wrap_id (by omega) (by omega)]; omega]
    have h41 : (2 : Nat) ^ 41 = 2199023255552 := rfl
    by_cases c : n.testBit (2 * j + 1) = true
    · have hs : 1 <<< (2 * j) < 2 ^ 41 := by rw [Nat.shiftLeft_eq, Nat.one_mul]; exact Nat.pow_lt_pow_right (by omega) (by omega)
      rw [if_pos c, if_pos (by omega), shl_one (by omega), bits_or (by omega) (by omega)]
      refine der_l0 n hn d (j + 1) _ k (by omega) (bl_le_iff.2 (Nat.or_lt_two_pow (bl_le_iff.1 ho) hs)) (fun i => ?_) (by omega)
      rw [Nat.testBit_or, hb i, Nat.shiftLeft_eq, Nat.one_mul, Nat.testBit_two_pow]
      by_cases e : 2 * j = i
      · subst e; simp [c]
      · by_cases g : i < 2 * j
        · simp [e, g, show i < 2 * (j + 1) by omega]
        · by_cases g2 : i % 2 = 0
          · simp [e, g, g2, show ¬ i < 2 * (j + 1) by omega]
          · simp [e, g2]
    · rw [if_neg c]
      refine der_l0 n hn d (j + 1) out k (by omega) ho (fun i => ?_) (by omega)
      rw [hb i]
      have c : n.testBit (2 * j + 1) = false := by simpa using c
      by_cases e : 2 * j = i
      · subst e; simp [c]
      · by_cases g : i < 2 * j
        · simp [g, show i < 2 * (j + 1) by omega]
        · by_cases g2 : i % 2 = 0
          · simp [g, g2, show ¬ i < 2 * (j + 1) by omega]
          · simp [g2]
theorem der_in {n : Nat} (h : bl n ≤ 41) (k : Nat) (hk : 200 < k) : impl_DerivativeOf.f k (n : Int) = some (((der n : Nat) : Int), true) := by
  unfold impl_DerivativeOf.f
  rw [isPoly_one, okP_of h]
  simp only [Option.bind_some, if_true]
  exact der_l0 n h 20 0 0 k (by omega) (by rw [bl_zero]; omega) (fun i => by simp) (by omega)
/-- A polynomial backwards, from the place i on. -/
def revM (p D : Nat) : Nat → Nat → Nat → Nat
  | 0, i, out => out
  | d + 1, i, out => revM p D d (i + 1) (if p.testBit (D - i) = true then out ||| 1 <<< i else out)
theorem rev_impl (p D : Nat) (hp : bl p ≤ 41) (hD : D ≤ 40) : ∀ (d i out k : Nat), i + d = D + 1 → bl out ≤ 41 → d < k → impl_ReversedPoly.l0 k (p : Int) (out : Int) (D : Int) ((D + 1 : Nat) : Int) (i : Int) = some (((revM p D d i out : Nat) : Int), true)
  | 0, i, out, k, hi, ho, hk => by
    obtain ⟨k, rfl⟩ : ∃ m, k = m + 1 := ⟨k - 1, by omega⟩
    rw [impl_ReversedPoly.l0, if_neg (by omega), revM]
  | d + 1, i, out, k, hi, ho, hk => by
    obtain ⟨k, rfl⟩ : ∃ m, k = m + 1 := ⟨k - 1, by omega⟩
    have hlt := lt_of_bl (n := p) (by omega)
    have hol := lt_of_bl (n := out) (by omega)
    rw [impl_ReversedPoly.l0, if_pos (by omega), show wrap64 ((D : Int) - (i : Int)) = ((D - i : Nat) : Int) by rw [wrap_id (by omega) (by omega)]; omega, has_at p (D - i) (by omega)]
    simp only [Option.bind_some]
    rw [show wrap64 ((i : Int) + 1) = ((i + 1 : Nat) : Int) by rw [wrap_id (by omega) (by omega)]; omega, revM]
    have h41 : (2 : Nat) ^ 41 = 2199023255552 := rfl
    by_cases c : p.testBit (D - i) = true
    · have hs : 1 <<< i < 2 ^ 41 := by rw [Nat.shiftLeft_eq, Nat.one_mul]; exact Nat.pow_lt_pow_right (by omega) (by omega)
      rw [if_pos c, if_pos (by omega), if_pos c, shl_one (by omega), bits_or (by omega) (by omega)]
      exact rev_impl p D hp hD d (i + 1) _ k (by omega) (bl_le_iff.2 (Nat.or_lt_two_pow (bl_le_iff.1 ho) hs)) (by omega)
    · rw [if_neg c, if_neg c]
      exact rev_impl p D hp hD d (i + 1) out k (by omega) ho (by omega)
theorem rev_spec (p D : Nat) (hp : bl p ≤ 41) (hpd : bl p = D + 1) : ∀ (d i out k : Nat), i + d = D + 1 → bl out ≤ 41 → d + 100 < k → spec_ReversedPoly.l0 k (p : Int) (out : Int) ((D : Int) - (i : Int)) = some (((revM p D d i out : Nat) : Int), true)
  | 0, i, out, k, hi, ho, hk => by
    obtain ⟨k, rfl⟩ : ∃ m, k = m + 1 := ⟨k - 1, by omega⟩
    rw [spec_ReversedPoly.l0, if_neg (by omega), revM]
  | d + 1, i, out, k, hi, ho, hk => by
    obtain ⟨k, rfl⟩ : ∃ m, k = m + 1 := ⟨k - 1, by omega⟩
    have hlt := lt_of_bl (n := p) (by omega)
    have hol := lt_of_bl (n := out) (by omega)
    rw [spec_ReversedPoly.l0, if_pos (by omega), show (D : Int) - (i : Int) = ((D - i : Nat) : Int) by omega, grIn_at p (D - i) (by omega)]
    simp only [Option.bind_some]
    rw [show wrap64 (((D - i : Nat) : Int) - 1) = (D : Int) - ((i + 1 : Nat) : Int) by rw [wrap_id (by omega) (by omega)]; omega, revM]
    have h41 : (2 : Nat) ^ 41 = 2199023255552 := rfl
    by_cases c : p.testBit (D - i) = true
    · have hs : 1 <<< i < 2 ^ 41 := by rw [Nat.shiftLeft_eq, Nat.one_mul]; exact Nat.pow_lt_pow_right (by omega) (by omega)
      rw [if_pos c, poDegree_at p (by omega) k (by omega)]
      simp only [Option.bind_some]
      rw [show wrap64 ((bl p : Int) - 1 - ((D - i : Nat) : Int)) = (i : Int) by rw [wrap_id (by omega) (by omega)]; omega, if_pos (by omega), if_pos c, shl_one (by omega), bits_or (by omega) (by omega)]
      exact rev_spec p D hp hpd d (i + 1) _ k (by omega) (bl_le_iff.2 (Nat.or_lt_two_pow (bl_le_iff.1 ho) hs)) (by omega)
    · rw [if_neg c, if_neg c]
      exact rev_spec p D hp hpd d (i + 1) out k (by omega) ho (by omega)
theorem rev_both (n : Nat) (h : bl n ≤ 41) : ∃ v : Int, ∀ k, 400 < k → impl_ReversedPoly.f k (n : Int) = some (v, true) ∧ spec_ReversedPoly.f k (n : Int) = some (v, true) := by
  by_cases c : n = 0
  · subst c
    refine ⟨0, fun k hk => ⟨?_, ?_⟩⟩
    · unfold impl_ReversedPoly.f
      rw [isPoly_one, okP_of h]
      simp only [Option.bind_some, if_true]
      rw [degree_at 0 (by omega)]
      simp only [Option.bind_some]
      obtain ⟨k, rfl⟩ : ∃ m, k = m + 1 := ⟨k - 1, by omega⟩
      rw [bl_zero, impl_ReversedPoly.l0, if_neg (by rw [wrap_id (by omega) (by omega)]; omega)]
    · unfold spec_ReversedPoly.f
      rw [good_at, okP_of h]
      simp only [Option.bind_some, if_true]
      rw [poDegree_at 0 (by omega) k (by omega)]
      simp only [Option.bind_some]
      obtain ⟨k, rfl⟩ : ∃ m, k = m + 1 := ⟨k - 1, by omega⟩
      rw [bl_zero, spec_ReversedPoly.l0, if_neg (by decide)]
  · have hb := bl_pos' c
    obtain ⟨D, hD⟩ : ∃ D, bl n = D + 1 := ⟨bl n - 1, by omega⟩
    refine ⟨((revM n D (D + 1) 0 0 : Nat) : Int), fun k hk => ⟨?_, ?_⟩⟩
    · unfold impl_ReversedPoly.f
      rw [isPoly_one, okP_of h]
      simp only [Option.bind_some, if_true]
      rw [degree_at n (by omega)]
      simp only [Option.bind_some]
      rw [show (bl n : Int) - 1 = (D : Int) by omega, show wrap64 ((D : Int) + 1) = ((D + 1 : Nat) : Int) by rw [wrap_id (by omega) (by omega)]; omega]
      exact rev_impl n D h (by omega) (D + 1) 0 0 k (by omega) (by rw [bl_zero]; omega) (by omega)
    · unfold spec_ReversedPoly.f
      rw [good_at, okP_of h]
      simp only [Option.bind_some, if_true]
      rw [poDegree_at n (by omega) k (by omega)]
      simp only [Option.bind_some]
      have := rev_spec n D h hD (D + 1) 0 0 k (by omega) (by rw [bl_zero]; omega) (by omega)
      rw [show (bl n : Int) - 1 = (D : Int) - ((0 : Nat) : Int) by omega]
      exact this
theorem vTop_l0 : ∀ (d n k : Nat) (c : Int), bl n = d → d ≤ 62 → -1 ≤ c → c + d ≤ 100 → d < k → laws_vTop.l0 k (n : Int) c = some (c + (d : Int)) := by
  intro d
  induction d with
  | zero =>
    intro n k c hn _ _ _ hk
    obtain ⟨k, rfl⟩ : ∃ m, k = m + 1 := ⟨k - 1, by omega⟩
    have : n = 0 := bl_eq_zero.1 hn
    subst this
    rw [laws_vTop.l0, if_neg (by omega)]
    simp
  | succ d ih =>
    intro n k c hn hd h1 h2 hk
    obtain ⟨k, rfl⟩ : ∃ m, k = m + 1 := ⟨k - 1, by omega⟩
    have h0 : n ≠ 0 := fun e => by rw [e, bl_zero] at hn; omega
    have hlt := lt_of_bl (n := n) (by omega)
    rw [laws_vTop.l0, if_pos (by omega), tdiv_two, wrap_nat (by omega), wrap_id (by omega) (by omega)]
    have hb := bl_half h0
    rw [ih (n / 2) k (c + 1) (by omega) (by omega) (by omega) (by omega) (by omega)]
    congr 1; omega
theorem vTop_at (n : Nat) (h : bl n ≤ 62) (k : Nat) (hk : 100 < k) : laws_vTop.f k (n : Int) = some ((bl n : Int) - 1) := by
  unfold laws_vTop.f
  rw [vTop_l0 (bl n) n k (-1) rfl h (by omega) (by omega) (by omega), Int.add_comm]
  rfl
theorem text_in (n : Nat) (h : bl n ≤ 41) : Ev (fun k => impl_PolyText.f k (n : Int)) (txt n, true) := by
  obtain ⟨-, K, hK⟩ := text_ev n (le41 h)
  refine ⟨K, fun k hk => ?_⟩
  simp only at hK
  show impl_PolyText.f k (n : Int) = _
  unfold impl_PolyText.f
  rw [isPoly_one, okP_of h]
  simp only [Option.bind_some, if_true]
  rw [hK k hk]; rfl
end Go.Proofs.YtigkmdlbijdoaaaGreatDoor.Dv
