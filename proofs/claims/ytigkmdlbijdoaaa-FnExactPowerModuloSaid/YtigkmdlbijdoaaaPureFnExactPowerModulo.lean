/- The law FnExactPowerModulo, with no program in sight. -/
import Derived.Test.YtigkmdlbijdoaaaPolyF
import Derived.Test.YtigkmdlbijdoaaaPx10
import Derived.Test.YtigkmdlbijdoaaaPx11
import Derived.Test.YtigkmdlbijdoaaaPx14
namespace Go.Proofs.Ytigkmdlbijdoaaa.Pure
open Go.RowKit Go.Proofs.Ytigkmdlbijdoaaa.P Go.Proofs.Ytigkmdlbijdoaaa.Bt Go.Proofs.Ytigkmdlbijdoaaa.Pf Go.Proofs.Ytigkmdlbijdoaaa.Gf Go.Proofs.YtigkmdlbijdoaaaW.PrintWords Go.Proofs.YtigkmdlbijdoaaaW.PrintLast
set_option linter.unusedVariables false
set_option linter.unusedSimpArgs false

theorem low_bit {e : Nat} (h : e ≤ 1000000) : Go.bits .and .i64 (e : Int) 1 = ((e % 2 : Nat) : Int) := by
  rw [show (1 : Int) = ((1 : Nat) : Int) from rfl, bits_and (by omega) (by omega), Nat.and_one_is_mod]
theorem half_s {e : Nat} (h : e ≤ 1000000) : wrap64 (Int.tdiv (e : Int) 2) = ((e / 2 : Nat) : Int) := by rw [tdiv_two, wrap_nat (by omega)]
theorem half_i (e : Nat) : (e : Int) / 2 = ((e / 2 : Nat) : Int) := by omega
theorem loops (m : Nat) (hm : 2 ≤ bl m) (hm' : bl m ≤ 21) : ∀ (d e out b k : Nat), e < 2 ^ d → e ≤ 1000000 → bl out ≤ 21 → bl b ≤ 20 → d + 200 < k →
    ∃ r : Int, spec_PowerModulo.l0 k (e : Int) (m : Int) (out : Int) (b : Int) = some (r, true) ∧ impl_PowerModulo.l0 k (e : Int) (m : Int) (out : Int) (b : Int) = some (r, true) := by
  have hm0 : m ≠ 0 := fun h => by subst h; rw [bl_zero] at hm; omega
  intro d
  induction d with
  | zero =>
    intro e out b k he _ _ _ hk
    obtain ⟨k, rfl⟩ : ∃ q, k = q + 1 := ⟨k - 1, by omega⟩
    have : e = 0 := by omega
    subst this
    exact ⟨(out : Int), by rw [spec_PowerModulo.l0, if_neg (by omega)], by rw [impl_PowerModulo.l0, if_neg (by omega)]⟩
  | succ d ih =>
    intro e out b k he hmil ho hb hk
    obtain ⟨k, rfl⟩ : ∃ q, k = q + 1 := ⟨k - 1, by omega⟩
    by_cases h0 : e = 0
    · subst h0
      exact ⟨(out : Int), by rw [spec_PowerModulo.l0, if_neg (by omega)], by rw [impl_PowerModulo.l0, if_neg (by omega)]⟩
    · have hbb : bl (rest (mul b b) m) ≤ 20 := by have := rest_lt hm0 (mul b b); omega
      have hmb : ∀ x y, bl x ≤ 21 → bl y ≤ 20 → bl (mul x y) ≤ 61 := by
        intro x y hx hy
        by_cases x0 : x = 0
        · subst x0; rw [zero_mul]; rw [bl_zero]; omega
        · by_cases y0 : y = 0
          · subst y0; rw [mul_zero]; rw [bl_zero]; omega
          · have := bl_mul x0 y0; omega
      have a1 := poTimes_at b b (by omega) k (by omega)
      have a2 := poRest_at (mul b b) m hm0 (hmb b b (by omega) hb) (by omega) k (by omega)
      have b1 := times_at b b (by omega) k (by omega)
      have b2 := modulo_at (mul b b) m hm0 (hmb b b (by omega) hb) (by omega) k (by omega)
      have hlt : e / 2 < 2 ^ d := by rw [Nat.pow_succ] at he; omega
      by_cases c : e % 2 = 1
      · have c1 := poTimes_at out b (by omega) k (by omega)
        have c2 := poRest_at (mul out b) m hm0 (hmb out b ho hb) (by omega) k (by omega)
        have d1 := times_at out b (by omega) k (by omega)
        have d2 := modulo_at (mul out b) m hm0 (hmb out b ho hb) (by omega) k (by omega)
        have hob : bl (rest (mul out b) m) ≤ 21 := by have := rest_lt hm0 (mul out b); omega
        obtain ⟨r, r1, r2⟩ := ih (e / 2) (rest (mul out b) m) (rest (mul b b) m) k hlt (by omega) hob hbb (by omega)
        refine ⟨r, ?_, ?_⟩
        · rw [spec_PowerModulo.l0, if_pos (by omega), tmod_two, if_pos (by omega), c1, Option.bind_some, c2, Option.bind_some, a1, Option.bind_some, a2, Option.bind_some, half_s hmil, r1]
        · rw [impl_PowerModulo.l0, if_pos (by omega), low_bit hmil, if_pos (by omega), d1, Option.bind_some, d2, Option.bind_some, b1, Option.bind_some, b2, Option.bind_some, half_i, r2]
      · obtain ⟨r, r1, r2⟩ := ih (e / 2) out (rest (mul b b) m) k hlt (by omega) ho hbb (by omega)
        refine ⟨r, ?_, ?_⟩
        · rw [spec_PowerModulo.l0, if_pos (by omega), tmod_two, if_neg (by omega), a1, Option.bind_some, a2, Option.bind_some, half_s hmil, r1]
        · rw [impl_PowerModulo.l0, if_pos (by omega), low_bit hmil, if_neg (by omega), b1, Option.bind_some, b2, Option.bind_some, half_i, r2]
theorem both (p e m : Int) : ∃ r : Int × Bool, spec_PowerModulo.f 400 p e m = some r ∧ impl_PowerModulo.f 400 p e m = some r := by
  unfold spec_PowerModulo.f impl_PowerModulo.f impl_isPoly.f
  rw [poGood_at, poGood_at]
  simp only [Option.bind_some, List.all_cons, List.all_nil, Bool.and_true]
  by_cases h : (decide (0 ≤ p) && decide (p ≤ 2199023255551)) = true
  · by_cases h' : (decide (0 ≤ m) && decide (m ≤ 2199023255551)) = true
    · rw [h, h']
      simp only [Bool.and_eq_true, decide_eq_true_eq] at h h'
      obtain ⟨p, rfl⟩ := Int.eq_ofNat_of_zero_le h.1
      obtain ⟨m, rfl⟩ := Int.eq_ofNat_of_zero_le h'.1
      have hp := bl41 h.2
      have hm := bl41 h'.2
      simp only [Bool.and_self, if_true]
      rw [poDegree_at m (by omega) 400 (by omega), degree_at m (by omega)]
      simp only [Option.bind_some]
      rw [l1In_at, in_at, l1In_at, in_at]
      simp only [Option.bind_some]
      by_cases c : (decide (1 ≤ ((bl m : Int) - 1)) && decide (((bl m : Int) - 1) ≤ 20)) = true
      · by_cases c' : (decide (0 ≤ e) && decide (e ≤ 1000000)) = true
        · rw [c, c']
          simp only [Bool.and_eq_true, decide_eq_true_eq] at c c'
          obtain ⟨e, rfl⟩ := Int.eq_ofNat_of_zero_le c'.1
          have hm0 : m ≠ 0 := fun h => by subst h; rw [bl_zero] at c; omega
          have hl := rest_lt hm0 p
          have h1 : bl 1 = 1 := by decide
          obtain ⟨r, r1, r2⟩ := loops m (by omega) (by omega) 20 e 1 (rest p m) 399 (by omega) (by omega) (by omega) (by omega) (by omega)
          refine ⟨(r, true), ?_, ?_⟩
          · simp only [if_true, Bool.not_true]
            rw [spec_PowerModulo.j0, if_neg (by simp), poRest_at p m hm0 (by omega) (by omega) 399 (by omega), Option.bind_some]
            exact r1
          · simp only [if_true, Bool.not_true]
            rw [impl_PowerModulo.j0, if_neg (by simp), modulo_at p m hm0 (by omega) (by omega) 399 (by omega), Option.bind_some]
            exact r2
        · rw [c, Bool.eq_false_iff.mpr c']
          refine ⟨(0, false), ?_, ?_⟩
          · simp only [if_true, Bool.not_false]
            rw [spec_PowerModulo.j0, if_pos rfl]
          · simp only [Bool.false_eq_true, if_false]
            rw [impl_PowerModulo.j0, if_pos rfl]
      · rw [Bool.eq_false_iff.mpr c]
        refine ⟨(0, false), ?_, ?_⟩
        · simp only [Bool.false_eq_true, if_false]
          rw [spec_PowerModulo.j0, if_pos rfl]
        · by_cases c' : (decide (0 ≤ e) && decide (e ≤ 1000000)) = true
          · rw [c', if_pos rfl, Bool.not_false, impl_PowerModulo.j0, if_pos rfl]
          · rw [Bool.eq_false_iff.mpr c', if_neg (by simp), impl_PowerModulo.j0, if_pos rfl]
    · rw [h, Bool.eq_false_iff.mpr h']
      refine ⟨(0, false), ?_, ?_⟩
      · simp only [if_true, Bool.false_eq_true, if_false]
        rw [spec_PowerModulo.j0, if_pos rfl]
      · simp only [Bool.and_false, Bool.false_eq_true, if_false]
        rw [impl_PowerModulo.j0, if_pos rfl]
  · rw [Bool.eq_false_iff.mpr h]
    refine ⟨(0, false), ?_, ?_⟩
    · simp only [Bool.false_eq_true, if_false]
      rw [spec_PowerModulo.j0, if_pos rfl]
    · simp only [Bool.false_and, Bool.false_eq_true, if_false]
      rw [impl_PowerModulo.j0, if_pos rfl]
theorem FnExactPowerModulo : laws_FnExactPowerModulo.Pure := by
  intro p e m _ _ _
  obtain ⟨r, h1, h2⟩ := both p e m
  refine ⟨400, ?_⟩
  unfold laws_FnExactPowerModulo.f
  rw [h1, Option.bind_some, h2, Option.bind_some, if_pos rfl, bne_self_eq_false, if_neg (by simp)]
end Go.Proofs.Ytigkmdlbijdoaaa.Pure
