/- The law FnExactIsIrreducible, with no program in sight. -/
import Derived.Test.YtigkmdlbijdoaaaFactors
import Derived.Test.YtigkmdlbijdoaaaPx11
import Derived.Test.YtigkmdlbijdoaaaPx22
import Derived.Test.YtigkmdlbijdoaaaPx25
import Derived.Test.YtigkmdlbijdoaaaPx9
namespace Go.Proofs.Ytigkmdlbijdoaaa.Pure
open Go.RowKit Go.Proofs.Ytigkmdlbijdoaaa.P Go.Proofs.Ytigkmdlbijdoaaa.Bt Go.Proofs.Ytigkmdlbijdoaaa.Pf Go.Proofs.Ytigkmdlbijdoaaa.Gf Go.Proofs.YtigkmdlbijdoaaaW.PrintWords Go.Proofs.YtigkmdlbijdoaaaW.PrintLast
set_option linter.unusedVariables false
set_option linter.unusedSimpArgs false

theorem both (a : Int) : ∃ r : Bool × Bool, Ev (fun k => spec_IsIrreducible.f k a) r ∧ Ev (fun k => impl_IsIrreducible.f k a) r := by
  by_cases h : (decide (0 ≤ a) && decide (a ≤ 2199023255551)) = true
  · simp only [Bool.and_eq_true, decide_eq_true_eq] at h
    obtain ⟨p, rfl⟩ := Int.eq_ofNat_of_zero_le h.1
    have hp := bl41 h.2
    have hg : spec_poGood.f (p : Int) = some true := by rw [poGood_at]; simp; omega
    have hi : impl_isPoly.f [(p : Int)] = some true := by unfold impl_isPoly.f; simp; omega
    by_cases c : bl p ≤ 21
    · by_cases c2 : 2 ≤ bl p
      · have h0 : p ≠ 0 := fun e => by subst e; rw [bl_zero] at c2; omega
        refine ⟨(decide (ld p = p), true), ⟨p + 400, fun k hk => ?_⟩, ⟨9000, fun k hk => ?_⟩⟩
        · show spec_IsIrreducible.f k (p : Int) = _
          obtain ⟨k, rfl⟩ : ∃ j, k = j + 1 := ⟨k - 1, by omega⟩
          unfold spec_IsIrreducible.f
          rw [hg, Option.bind_some, if_pos rfl, poDegree_at p (by omega) (k + 1) (by omega), Option.bind_some, spec_IsIrreducible.j0, if_neg (by rw [decide_eq_true_eq]; omega), poDegree_at p (by omega) k (by omega), Option.bind_some, if_pos (by omega), poFirst_at p c2 hp k (by omega), Option.bind_some]
          congr 2
          rw [Bool.eq_iff_iff, beq_iff_eq, decide_eq_true_iff]
          omega
        · show impl_IsIrreducible.f k (p : Int) = _
          obtain ⟨k, rfl⟩ : ∃ j, k = j + 1 := ⟨k - 1, by omega⟩
          unfold impl_IsIrreducible.f
          rw [hi, Option.bind_some, if_pos rfl, degree_at p (by omega), Option.bind_some, impl_IsIrreducible.j0, if_neg (by rw [decide_eq_true_eq]; omega), degree_at p (by omega), Option.bind_some, if_pos (by omega), factors_at p h0 c k (by omega), Option.bind_some]
          congr 2
          rw [Bool.eq_iff_iff, beq_iff_eq, decide_eq_true_iff, ints_len, ← facs_len_one c2]
          omega
      · refine ⟨(false, true), ⟨400, fun k hk => ?_⟩, ⟨400, fun k hk => ?_⟩⟩
        · show spec_IsIrreducible.f k (p : Int) = _
          obtain ⟨k, rfl⟩ : ∃ j, k = j + 1 := ⟨k - 1, by omega⟩
          unfold spec_IsIrreducible.f
          rw [hg, Option.bind_some, if_pos rfl, poDegree_at p (by omega) (k + 1) (by omega), Option.bind_some, spec_IsIrreducible.j0, if_neg (by rw [decide_eq_true_eq]; omega), poDegree_at p (by omega) k (by omega), Option.bind_some, if_neg (by omega)]
        · show impl_IsIrreducible.f k (p : Int) = _
          obtain ⟨k, rfl⟩ : ∃ j, k = j + 1 := ⟨k - 1, by omega⟩
          unfold impl_IsIrreducible.f
          rw [hi, Option.bind_some, if_pos rfl, degree_at p (by omega), Option.bind_some, impl_IsIrreducible.j0, if_neg (by rw [decide_eq_true_eq]; omega), degree_at p (by omega), Option.bind_some, if_neg (by omega)]
    · refine ⟨(false, false), ⟨400, fun k hk => ?_⟩, ⟨400, fun k hk => ?_⟩⟩
      · show spec_IsIrreducible.f k (p : Int) = _
        obtain ⟨k, rfl⟩ : ∃ j, k = j + 1 := ⟨k - 1, by omega⟩
        unfold spec_IsIrreducible.f
        rw [hg, Option.bind_some, if_pos rfl, poDegree_at p (by omega) (k + 1) (by omega), Option.bind_some, spec_IsIrreducible.j0, if_pos (by rw [decide_eq_true_eq]; omega)]
      · show impl_IsIrreducible.f k (p : Int) = _
        obtain ⟨k, rfl⟩ : ∃ j, k = j + 1 := ⟨k - 1, by omega⟩
        unfold impl_IsIrreducible.f
        rw [hi, Option.bind_some, if_pos rfl, degree_at p (by omega), Option.bind_some, impl_IsIrreducible.j0, if_pos (by rw [decide_eq_true_eq]; omega)]
  · have hg : spec_poGood.f a = some false := by rw [poGood_at]; exact congrArg some (Bool.eq_false_iff.2 h)
    have hi : impl_isPoly.f [a] = some false := by unfold impl_isPoly.f; rw [List.all_cons, List.all_nil, Bool.and_true]; exact congrArg some (Bool.eq_false_iff.2 h)
    refine ⟨(false, false), ⟨1, fun k hk => ?_⟩, ⟨1, fun k hk => ?_⟩⟩
    · show spec_IsIrreducible.f k a = _
      obtain ⟨k, rfl⟩ : ∃ j, k = j + 1 := ⟨k - 1, by omega⟩
      unfold spec_IsIrreducible.f
      rw [hg]; rfl
    · show impl_IsIrreducible.f k a = _
      obtain ⟨k, rfl⟩ : ∃ j, k = j + 1 := ⟨k - 1, by omega⟩
      unfold impl_IsIrreducible.f
      rw [hi]; rfl
theorem FnExactIsIrreducible : laws_FnExactIsIrreducible.Pure := by
  intro a _
  obtain ⟨⟨r1, r2⟩, ⟨K1, s⟩, ⟨K2, i⟩⟩ := both a
  refine ⟨K1 + K2, ?_⟩
  unfold laws_FnExactIsIrreducible.f
  simp only at s i
  rw [s _ (by omega), Option.bind_some, i _ (by omega), Option.bind_some]
  simp
end Go.Proofs.Ytigkmdlbijdoaaa.Pure
