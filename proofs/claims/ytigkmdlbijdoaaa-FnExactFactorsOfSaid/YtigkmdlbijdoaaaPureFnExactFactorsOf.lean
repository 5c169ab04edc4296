/- The law FnExactFactorsOf, with no program in sight. -/
import Derived.Test.YtigkmdlbijdoaaaFactors
import Derived.Test.YtigkmdlbijdoaaaLawE
import Derived.Test.YtigkmdlbijdoaaaPx11
import Derived.Test.YtigkmdlbijdoaaaPx26
import Derived.Test.YtigkmdlbijdoaaaPx27
import Derived.Test.YtigkmdlbijdoaaaPx9
namespace Go.Proofs.Ytigkmdlbijdoaaa.Pure
open Go.RowKit Go.Proofs.Ytigkmdlbijdoaaa.P Go.Proofs.Ytigkmdlbijdoaaa.Bt Go.Proofs.Ytigkmdlbijdoaaa.Pf Go.Proofs.Ytigkmdlbijdoaaa.Gf Go.Proofs.Ytigkmdlbijdoaaa.Lw Go.Proofs.YtigkmdlbijdoaaaW.PrintWords Go.Proofs.YtigkmdlbijdoaaaW.PrintLast
set_option linter.unusedVariables false
set_option linter.unusedSimpArgs false

theorem both (a : Int) : ∃ r : List Int × Bool, r.1.length ≤ 100 ∧ Ev (fun k => spec_FactorsOf.f k a) r ∧ Ev (fun k => impl_FactorsOf.f k a) r := by
  by_cases h : (decide (0 ≤ a) && decide (a ≤ 2199023255551)) = true
  · simp only [Bool.and_eq_true, decide_eq_true_eq] at h
    obtain ⟨p, rfl⟩ := Int.eq_ofNat_of_zero_le h.1
    have hp := bl41 h.2
    have hg : spec_poGood.f (p : Int) = some true := by rw [poGood_at]; simp; omega
    have hi : impl_isPoly.f [(p : Int)] = some true := by unfold impl_isPoly.f; simp; omega
    by_cases c : 1 ≤ bl p ∧ bl p ≤ 21
    · have h0 : p ≠ 0 := fun e => by subst e; rw [bl_zero] at c; omega
      have hin : (decide ((0 : Int) ≤ (bl p : Int) - 1) && decide ((bl p : Int) - 1 ≤ 20)) = true := by simp; omega
      refine ⟨(ints (facs p), true), ?_, ⟨p + 400, fun k hk => ?_⟩, ⟨9000, fun k hk => ?_⟩⟩
      · show (ints (facs p)).length ≤ 100
        rw [ints_len]
        have := facs_len _ p (Nat.le_refl _) h0
        omega
      · show spec_FactorsOf.f k (p : Int) = _
        obtain ⟨k, rfl⟩ : ∃ j, k = j + 1 := ⟨k - 1, by omega⟩
        unfold spec_FactorsOf.f
        rw [hg, Option.bind_some, if_pos rfl, poDegree_at p (by omega) (k + 1) (by omega), Option.bind_some, l1In_at, hin, Option.bind_some, spec_FactorsOf.j0, if_neg (by decide)]
        exact factors_spec _ p [] k (Nat.le_refl _) h0 hp (by simp; omega) (by omega)
      · show impl_FactorsOf.f k (p : Int) = _
        unfold impl_FactorsOf.f
        rw [hi, Option.bind_some, if_pos rfl, degree_at p (by omega), Option.bind_some, in_at, hin, Option.bind_some, if_pos rfl, factors_at p h0 c.2 k (by omega)]
        rfl
    · have hin : (decide ((0 : Int) ≤ (bl p : Int) - 1) && decide ((bl p : Int) - 1 ≤ 20)) = false := by
        rw [Bool.eq_false_iff]; simp only [ne_eq, Bool.and_eq_true, decide_eq_true_eq]; omega
      refine ⟨([], false), Nat.zero_le _, ⟨400, fun k hk => ?_⟩, ⟨400, fun k hk => ?_⟩⟩
      · show spec_FactorsOf.f k (p : Int) = _
        obtain ⟨k, rfl⟩ : ∃ j, k = j + 1 := ⟨k - 1, by omega⟩
        unfold spec_FactorsOf.f
        rw [hg, Option.bind_some, if_pos rfl, poDegree_at p (by omega) (k + 1) (by omega), Option.bind_some, l1In_at, hin, Option.bind_some, spec_FactorsOf.j0, if_pos (by decide)]
      · show impl_FactorsOf.f k (p : Int) = _
        unfold impl_FactorsOf.f
        rw [hi, Option.bind_some, if_pos rfl, degree_at p (by omega), Option.bind_some, in_at, hin, Option.bind_some, if_neg (by decide)]
  · have hg : spec_poGood.f a = some false := by rw [poGood_at]; exact congrArg some (Bool.eq_false_iff.2 h)
    have hi : impl_isPoly.f [a] = some false := by unfold impl_isPoly.f; rw [List.all_cons, List.all_nil, Bool.and_true]; exact congrArg some (Bool.eq_false_iff.2 h)
    refine ⟨([], false), Nat.zero_le _, ⟨1, fun k hk => ?_⟩, ⟨1, fun k hk => ?_⟩⟩
    · show spec_FactorsOf.f k a = _
      obtain ⟨k, rfl⟩ : ∃ j, k = j + 1 := ⟨k - 1, by omega⟩
      unfold spec_FactorsOf.f
      rw [hg]; rfl
    · show impl_FactorsOf.f k a = _
      unfold impl_FactorsOf.f
      rw [hi]; rfl
theorem FnExactFactorsOf : laws_FnExactFactorsOf.Pure := by
  intro a _
  obtain ⟨⟨l, b⟩, hl, ⟨K1, s⟩, ⟨K2, i⟩⟩ := both a
  simp only at hl s i
  obtain ⟨K3, e⟩ := eqIntS_ev l (by omega)
  obtain ⟨K4, m⟩ := markIntS_ev l 1 (by omega) (by omega)
  obtain ⟨K5, t⟩ := heldIntS_ev 1 l.length (by omega) (by omega)
  simp only at e m t
  refine ⟨K1 + K2 + K3 + K4 + K5 + 2, ?_⟩
  generalize hk : K1 + K2 + K3 + K4 + K5 = K
  unfold laws_FnExactFactorsOf.f
  rw [s _ (by omega), Option.bind_some, i _ (by omega), Option.bind_some, e _ (by omega), Option.bind_some, if_pos rfl, bne_self_eq_false, laws_FnExactFactorsOf.j0, if_neg (by decide), m _ (by omega), Option.bind_some]
  simp only
  rw [t _ (by omega), Option.bind_some, if_neg (by omega), if_pos rfl, i _ (by omega), Option.bind_some]
  simp only
  rw [e _ (by omega), Option.bind_some, if_pos rfl, bne_self_eq_false, laws_FnExactFactorsOf.j1, if_neg (by decide), t _ (by omega), Option.bind_some, if_neg (by omega), if_pos rfl]
end Go.Proofs.Ytigkmdlbijdoaaa.Pure
