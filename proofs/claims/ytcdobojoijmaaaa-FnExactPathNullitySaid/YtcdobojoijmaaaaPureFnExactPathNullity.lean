/- The program's PathNullity returns what the reference's returns. No condition. -/
import Derived.Test.YtcdobojoijmaaaaPx1
namespace Go.Proofs.Ytcdobojoijmaaaa.Pure
open Go.RowKit Go.Proofs.Ytcdobojoijmaaaa.P Go.Proofs.YtcdobojoijmaaaaW.PrintWords Go.Proofs.YtcdobojoijmaaaaW.PrintLast
set_option linter.unusedVariables false
set_option linter.unusedSimpArgs false

theorem FnExactPathNullity : laws_FnExactPathNullity.Pure := by
  intro n own hn
  unfold laws_FnExactPathNullity.f spec_PathNullity.f impl_PathNullity.f spec_l1In.f impl_in.f
  by_cases h1 : 1 ≤ n
  · by_cases h2 : n ≤ 1000000
    · have e3 : Int.tmod n 3 = n % 3 := Int.tmod_eq_emod_of_nonneg (by omega)
      have e2 : Int.tmod n 2 = n % 2 := Int.tmod_eq_emod_of_nonneg (by omega)
      have e4 : Int.tdiv (n % 3) 2 = n % 3 / 2 := Int.tdiv_eq_ediv_of_nonneg (by omega)
      have e5 : wrap64 (n % 3 / 2) = n % 3 / 2 := by unfold wrap64; omega
      simp only [ge_iff_le, h1, h2, decide_true, if_true, Option.bind_some, e3, e2, e4, e5]
      cases own with
      | true =>
        simp only [if_true, Option.bind_some]
        by_cases c : n % 3 = 2
        · rw [if_pos c]; simp [c]
        · rw [if_neg c]
          have : n % 3 / 2 = 0 := by omega
          simp [this]
      | false =>
        simp only [Bool.false_eq_true, if_false, Option.bind_some]
        by_cases c : n % 2 = 1
        · rw [if_pos c]; simp [c]
        · rw [if_neg c]
          have : n % 2 = 0 := by omega
          simp [this]
    · simp [h1, h2]
  · simp [h1]
end Go.Proofs.Ytcdobojoijmaaaa.Pure
