/- The program's CircleNullity returns what the reference's returns. No condition. -/
import Derived.Test.YtcdobojoijmaaaaPx1
namespace Go.Proofs.Ytcdobojoijmaaaa.Pure
open Go.RowKit Go.Proofs.Ytcdobojoijmaaaa.P Go.Proofs.YtcdobojoijmaaaaW.PrintWords Go.Proofs.YtcdobojoijmaaaaW.PrintLast
set_option linter.unusedVariables false
set_option linter.unusedSimpArgs false

theorem FnExactCircleNullity : laws_FnExactCircleNullity.Pure := by
  intro n own hn
  refine ⟨5, ?_⟩
  unfold laws_FnExactCircleNullity.f spec_CircleNullity.f impl_CircleNullity.f spec_l1In.f impl_in.f
  by_cases h1 : 3 ≤ n
  · by_cases h2 : n ≤ 1000000
    · have e3 : Int.tmod n 3 = n % 3 := Int.tmod_eq_emod_of_nonneg (by omega)
      have e2 : Int.tmod n 2 = n % 2 := Int.tmod_eq_emod_of_nonneg (by omega)
      have e5 : wrap64 (2 - n % 2) = 2 - n % 2 := by unfold wrap64; omega
      simp only [ge_iff_le, h1, h2, decide_true, if_true, Option.bind_some, e3, e2, e5, impl_CircleNullity.j0, impl_CircleNullity.j1]
      cases own with
      | true =>
        by_cases c : n % 3 = 0
        · simp [c]
        · simp [c]
      | false =>
        by_cases c : n % 2 = 0
        · simp [c]
        · have : n % 2 = 1 := by omega
          simp [this]
    · simp [h1, h2]
  · simp [h1]
end Go.Proofs.Ytcdobojoijmaaaa.Pure
