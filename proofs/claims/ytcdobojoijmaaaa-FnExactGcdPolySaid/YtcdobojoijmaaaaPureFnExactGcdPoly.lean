/- The program's GcdPoly returns what the reference's returns. No condition. -/
import Derived.Test.YtcdobojoijmaaaaPolyF
import Derived.Test.YtcdobojoijmaaaaPx20
import Derived.Test.YtcdobojoijmaaaaPx25
namespace Go.Proofs.Ytcdobojoijmaaaa.Pure
open Go.RowKit Go.Proofs.Ytcdobojoijmaaaa.P Go.Proofs.Ytcdobojoijmaaaa.Pf Go.Proofs.Ytcdobojoijmaaaa.Gf Go.Proofs.YtcdobojoijmaaaaW.PrintWords Go.Proofs.YtcdobojoijmaaaaW.PrintLast
set_option linter.unusedVariables false
set_option linter.unusedSimpArgs false

theorem FnExactGcdPoly : laws_FnExactGcdPoly.Pure := by
  intro p q _ _
  refine ⟨300, ?_⟩
  unfold laws_FnExactGcdPoly.f spec_GcdPoly.f impl_GcdPoly.f impl_isPoly.f
  rw [poGood_at, poGood_at]
  simp only [Option.bind_some, List.all_cons, List.all_nil, Bool.and_true]
  by_cases h : (decide (0 ≤ p) && decide (p ≤ 2199023255551)) = true
  · by_cases h' : (decide (0 ≤ q) && decide (q ≤ 2199023255551)) = true
    · rw [h, h']
      simp only [Bool.and_eq_true, decide_eq_true_eq] at h h'
      obtain ⟨p, rfl⟩ := Int.eq_ofNat_of_zero_le h.1
      obtain ⟨q, rfl⟩ := Int.eq_ofNat_of_zero_le h'.1
      have hp := bl41 h.2
      have hq := bl41 h'.2
      simp only [Bool.and_self, if_true]
      rw [poGcd_at p q (by omega) (by omega) 300 (by omega), gcd_at p q (by omega) (by omega) 300 (by omega)]
      simp
    · rw [h, Bool.eq_false_iff.mpr h']; simp
  · rw [Bool.eq_false_iff.mpr h]; simp
end Go.Proofs.Ytcdobojoijmaaaa.Pure
