/- The program's ShiftPoly returns what the reference's returns. No condition. -/
import Derived.Test.YtcdobojoijmaaaaShift
import Derived.Test.YtcdobojoijmaaaaPx20
import Derived.Test.YtcdobojoijmaaaaPx23
namespace Go.Proofs.Ytcdobojoijmaaaa.Pure
open Go.RowKit Go.Proofs.Ytcdobojoijmaaaa.P Go.Proofs.Ytcdobojoijmaaaa.Bt Go.Proofs.Ytcdobojoijmaaaa.Pf Go.Proofs.Ytcdobojoijmaaaa.Gf Go.Proofs.YtcdobojoijmaaaaW.PrintWords Go.Proofs.YtcdobojoijmaaaaW.PrintLast
set_option linter.unusedVariables false
set_option linter.unusedSimpArgs false

theorem FnExactShiftPoly : laws_FnExactShiftPoly.Pure := by
  intro p _
  refine ⟨300, ?_⟩
  unfold laws_FnExactShiftPoly.f spec_ShiftPoly.f impl_ShiftPoly.f impl_isPoly.f
  rw [poGood_at]
  simp only [Option.bind_some, List.all_cons, List.all_nil, Bool.and_true]
  by_cases h : (decide (0 ≤ p) && decide (p ≤ 2199023255551)) = true
  · rw [h]
    simp only [Bool.and_eq_true, decide_eq_true_eq] at h
    obtain ⟨p, rfl⟩ := Int.eq_ofNat_of_zero_le h.1
    have hp := bl41 h.2
    simp only [if_true]
    rw [poShift_at p hp 300 (by omega), shift_at p hp 300 (by omega)]
    simp
  · rw [Bool.eq_false_iff.mpr h]; simp
end Go.Proofs.Ytcdobojoijmaaaa.Pure
