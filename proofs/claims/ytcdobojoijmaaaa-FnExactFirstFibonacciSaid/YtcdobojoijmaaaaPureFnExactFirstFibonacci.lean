/- The program's FirstFibonacci returns what the reference's returns. No condition. -/
import Derived.Test.YtcdobojoijmaaaaFirstFib
import Derived.Test.YtcdobojoijmaaaaPx28
namespace Go.Proofs.Ytcdobojoijmaaaa.Pure
open Go.RowKit Go.Proofs.Ytcdobojoijmaaaa.P Go.Proofs.Ytcdobojoijmaaaa.Bt Go.Proofs.Ytcdobojoijmaaaa.Pf Go.Proofs.Ytcdobojoijmaaaa.Gf Go.Proofs.YtcdobojoijmaaaaW.PrintWords Go.Proofs.YtcdobojoijmaaaaW.PrintLast
set_option linter.unusedVariables false
set_option linter.unusedSimpArgs false

theorem FnExactFirstFibonacci : laws_FnExactFirstFibonacci.Pure := by
  intro p _
  refine ⟨7000, ?_⟩
  unfold laws_FnExactFirstFibonacci.f
  by_cases h : 0 ≤ p ∧ p ≤ 2199023255551 ∧ 2 ≤ bl p.toNat ∧ bl p.toNat ≤ 11
  · obtain ⟨h1, h2, h3, h4⟩ := h
    obtain ⟨p, rfl⟩ := Int.eq_ofNat_of_zero_le h1
    rw [Int.toNat_natCast] at h3 h4
    rw [(firstFib_at h3 h4 7000 (by omega)).1, (firstFib_at h3 h4 7000 (by omega)).2]
    simp
  · rw [(firstFib_no p h 7000 (by omega)).1, (firstFib_no p h 7000 (by omega)).2]
    simp
end Go.Proofs.Ytcdobojoijmaaaa.Pure
