/- The program's OrderOfPoly returns what the reference's returns. No condition. -/
import Derived.Test.YtcdobojoijmaaaaOrder
import Derived.Test.YtcdobojoijmaaaaPx27
namespace Go.Proofs.Ytcdobojoijmaaaa.Pure
open Go.RowKit Go.Proofs.Ytcdobojoijmaaaa.P Go.Proofs.Ytcdobojoijmaaaa.Bt Go.Proofs.Ytcdobojoijmaaaa.Pf Go.Proofs.Ytcdobojoijmaaaa.Gf Go.Proofs.YtcdobojoijmaaaaW.PrintWords Go.Proofs.YtcdobojoijmaaaaW.PrintLast
set_option linter.unusedVariables false
set_option linter.unusedSimpArgs false

theorem FnExactOrderOfPoly : laws_FnExactOrderOfPoly.Pure := by
  intro p _
  refine ⟨10000, ?_⟩
  unfold laws_FnExactOrderOfPoly.f
  by_cases h : 0 ≤ p ∧ p ≤ 2199023255551 ∧ p % 2 = 1 ∧ 2 ≤ bl p.toNat ∧ bl p.toNat ≤ 13
  · obtain ⟨h1, h2, h3, h4, h5⟩ := h
    obtain ⟨p, rfl⟩ := Int.eq_ofNat_of_zero_le h1
    rw [Int.toNat_natCast] at h4 h5
    obtain ⟨r, _, _, _, _, hk⟩ := order_at h4 h5 (by omega)
    rw [(hk 10000 (by omega)).1, (hk 10000 (by omega)).2]
    simp
  · rw [(order_no p h 10000 (by omega)).1, (order_no p h 10000 (by omega)).2]
    simp
end Go.Proofs.Ytcdobojoijmaaaa.Pure
