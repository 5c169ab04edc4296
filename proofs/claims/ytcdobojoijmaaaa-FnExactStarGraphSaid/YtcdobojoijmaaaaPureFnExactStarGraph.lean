/- The program's StarGraph returns what the reference's returns. No condition. -/
import Derived.Test.YtcdobojoijmaaaaPx1
import Derived.Test.YtcdobojoijmaaaaPx7
import Derived.Test.YtcdobojoijmaaaaPx8
namespace Go.Proofs.Ytcdobojoijmaaaa.Pure
open Go.RowKit Go.Proofs.Ytcdobojoijmaaaa.P Go.Proofs.YtcdobojoijmaaaaW.PrintWords Go.Proofs.YtcdobojoijmaaaaW.PrintLast
set_option linter.unusedVariables false
set_option linter.unusedSimpArgs false

theorem FnExactStarGraph : laws_FnExactStarGraph.Pure := by
  intro n own hn
  refine ⟨60, ?_⟩
  by_cases h : 1 ≤ n ∧ n ≤ 16
  · have h4 : n = 1 ∨ n = 2 ∨ n = 3 ∨ n = 4 ∨ n = 5 ∨ n = 6 ∨ n = 7 ∨ n = 8 ∨ n = 9 ∨ n = 10 ∨ n = 11 ∨ n = 12 ∨ n = 13 ∨ n = 14 ∨ n = 15 ∨ n = 16 := by omega
    clear hn h
    rcases h4 with rfl | rfl | rfl | rfl | rfl | rfl | rfl | rfl | rfl | rfl | rfl | rfl | rfl | rfl | rfl | rfl <;> cases own <;> decide +kernel
  · have hs : spec_grSize.f n = some false := by
      unfold spec_grSize.f spec_l1In.f
      by_cases c : n ≥ 1
      · rw [if_pos c]; simp; omega
      · rw [if_neg c]; rfl
    have hi : impl_isCount.f n = some false := by
      unfold impl_isCount.f impl_in.f
      by_cases c : 1 ≤ n
      · rw [if_pos c]; simp; omega
      · rw [if_neg c]; rfl
    have key : ∀ k, spec_StarGraph.f k n own = some ([], false, false) := fun k => by unfold spec_StarGraph.f; rw [hs]; simp
    have key2 : ∀ k, impl_StarGraph.f k n own = some ([], false, false) := fun k => by unfold impl_StarGraph.f; rw [hi]; simp
    have e : laws_FnExactStarGraph.f 60 n own = (laws_eqGraph.f 60 [] false [] false).bind fun t => if t = true then laws_FnExactStarGraph.j0 60 n own false (false != false) [] false [] false else laws_FnExactStarGraph.j0 60 n own false true [] false [] false := by
      unfold laws_FnExactStarGraph.f; rw [key, key2]; rfl
    have e1 : laws_eqGraph.f 60 [] false [] false = some true := by decide +kernel
    have e2 : laws_FnExactStarGraph.j0 60 n own false false [] false [] false = some true := by
      rw [laws_FnExactStarGraph.j0, key2]
      have a1 : laws_markGraph.f 59 [] false 1 = some (1, []) := by decide +kernel
      have a2 : laws_heldGraph.f 59 [] false 1 = some 1 := by decide +kernel
      have a3 : laws_eqGraph.f 59 [] false [] false = some true := by decide +kernel
      have a4 : laws_FnExactStarGraph.j1 59 1 false [] false = some true := by decide +kernel
      simp [a1, a2, a3, a4]
    rw [e, e1]
    exact e2
end Go.Proofs.Ytcdobojoijmaaaa.Pure
