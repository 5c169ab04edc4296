/- The program's BinaryTree returns what the reference's returns. No condition. -/
import Derived.Test.YtcdobojoijmaaaaPx1
import Derived.Test.YtcdobojoijmaaaaPx6
import Derived.Test.YtcdobojoijmaaaaPx7
namespace Go.Proofs.Ytcdobojoijmaaaa.Pure
open Go.RowKit Go.Proofs.Ytcdobojoijmaaaa.P Go.Proofs.YtcdobojoijmaaaaW.PrintWords Go.Proofs.YtcdobojoijmaaaaW.PrintLast
set_option linter.unusedVariables false
set_option linter.unusedSimpArgs false

theorem FnExactBinaryTree : laws_FnExactBinaryTree.Pure := by
  intro n own hn
  refine ⟨60, ?_⟩
  by_cases h : 1 ≤ n ∧ n ≤ 4
  · have h4 : n = 1 ∨ n = 2 ∨ n = 3 ∨ n = 4 := by omega
    clear hn h
    rcases h4 with rfl | rfl | rfl | rfl <;> cases own <;> decide +kernel
  · have hs : spec_l1In.f n 1 4 = some false := by
      unfold spec_l1In.f
      by_cases c : n ≥ 1
      · rw [if_pos c]; simp; omega
      · rw [if_neg c]
    have hi : impl_in.f n 1 4 = some false := by
      unfold impl_in.f
      by_cases c : 1 ≤ n
      · rw [if_pos c]; simp; omega
      · rw [if_neg c]
    have key : ∀ k, spec_BinaryTree.f k n own = some ([], false, false) := fun k => by unfold spec_BinaryTree.f; rw [hs]; simp
    have key2 : ∀ k, impl_BinaryTree.f k n own = some ([], false, false) := fun k => by unfold impl_BinaryTree.f; rw [hi]; simp
    have e : laws_FnExactBinaryTree.f 60 n own = (laws_eqGraph.f 60 [] false [] false).bind fun t => if t = true then laws_FnExactBinaryTree.j0 60 n own false (false != false) [] false [] false else laws_FnExactBinaryTree.j0 60 n own false true [] false [] false := by
      unfold laws_FnExactBinaryTree.f; rw [key, key2]; rfl
    have e1 : laws_eqGraph.f 60 [] false [] false = some true := by decide +kernel
    have e2 : laws_FnExactBinaryTree.j0 60 n own false false [] false [] false = some true := by
      rw [laws_FnExactBinaryTree.j0, key2]
      have a1 : laws_markGraph.f 59 [] false 1 = some (1, []) := by decide +kernel
      have a2 : laws_heldGraph.f 59 [] false 1 = some 1 := by decide +kernel
      have a3 : laws_eqGraph.f 59 [] false [] false = some true := by decide +kernel
      have a4 : laws_FnExactBinaryTree.j1 59 1 false [] false = some true := by decide +kernel
      simp [a1, a2, a3, a4]
    rw [e, e1]
    exact e2
end Go.Proofs.Ytcdobojoijmaaaa.Pure
