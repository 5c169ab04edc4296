/- What the laws' helpers on graphs answer. -/
import Derived.Test.YtcdobojoijmaaaaLaw
import Derived.Test.YtcdobojoijmaaaaPx7
namespace Go.Proofs.Ytcdobojoijmaaaa.Lw
open Go.RowKit Go.Proofs.Ytcdobojoijmaaaa.P Go.Proofs.YtcdobojoijmaaaaW.PrintWords Go.Proofs.YtcdobojoijmaaaaW.PrintLast Go.Proofs.YtcdobojoijmaaaaW.PrintMore
set_option linter.unusedVariables false
set_option linter.unusedSimpArgs false

theorem eqGraph_ev (l : List Int) (b : Bool) (hl : l.length ≤ 4611686018427387904) : Ev (fun k => laws_eqGraph.f k l b l b) true := by
  obtain ⟨K, h⟩ := eqIntS_ev l hl
  refine ⟨K, fun k hk => ?_⟩
  show laws_eqGraph.f k l b l b = _
  unfold laws_eqGraph.f
  have := h k hk
  simp only at this
  rw [this]
  simp
theorem markGraph_ev (l : List Int) (b : Bool) (a : Int) (ha : 0 ≤ a) (hb : a + l.length ≤ 4611686018427387904) : Ev (fun k => laws_markGraph.f k l b a) (a + (l.length : Int), marks a l.length) := by
  obtain ⟨K, h⟩ := markIntS_ev l a ha hb
  refine ⟨K, fun k hk => ?_⟩
  show laws_markGraph.f k l b a = _
  unfold laws_markGraph.f
  have := h k hk
  simp only at this
  rw [this]
  simp
theorem heldGraph_ev (a : Int) (n : Nat) (b : Bool) (ha : 0 ≤ a) (hb : a + n ≤ 4611686018427387904) : Ev (fun k => laws_heldGraph.f k (marks a n) b a) (a + (n : Int)) := by
  obtain ⟨K, h⟩ := heldIntS_ev a n ha hb
  refine ⟨K, fun k hk => ?_⟩
  show laws_heldGraph.f k (marks a n) b a = _
  unfold laws_heldGraph.f
  have := h k hk
  simp only at this
  rw [this]
  simp only [Option.bind_some]
  rw [if_neg (by omega)]
end Go.Proofs.Ytcdobojoijmaaaa.Lw
