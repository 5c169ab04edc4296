/- What the laws' helpers on graphs answer. -/
import Derived.Test.YtbbdjoahdbjljaaLaw
import Derived.Test.YtbbdjoahdbjljaaPx11
import Derived.Test.YtbbdjoahdbjljaaPx2
namespace Go.Proofs.Ytbbdjoahdbjljaa.Lw
open Go.RowKit Go.Proofs.Ytbbdjoahdbjljaa.P Go.Proofs.YtbbdjoahdbjljaaW.PrintWords Go.Proofs.YtbbdjoahdbjljaaW.PrintLast Go.Proofs.YtbbdjoahdbjljaaW.PrintMore
set_option linter.unusedVariables false
set_option linter.unusedSimpArgs false

theorem eqGraph_ev (l : List Int) (b : Bool) (hl : l.length ≤ 4611686018427387904) : Ev (fun k => laws_eqGraph.f k l b l b) true := by
  obtain ⟨K, h⟩ := eqIntS_ev l hl
  refine ⟨K, fun k hk => ?_⟩
  show laws_eqGraph.f k l b l b = _
  unfold laws_eqGraph.f
  have := h k hk
  simp only at this
  rw [this]
  simp
theorem markGraph_ev (l : List Int) (b : Bool) (a : Int) (ha : 0 ≤ a) (hb : a + l.length ≤ 4611686018427387904) : Ev (fun k => laws_markGraph.f k l b a) (a + (l.length : Int), marks a l.length) := by
  obtain ⟨K, h⟩ := markIntS_ev l a ha hb
  refine ⟨K, fun k hk => ?_⟩
  show laws_markGraph.f k l b a = _
  unfold laws_markGraph.f
  have := h k hk
  simp only at this
  rw [this]
  simp
end Go.Proofs.Ytbbdjoahdbjljaa.Lw
