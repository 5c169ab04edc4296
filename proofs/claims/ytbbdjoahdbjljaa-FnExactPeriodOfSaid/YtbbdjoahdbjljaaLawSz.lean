/- A graph's copy, and its size. -/
import Derived.Test.YtbbdjoahdbjljaaBits
import Derived.Test.YtbbdjoahdbjljaaLawG
import Derived.Test.YtbbdjoahdbjljaaPx1
namespace Go.Proofs.Ytbbdjoahdbjljaa.Gr
open Go.RowKit Go.Proofs.Ytbbdjoahdbjljaa.P Go.Proofs.Ytbbdjoahdbjljaa.Bt Go.Proofs.Ytbbdjoahdbjljaa.Lw Go.Proofs.YtbbdjoahdbjljaaW.PrintWords Go.Proofs.YtbbdjoahdbjljaaW.PrintLast Go.Proofs.YtbbdjoahdbjljaaW.PrintMore
set_option linter.unusedVariables false
set_option linter.unusedSimpArgs false

theorem toGraph_ev (l : List Int) (b : Bool) (hl : l.length ≤ 35184372088832) : Ev (fun k => laws_toGraph.f k l b) (l, b) := by
  obtain ⟨K, h⟩ := toIntS_ev l hl
  refine ⟨K, fun k hk => ?_⟩
  show laws_toGraph.f k l b = _
  unfold laws_toGraph.f
  have := h k hk
  simp only at this
  rw [this]; rfl
theorem szGraph_small (l : List Int) (b : Bool) (h : l.length ≤ 1048576) : laws_szGraph.f l b 1048576 = some (1048576 - (l.length : Int)) := by
  unfold laws_szGraph.f laws_szIntS.f
  rw [Bt.wrap_id (by omega) (by omega), if_neg (by omega)]
  simp only [Option.bind_some]
  rw [if_neg (by omega)]
theorem szGraph_big (l : List Int) (b : Bool) (hl : l.length ≤ 9223372036854775807) (h : ¬ l.length ≤ 1048576) : laws_szGraph.f l b 1048576 = some (-1) := by
  unfold laws_szGraph.f laws_szIntS.f
  rw [Bt.wrap_id (by omega) (by omega), if_pos (by omega)]
  rfl
end Go.Proofs.Ytbbdjoahdbjljaa.Gr
