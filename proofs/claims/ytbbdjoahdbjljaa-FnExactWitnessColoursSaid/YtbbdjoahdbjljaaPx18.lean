-- Written by a program of this session (wip/mp.py), which runs the kit's print with contracts of the session's own.
import Derived.Test.YtbbdjoahdbjljaaPx0
namespace Go.Proofs.Ytbbdjoahdbjljaa.P
open Go.RowKit Go.Proofs.YtbbdjoahdbjljaaW.PrintWords Go.Proofs.YtbbdjoahdbjljaaW.PrintLast Go.Proofs.YtbbdjoahdbjljaaW.PrintMore
attribute [local go_sem] max2_int min2_int max_two min_two max_three min_three max_four min_four   -- for this text's walks alone
set_option linter.unusedVariables false
set_option linter.unusedSimpArgs false
/-! ### pseudo_rowAt: function 122 -/
-- BY HAND
def pseudo_rowAt.f (l0 : List (List Int)) (a1 : Int) : Option (List Int) := if 0 ≤ a1 then if a1 < (l0.length : Int) then some (rd_L1 l0 a1) else none else none
end Go.Proofs.Ytbbdjoahdbjljaa.P
