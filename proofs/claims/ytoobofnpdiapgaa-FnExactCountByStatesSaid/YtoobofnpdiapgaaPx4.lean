-- Written by a program of this session (wip/mp.py), which runs the kit's print with contracts of the session's own.
import Derived.Test.YtoobofnpdiapgaaPx0
namespace Go.Proofs.Ytoobofnpdiapgaa.P
open Go.RowKit Go.Proofs.YtoobofnpdiapgaaW.PrintWords Go.Proofs.YtoobofnpdiapgaaW.PrintLast Go.Proofs.YtoobofnpdiapgaaW.PrintMore
attribute [local go_sem] max2_int min2_int max_two min_two max_three min_three max_four min_four -- for this text's walks alone
set_option linter.unusedVariables false
set_option linter.unusedSimpArgs false
/-! ### spec_soTop: function 66 -/
def spec_soTop.l0:Nat→Int→Int→Option (Int)
 |0,_,_=>none
 |k+1,x0,x3=>if x0>0 then (spec_soTop.l0 k (wrap64 (Int.tdiv x0 2)) (wrap64 (x3+1))) else (some x3)
def spec_soTop.f (k:Nat) (a0:Int):Option (Int):=spec_soTop.l0 k a0 (-1)
end Go.Proofs.Ytoobofnpdiapgaa.P
