-- Written by a program of this session (wip/mp.py), which runs the kit's print with contracts of the session's own.
import Derived.Test.YtoobofnpdiapgaaPx0
import Derived.Test.YtoobofnpdiapgaaPx5
namespace Go.Proofs.Ytoobofnpdiapgaa.P
open Go.RowKit Go.Proofs.YtoobofnpdiapgaaW.PrintWords Go.Proofs.YtoobofnpdiapgaaW.PrintLast Go.Proofs.YtoobofnpdiapgaaW.PrintMore
attribute [local go_sem] max2_int min2_int max_two min_two max_three min_three max_four min_four -- for this text's walks alone
set_option linter.unusedVariables false
set_option linter.unusedSimpArgs false
/-! ### spec_grCount: function 93 -/
def spec_grCount.l0:Nat→Int→Int→Option (Int)
 |0,_,_=>none
 |k+1,x0,x3=>if x0>0 then (spec_grCount.l0 k (wrap64 (Int.tdiv x0 2)) (wrap64 (x3+(Int.tmod x0 2)))) else (some x3)
def spec_grCount.f (k:Nat) (a0:Int):Option (Int):=spec_grCount.l0 k a0 0
/-! ### spec_paEquations: function 71 -/
def spec_paEquations.l0:Nat→Bool→List Int→Int→List Int→Int→Int→Option (List Int × Int)
 |0,_,_,_,_,_,_=>none
 |k+1,x1,x6,x7,x11,x12,x13=>if x13< x12 then (if 0≤x13 then (if x13< (x11.length:Int) then ((spec_grCount.f k (rd x11 x13)).bind fun t115=>(if (((Int.tmod t115 2)==1) !=x1)=true then (if x6.length< 17592186044416 then (spec_paEquations.l0 k x1 (x6++[Go.bits .or .i64 (rd x11 x13) (shl .i64 1 x13)]) (Go.bits .or .i64 x7 (shl .i64 1 x13)) x11 x12 (wrap64 (x13+1))) else (none)) else (if x6.length< 17592186044416 then (spec_paEquations.l0 k x1 (x6++[rd x11 x13]) x7 x11 x12 (wrap64 (x13+1))) else (none)))) else (none)) else (none)) else (some (x6,x7))
def spec_paEquations.f (k:Nat) (l0_0:List Int) (a0_1:Bool) (a1:Bool):Option (List Int × Int):=spec_paEquations.l0 k a1 ([]:List Int) 0 l0_0 (l0_0.length:Int) 0
/-! ### spec_paSplit: function 45 -/
def spec_paSplit.f (k:Nat) (l0_0:List Int) (a0_1:Bool) (a1:Bool):Option (Int × Int):=(spec_paEquations.f k l0_0 a0_1 a1).bind fun bt123=>((spec_paSolutions.f (l0_0.length:Int) bt123.1 bt123.2).bind fun bt127=>(if 0≤bt127.1 then (some (shl .i64 1 bt127.1,bt127.2.1)) else (none)))
end Go.Proofs.Ytoobofnpdiapgaa.P
