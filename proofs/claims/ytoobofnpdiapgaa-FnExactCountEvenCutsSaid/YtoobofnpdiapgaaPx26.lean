-- Written by a program of this session (wip/mp.py), which runs the kit's print with contracts of the session's own.
import Derived.Test.YtoobofnpdiapgaaPx0
import Derived.Test.YtoobofnpdiapgaaPx1
import Derived.Test.YtoobofnpdiapgaaPx28
namespace Go.Proofs.Ytoobofnpdiapgaa.P
open Go.RowKit Go.Proofs.YtoobofnpdiapgaaW.PrintWords Go.Proofs.YtoobofnpdiapgaaW.PrintLast Go.Proofs.YtoobofnpdiapgaaW.PrintMore
attribute [local go_sem] max2_int min2_int max_two min_two max_three min_three max_four min_four -- for this text's walks alone
set_option linter.unusedVariables false
set_option linter.unusedSimpArgs false
/-! ### impl_Graph_edges: function 85 -/
mutual
def impl_Graph_edges.l0:Nat→List (List Int)→List Int→Int→Int→List Int→Bool→Option ((List (List Int)))
 |0,_,_,_,_,_,_=>none
 |k+1,x3,x9,x10,x11,x426000,x426001=>if x11< x10 then (if 0≤x11 then (if x11< (x9.length:Int) then (impl_Graph_edges.l1 k x3 x11 (rd x9 x11) (wrap64 (x11+1)) x9 x10 x11 x426000 x426001) else (none)) else (none)) else (some x3)
def impl_Graph_edges.l1:Nat→List (List Int)→Int→Int→Int→List Int→Int→Int→List Int→Bool→Option ((List (List Int)))
 |0,_,_,_,_,_,_,_,_,_=>none
 |k+1,x3,x4,x5,x6,x9,x10,x11,x426000,x426001=>if x6< (x426000.length:Int) then ((impl_has.f x5 x6).bind fun t430=>(if t430=true then (if x3.length< 5864062014805 then (impl_Graph_edges.l1 k (x3++[(([x4,x6]:List Int))]) x4 x5 (wrap64 (x6+1)) x9 x10 x11 x426000 x426001) else (none)) else (impl_Graph_edges.l1 k x3 x4 x5 (wrap64 (x6+1)) x9 x10 x11 x426000 x426001))) else (impl_Graph_edges.l0 k x3 x9 x10 (wrap64 (x11+1)) x426000 x426001)
end
def impl_Graph_edges.f (k:Nat) (l0_0:List Int) (a0_1:Bool):Option ((List (List Int))):=impl_Graph_edges.l0 k (([]:List (List Int))) l0_0 (l0_0.length:Int) 0 l0_0 a0_1
/-! ### impl_isForest: function 56 -/
def impl_isForest.f (k:Nat) (l0_0:List Int) (a0_1:Bool):Option (Bool):=(impl_isGraph.f k l0_0 a0_1).bind fun t438=>(if t438=true then ((impl_Graph_edges.f k l0_0 a0_1).bind fun t439=>((impl_Graph_parts.f k l0_0 a0_1).bind fun t442=>(some ((wrap64 ((t439.length:Int)+(t442.length:Int)))==(l0_0.length:Int))))) else (some false))
def impl_isForest.T1:Bool × List (List Nat × List Nat):=(true,[([],[]),([0],[0]),([1,1],[1]),([2],[2]),([3,2,2],[2,3]),([4,2],[2,4]),([2],[2]),([6,4,2],[2,6]),([7,2],[2,7]),([5,8,2],[2,5,8]),([2],[2]),([10,2],[2,10]),([11,2],[2,11]),([9,12,2],[2,9,12]),([2,13],[2,13]),([14,7,0,1,2,3,4,5,6,7,8,9,10,11,12,13,14],[14])])
def impl_isForest.B1:List Nat:=[0,1,3,7,15,31,7,95,223,511,7,1031,3079,8191,16383,32767]
end Go.Proofs.Ytoobofnpdiapgaa.P
