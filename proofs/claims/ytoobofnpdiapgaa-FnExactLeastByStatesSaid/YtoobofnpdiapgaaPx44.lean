-- Written by a program of this session (wip/mp.py), which runs the kit's print with contracts of the session's own.
import Derived.Test.YtoobofnpdiapgaaPx0
import Derived.Test.YtoobofnpdiapgaaPx1
namespace Go.Proofs.Ytoobofnpdiapgaa.P
open Go.RowKit Go.Proofs.YtoobofnpdiapgaaW.PrintWords Go.Proofs.YtoobofnpdiapgaaW.PrintLast Go.Proofs.YtoobofnpdiapgaaW.PrintMore
attribute [local go_sem] max2_int min2_int max_two min_two max_three min_three max_four min_four -- for this text's walks alone
set_option linter.unusedVariables false
set_option linter.unusedSimpArgs false
/-! ### spec_paEven: function 62 -/
def spec_paEven.l0:Nat→Int→List (List Int)→Int→Int→Option (Bool)
 |0,_,_,_,_=>none
 |k+1,x5,x8,x9,x10=>if x10< x9 then (if 0≤x10 then (if x10< (x8.length:Int) then (if 0< ((rd_L1 x8 x10).length:Int) then (if 0≤(rd (rd_L1 x8 x10) 0) then (if 1< ((rd_L1 x8 x10).length:Int) then (if 0≤(rd (rd_L1 x8 x10) 1) then (spec_paEven.l0 k (Go.bits .xor .i64 x5 (Go.bits .or .i64 (shl .i64 1 (rd (rd_L1 x8 x10) 0)) (shl .i64 1 (rd (rd_L1 x8 x10) 1)))) x8 x9 (wrap64 (x10+1))) else (none)) else (none)) else (none)) else (none)) else (none)) else (none)) else (some (x5==0))
def spec_paEven.f (k:Nat) (l0_0:List Int) (a0_1:Bool) (l1:List (List Int)):Option (Bool):=spec_paEven.l0 k 0 l1 (l1.length:Int) 0
/-! ### spec_grEdges: function 91 -/
mutual
def spec_grEdges.l0:Nat→List (List Int)→List Int→Int→Int→List Int→Bool→Option ((List (List Int)))
 |0,_,_,_,_,_,_=>none
 |k+1,x3,x8,x9,x10,x614000,x614001=>if x10< x9 then (if 0≤x10 then (if x10< (x8.length:Int) then (spec_grEdges.l1 k x3 x10 (rd x8 x10) (wrap64 (x10+1)) x8 x9 x10 x614000 x614001) else (none)) else (none)) else (some x3)
def spec_grEdges.l1:Nat→List (List Int)→Int→Int→Int→List Int→Int→Int→List Int→Bool→Option ((List (List Int)))
 |0,_,_,_,_,_,_,_,_,_=>none
 |k+1,x3,x4,x5,x6,x8,x9,x10,x614000,x614001=>if x6< (x614000.length:Int) then ((spec_grIn.f x5 x6).bind fun t615=>(if t615=true then (if x3.length< 5864062014805 then (spec_grEdges.l1 k (x3++[(([x4,x6]:List Int))]) x4 x5 (wrap64 (x6+1)) x8 x9 x10 x614000 x614001) else (none)) else (spec_grEdges.l1 k x3 x4 x5 (wrap64 (x6+1)) x8 x9 x10 x614000 x614001))) else (spec_grEdges.l0 k x3 x8 x9 (wrap64 (x10+1)) x614000 x614001)
end
def spec_grEdges.f (k:Nat) (l0_0:List Int) (a0_1:Bool):Option ((List (List Int))):=spec_grEdges.l0 k ([]:List (List Int)) l0_0 (l0_0.length:Int) 0 l0_0 a0_1
/-! ### spec_paCut: function 63 -/
def spec_paCut.l0:Nat→Int→List (List Int)→List (List Int)→Int→Int→Option ((List (List Int)))
 |0,_,_,_,_,_=>none
 |k+1,x1,x5,x9,x10,x11=>if x11< x10 then (if 0≤x11 then (if x11< (x9.length:Int) then (if 0< ((rd_L1 x9 x11).length:Int) then ((spec_grIn.f x1 (rd (rd_L1 x9 x11) 0)).bind fun t628=>(if 1< ((rd_L1 x9 x11).length:Int) then ((spec_grIn.f x1 (rd (rd_L1 x9 x11) 1)).bind fun t630=>(if (t628 !=t630)=true then (if x5.length< 5864062014805 then (spec_paCut.l0 k x1 (x5++[(([rd (rd_L1 x9 x11) 0,rd (rd_L1 x9 x11) 1]:List Int))]) x9 x10 (wrap64 (x11+1))) else (none)) else (spec_paCut.l0 k x1 x5 x9 x10 (wrap64 (x11+1))))) else (none))) else (none)) else (none)) else (none)) else (some x5)
def spec_paCut.f (k:Nat) (l0_0:List Int) (a0_1:Bool) (a1:Int):Option ((List (List Int))):=(spec_grEdges.f k l0_0 a0_1).bind fun t623=>(spec_paCut.l0 k a1 ([]:List (List Int)) t623 (t623.length:Int) 0)
def spec_paCut.T5:Bool × List (List Nat × List Nat):=(true,[([],[]),([],[]),([1],[1]),([2],[2]),([0,3],[0,3]),([],[]),([],[]),([6],[6]),([7],[7]),([5,8,4],[5,8]),([4,9],[4,9])])
def spec_paCut.B5:List Nat:=[0,0,2,6,15,0,0,64,192,511,1023]
def spec_paCut.T6:Bool × List (List Nat × List Nat):=(true,[([],[]),([],[]),([1],[1]),([2],[2]),([],[]),([4],[4]),([5],[5]),([3,6],[3,6]),([7],[7]),([0,8],[0,8]),([9,9,0,1,2,3,4,5,6,7,8,9],[0,9])])
def spec_paCut.B6:List Nat:=[0,0,2,6,0,16,48,126,254,511,1023]
/-! ### spec_paParts: function 64 -/
mutual
def spec_paParts.l0:Nat→List Int→Int→Int→Int→List Int→Bool→Option (List Int)
 |0,_,_,_,_,_,_=>none
 |k+1,x3,x4,x12,x13,x640000,x640001=>if x13< x12 then ((spec_grIn.f x4 x13).bind fun t640=>(if t640=true then (spec_paParts.l0 k x3 x4 x12 (wrap64 (x13+1)) x640000 x640001) else (if 0≤x13 then (spec_paParts.l1 k x3 x4 (shl .i64 1 x13) 0 x12 x13 x640000 x640001) else (none)))) else (some x3)
def spec_paParts.l1:Nat→List Int→Int→Int→Int→Int→Int→List Int→Bool→Option (List Int)
 |0,_,_,_,_,_,_,_,_=>none
 |k+1,x3,x4,x6,x7,x12,x13,x640000,x640001=>if x7< (x640000.length:Int) then (spec_paParts.l2 k x3 x4 x6 x7 x12 x13 x640000 (x640000.length:Int) 0 x640000 x640001) else (if x3.length< 17592186044416 then (spec_paParts.l0 k (x3++[x6]) (Go.bits .or .i64 x4 x6) x12 (wrap64 (x13+1)) x640000 x640001) else (none))
def spec_paParts.l2:Nat→List Int→Int→Int→Int→Int→Int→List Int→Int→Int→List Int→Bool→Option (List Int)
 |0,_,_,_,_,_,_,_,_,_,_,_=>none
 |k+1,x3,x4,x6,x7,x12,x13,x29,x30,x31,x640000,x640001=>if x31< x30 then (if 0≤x31 then (if x31< (x29.length:Int) then ((spec_grIn.f x6 x31).bind fun t645=>(if t645=true then (spec_paParts.l2 k x3 x4 (Go.bits .or .i64 x6 (rd x29 x31)) x7 x12 x13 x29 x30 (wrap64 (x31+1)) x640000 x640001) else (spec_paParts.l2 k x3 x4 x6 x7 x12 x13 x29 x30 (wrap64 (x31+1)) x640000 x640001))) else (none)) else (none)) else (spec_paParts.l1 k x3 x4 x6 (wrap64 (x7+1)) x12 x13 x640000 x640001)
end
def spec_paParts.f (k:Nat) (l0_0:List Int) (a0_1:Bool):Option (List Int):=spec_paParts.l0 k ([]:List Int) 0 (l0_0.length:Int) 0 l0_0 a0_1
end Go.Proofs.Ytoobofnpdiapgaa.P
