-- Written by a program of this session (wip/mp.py), which runs the kit's print with contracts of the session's own.
import Derived.Test.YtoobofnpdiapgaaPx0
import Derived.Test.YtoobofnpdiapgaaPx1
import Derived.Test.YtoobofnpdiapgaaPx3
namespace Go.Proofs.Ytoobofnpdiapgaa.P
open Go.RowKit Go.Proofs.YtoobofnpdiapgaaW.PrintWords Go.Proofs.YtoobofnpdiapgaaW.PrintLast Go.Proofs.YtoobofnpdiapgaaW.PrintMore
attribute [local go_sem] max2_int min2_int max_two min_two max_three min_three max_four min_four -- for this text's walks alone
set_option linter.unusedVariables false
set_option linter.unusedSimpArgs false
/-! ### spec_paDegree: function 73 -/
def spec_paDegree.f (k:Nat) (l0_0:List Int) (a0_1:Bool) (a1:Int) (a2:Int):Option (Int):=if 0≤a2 then (if a2< (l0_0.length:Int) then ((spec_grCount.f k (Go.bits .and .i64 (rd l0_0 a2) a1)).bind fun t132=>(some t132)) else (none)) else (none)
/-! ### spec_paAll: function 46 -/
def spec_paAll.l0:Nat→Int→Int→Int→Int→List Int→Bool→Option (Bool)
 |0,_,_,_,_,_,_=>none
 |k+1,x1,x2,x10,x11,x134000,x134001=>if x11< x10 then ((spec_grIn.f x1 x11).bind fun t134=>(if t134=true then ((spec_paDegree.f k x134000 x134001 x1 x11).bind fun t135=>(if (Int.tmod t135 2)=x2 then (spec_paAll.l0 k x1 x2 x10 (wrap64 (x11+1)) x134000 x134001) else (some false))) else (spec_paAll.l0 k x1 x2 x10 (wrap64 (x11+1)) x134000 x134001))) else (some true)
def spec_paAll.f (k:Nat) (l0_0:List Int) (a0_1:Bool) (a1:Int) (a2:Int):Option (Bool):=spec_paAll.l0 k a1 a2 (l0_0.length:Int) 0 l0_0 a0_1
/-! ### spec_EvenSplits: function 15 -/
def spec_EvenSplits.l0:Nat→Int→List Int→Int→List Int→Bool→Option (List Int × Bool)
 |0,_,_,_,_,_=>none
 |k+1,x6,x7,x8,x137000,x137001=>if x8≤x6 then ((spec_paAll.f k x137000 x137001 x8 0).bind fun t140=>(if t140=true then ((spec_paAll.f k x137000 x137001 (Go.bits .andNot .i64 x6 x8) 0).bind fun t141=>(if t141=true then (if x7.length< 17592186044416 then (spec_EvenSplits.l0 k x6 (x7++[x8]) (wrap64 (x8+1)) x137000 x137001) else (none)) else (spec_EvenSplits.l0 k x6 x7 (wrap64 (x8+1)) x137000 x137001))) else (spec_EvenSplits.l0 k x6 x7 (wrap64 (x8+1)) x137000 x137001))) else (some (x7,true))
def spec_EvenSplits.f (k:Nat) (l0_0:List Int) (a0_1:Bool):Option (List Int × Bool):=(spec_grGood.f k l0_0 a0_1).bind fun t137=>(if t137=true then ((spec_paSplit.f k l0_0 a0_1 false).bind fun bt138=>(if bt138.1>300 then (some (([]:List Int),false)) else (spec_EvenSplits.l0 k (wrap64 ((shl .i64 1 (l0_0.length:Int)) - 1)) ([]:List Int) 0 l0_0 a0_1))) else (some (([]:List Int),false)))
/-! ### laws_markIntS: function 21 -/
def laws_markIntS.l0:Nat→List Int→Int→Int→Option (Int × List Int)
 |0,_,_,_=>none
 |k+1,x0,x1,x5=>if x5< (x0.length:Int) then (if 0≤x5 then (laws_markIntS.l0 k (x0.set (x5:Int).toNat x1) (wrap64 (x1+1)) (wrap64 (x5+1))) else (none)) else (some (x1,x0))
def laws_markIntS.f (k:Nat) (l0:List Int) (a1:Int):Option (Int × List Int):=laws_markIntS.l0 k l0 a1 0
/-! ### laws_markGraph: function 20 -/
def laws_markGraph.f (k:Nat) (l0_0:List Int) (a0_1:Bool) (a1:Int):Option (Int × List Int):=(laws_markIntS.f k l0_0 a1).bind fun bt312=>(some (bt312.1,bt312.2))
/-! ### laws_heldIntS: function 22 -/
def laws_heldIntS.l0:Nat→List Int→Int→Int→Option (Int)
 |0,_,_,_=>none
 |k+1,x0,x1,x5=>if x5< (x0.length:Int) then (if 0≤x5 then (if (rd x0 x5)=x1 then (laws_heldIntS.l0 k x0 (wrap64 (x1+1)) (wrap64 (x5+1))) else (some (-1))) else (none)) else (some x1)
def laws_heldIntS.f (k:Nat) (l0:List Int) (a1:Int):Option (Int):=laws_heldIntS.l0 k l0 a1 0
end Go.Proofs.Ytoobofnpdiapgaa.P
