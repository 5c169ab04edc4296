-- Written by a program of this session (wip/mp.py), which runs the kit's print with contracts of the session's own.
import Derived.Test.YtigkmdlbijdoaaaDoorProg
import Derived.Below
import Derived.Deep.Draws
import Derived.Deep.AppendLies
import Derived.Maps.AppendAt
import Derived.OwnWalk
import Derived.Laws.BytesArg
import Derived.Laws.MakeOwn
import Derived.Laws.OwnMore
import Derived.Deep.OwnRows
import Derived.Tactics
import Derived.Lib.ConvBytes
import Derived.Laws.Slices
import Derived.WalkKit
import Derived.KernelRfl
import Derived.RowKit3
import Derived.Deep.LoopGhost
import Derived.Deep.QuietTactic
import Derived.BigQuiet
import Derived.WideLaws
import Derived.Deep.DeepCutAuto
import Derived.Deep.CutBlock
import Derived.Deep.RegionHeld3
import Derived.Laws.Rows
import Derived.Lib.AppendStr
import Derived.ArgAppend
import Derived.Laws.IdiomCopy
import Derived.OrdersHeld
import Derived.Laws.BitsLemmas
import Derived.RowKit
import Derived.Lib.Hide
import Derived.Shelf.Abstract
import Derived.Lib.Strings
import Derived.Lib.Slices
import Derived.Lib.Small
import Derived.Lib.Walk
import Derived.Lib.BitFns
import Derived.Test.YtigkmdlbijdoaaaDoorShelf
import Derived.Test.YtigkmdlbijdoaaaDoorWWords
import Derived.Test.YtigkmdlbijdoaaaDoorWLast
import Derived.Test.YtigkmdlbijdoaaaDoorWTab
import Derived.Test.YtigkmdlbijdoaaaDoorWFour
import Derived.Test.YtigkmdlbijdoaaaDoorWQPut
import Derived.Test.YtigkmdlbijdoaaaDoorWApart
import Derived.Test.YtigkmdlbijdoaaaDoorWArr
import Derived.Test.YtigkmdlbijdoaaaDoorWZeros
import Derived.Test.YtigkmdlbijdoaaaDoorWFoot
import Derived.Test.YtigkmdlbijdoaaaDoorWKept
import Derived.Test.YtigkmdlbijdoaaaDoorWShare
import Derived.Test.YtigkmdlbijdoaaaDoorWN
import Derived.Test.YtigkmdlbijdoaaaDoorWFootNe
import Derived.Test.YtigkmdlbijdoaaaDoorWAt
import Derived.Test.YtigkmdlbijdoaaaDoorWEqStruct
import Derived.Test.YtigkmdlbijdoaaaDoorWRepsOne
import Derived.Test.YtigkmdlbijdoaaaDoorWInv
import Derived.Test.YtigkmdlbijdoaaaDoorWInvWords
import Derived.Test.YtigkmdlbijdoaaaDoorWGuard
import Derived.Test.YtigkmdlbijdoaaaDoorWNEv
import Derived.Test.YtigkmdlbijdoaaaDoorWMore
namespace Go.Proofs.YtigkmdlbijdoaaaDoor.P
open Go.RowKit Go.Proofs.YtigkmdlbijdoaaaDoorW.PrintWords Go.Proofs.YtigkmdlbijdoaaaDoorW.PrintLast Go.Proofs.YtigkmdlbijdoaaaDoorW.PrintMore
attribute [local go_sem] max2_int min2_int max_two min_two max_three min_three max_four min_four   -- for this text's walks alone
set_option linter.unusedVariables false
set_option linter.unusedSimpArgs false



def errW : Option Int → Value
 | none => .nilIface
 | some c => .iface 61 (.int .i64 c)
theorem errW_none : errW none = .nilIface := rfl
theorem errW_some (c : Int) : errW (some c) = .iface 61 (.int .i64 c) := rfl

theorem info3 : (Tryd.prog.info? 3).map (fun i => (i.zero, i.size, i.bytes)) = some (some (.int .i64 0), 1, 8) := by kernel_rfl
theorem info5 : (Tryd.prog.info? 5).map (fun i => (i.zero, i.size, i.bytes)) = some (some (.int .u8 0), 1, 1) := by kernel_rfl
theorem info9 : (Tryd.prog.info? 9).map (fun i => (i.zero, i.size, i.bytes)) = some (some (.string ⟨#[]⟩), 1, 16) := by kernel_rfl
-- the values' own types

end Go.Proofs.YtigkmdlbijdoaaaDoor.P
