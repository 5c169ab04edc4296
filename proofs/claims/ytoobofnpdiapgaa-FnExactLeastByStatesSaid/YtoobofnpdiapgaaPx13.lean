-- Written by a program of this session (wip/mp.py), which runs the kit's print with contracts of the session's own.
import Derived.Test.YtoobofnpdiapgaaPx0
import Derived.Test.YtoobofnpdiapgaaPx7
import Derived.Test.YtoobofnpdiapgaaPx10
import Derived.Test.YtoobofnpdiapgaaPx12
namespace Go.Proofs.Ytoobofnpdiapgaa.P
open Go.RowKit Go.Proofs.YtoobofnpdiapgaaW.PrintWords Go.Proofs.YtoobofnpdiapgaaW.PrintLast Go.Proofs.YtoobofnpdiapgaaW.PrintMore
attribute [local go_sem] max2_int min2_int max_two min_two max_three min_three max_four min_four   -- for this text's walks alone
set_option linter.unusedVariables false
set_option linter.unusedSimpArgs false
/-! ### impl_Graph_splits: function 50 -/
-- BY HAND
section
open Go.Proofs.Ytoobofnpdiapgaa.Bk Go.Shelf
/-- What has to be solved for splits: effects and what is due, behind the first i buttons. -/
def splF (rest : Int) : List Int → Nat → List Int → Int → Option (List Int × Int)
  | [], _, eff, due => some (eff, due)
  | n :: ns, i, eff, due => (impl_count.f n).bind fun c => if eff.length < 1000000 then
      (if (Int.tmod (wrap64 (c + rest)) 2 == 1) = true then splF rest ns (i + 1) (eff ++ [Go.bits .or .i64 n (shl .i64 1 (i : Int))]) (Go.bits .or .i64 due (shl .i64 1 (i : Int)))
       else splF rest ns (i + 1) (eff ++ [n]) due) else none
end
end Go.Proofs.Ytoobofnpdiapgaa.P
