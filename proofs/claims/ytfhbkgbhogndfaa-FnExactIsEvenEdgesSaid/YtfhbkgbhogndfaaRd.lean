/- Small words: what stays when it is wrapped, and a row read at a place. -/
import Derived.Test.YtfhbkgbhogndfaaWMore
namespace Go.Proofs.Ytfhbkgbhogndfaa.Lw
set_option linter.unusedVariables false
set_option linter.unusedSimpArgs false
open Go.RowKit Go.Proofs.YtfhbkgbhogndfaaW.PrintWords Go.Proofs.YtfhbkgbhogndfaaW.PrintLast Go.Proofs.YtfhbkgbhogndfaaW.PrintMore
theorem wrap_id {x : Int} (h0 : -9223372036854775808 ≤ x) (h : x < 9223372036854775808) : wrap64 x = x := by unfold wrap64; omega
theorem rd_nat (l : List Int) (i : Nat) : rd l (i : Int) = l.getD i 0 := by simp [rd]
end Go.Proofs.Ytfhbkgbhogndfaa.Lw
