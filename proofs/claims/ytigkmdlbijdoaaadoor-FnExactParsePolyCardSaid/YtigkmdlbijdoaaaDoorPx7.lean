-- Written by a program of this session (wip/mp.py), which runs the kit's print with contracts of the session's own.
import Derived.Test.YtigkmdlbijdoaaaDoorPx0
namespace Go.Proofs.YtigkmdlbijdoaaaDoor.P
open Go.RowKit Go.Proofs.YtigkmdlbijdoaaaDoorW.PrintWords Go.Proofs.YtigkmdlbijdoaaaDoorW.PrintLast Go.Proofs.YtigkmdlbijdoaaaDoorW.PrintMore
attribute [local go_sem] max2_int min2_int max_two min_two max_three min_three max_four min_four   -- for this text's walks alone
set_option linter.unusedVariables false
set_option linter.unusedSimpArgs false

/-! ### strconv_Itoa_27: function 27 -/
-- BY HAND
def strconv_Itoa_27.f (a0 : Int) : Option (ByteArray) := if 0 ≤ a0 then (if a0 < 100 then some ⟨(Go.Lib.decDigits a0.toNat).toArray⟩ else none) else none
set_option maxHeartbeats 8000000 in
set_option maxRecDepth 100000 in
theorem strconv_Itoa_27.calls (a0 : Int) (r : ByteArray) (w : World) (h : strconv_Itoa_27.f a0 = some r) :
    Calls Tryd.prog 27 #[.int .i64 a0] w fun e w' => e = .returned (.string r) ∧ Drawn0 w w' := by
  unfold strconv_Itoa_27.f at h
  split at h
  · rename_i h0
    split at h
    · rename_i h1
      obtain rfl := Option.some.inj h
      have := Tryd.strconv_Itoa_small a0.toNat (by omega) w
      rw [Int.toNat_of_nonneg h0] at this
      refine this.mono ?_
      rintro e w' ⟨rfl, rfl⟩
      exact ⟨rfl, Drawn0.refl _⟩
    · cases h
  · cases h

end Go.Proofs.YtigkmdlbijdoaaaDoor.P
