-- Written by a program of this session (wip/mp.py), which runs the kit's print with contracts of the session's own.
import Derived.Deep.CutRange
import Derived.Test.YtigkmdlbijdoaaaGreatDoorPx0
import Derived.Test.YtigkmdlbijdoaaaGreatDoorPx1
import Derived.Test.YtigkmdlbijdoaaaGreatDoorPx2
import Derived.Test.YtigkmdlbijdoaaaGreatDoorPx3
import Derived.Test.YtigkmdlbijdoaaaGreatDoorPx4
import Derived.Test.YtigkmdlbijdoaaaGreatDoorPx8
import Derived.Test.YtigkmdlbijdoaaaGreatDoorPx9
namespace Go.Proofs.YtigkmdlbijdoaaaGreatDoor.P
open Go.RowKit Go.Proofs.YtigkmdlbijdoaaaGreatDoorW.PrintWords Go.Proofs.YtigkmdlbijdoaaaGreatDoorW.PrintLast Go.Proofs.YtigkmdlbijdoaaaGreatDoorW.PrintMore
attribute [local go_sem] max2_int min2_int max_two min_two max_three min_three max_four min_four   -- for this text's walks alone
set_option linter.unusedVariables false
set_option linter.unusedSimpArgs false

/-! ### laws_FnPolynomialsDivide: function 3 -/
mutual
def laws_FnPolynomialsDivide.j0 : Nat → List Int → List Int → Int → Int → Int → Int → Bool → Bool → Option (Bool)
 | 0, _, _, _, _, _, _, _, _ => none
 | k + 1, x0, x1, x5, x6, x7, x8, x9, x111 => if x111 = true then (some false) else (if x9 = true then ((impl_TimesPoly.f k x7 x6).bind fun bt398 => (if bt398.2 = true then (if (Go.bits .xor .i64 bt398.1 x8) = x5 then ((laws_vTop.f k x8).bind fun t400 => ((laws_vTop.f k x6).bind fun t401 => (if t400 ≥ t401 then (some false) else (laws_FnPolynomialsDivide.j1 k x0 x1)))) else (some false)) else (some false))) else (laws_FnPolynomialsDivide.j1 k x0 x1))
def laws_FnPolynomialsDivide.j1 : Nat → List Int → List Int → Option (Bool)
 | 0, _, _ => none
 | k + 1, x0, x1 => (spec_DrawGcdPoly.f k x1).bind fun bt402 => ((impl_GcdPoly.f k bt402.1 bt402.2).bind fun bt404 => ((spec_GcdPoly.f k bt402.1 bt402.2).bind fun bt406 => (if (bt404.2 != bt406.2) = true then (laws_FnPolynomialsDivide.j2 k x0 x1 bt402.1 bt402.2 bt404.1 bt404.2 true) else (laws_FnPolynomialsDivide.j2 k x0 x1 bt402.1 bt402.2 bt404.1 bt404.2 (bt404.1 != bt406.1)))))
def laws_FnPolynomialsDivide.j2 : Nat → List Int → List Int → Int → Int → Int → Bool → Bool → Option (Bool)
 | 0, _, _, _, _, _, _, _ => none
 | k + 1, x0, x1, x15, x16, x17, x18, x159 => if x159 = true then (some false) else (if x18 = true then (laws_FnPolynomialsDivide.j3 k x0 x1 x15 x16 x17 (decide (x17 > 0))) else (laws_FnPolynomialsDivide.j3 k x0 x1 x15 x16 x17 false))
def laws_FnPolynomialsDivide.j3 : Nat → List Int → List Int → Int → Int → Int → Bool → Option (Bool)
 | 0, _, _, _, _, _, _ => none
 | k + 1, x0, x1, x15, x16, x17, x164 => if x164 = true then ((impl_DividePoly.f k x15 x17).bind fun bt408 => ((impl_DividePoly.f k x16 x17).bind fun bt411 => (if bt408.2.2 = true then (if bt411.2.2 = true then (if bt408.2.1 = 0 then (if bt411.2.1 = 0 then (laws_FnPolynomialsDivide.j4 k x0 x1) else (some false)) else (some false)) else (some false)) else (some false)))) else (laws_FnPolynomialsDivide.j4 k x0 x1)
def laws_FnPolynomialsDivide.j4 : Nat → List Int → List Int → Option (Bool)
 | 0, _, _ => none
 | k + 1, x0, x1 => (spec_DrawTimesPoly.f k x1).bind fun bt414 => ((impl_TimesPoly.f k bt414.1 bt414.2).bind fun bt416 => ((spec_TimesPoly.f k bt414.1 bt414.2).bind fun bt418 => (if (bt416.2 != bt418.2) = true then (laws_FnPolynomialsDivide.j5 k x0 x1 bt414.1 bt414.2 bt416.1 bt416.2 true) else (laws_FnPolynomialsDivide.j5 k x0 x1 bt414.1 bt414.2 bt416.1 bt416.2 (bt416.1 != bt418.1)))))
def laws_FnPolynomialsDivide.j5 : Nat → List Int → List Int → Int → Int → Int → Bool → Bool → Option (Bool)
 | 0, _, _, _, _, _, _, _ => none
 | k + 1, x0, x1, x27, x28, x29, x30, x217 => if x217 = true then (some false) else (if x30 = true then ((impl_ShiftPoly.f k x27).bind fun bt420 => ((impl_ShiftPoly.f k x28).bind fun bt422 => ((impl_ShiftPoly.f k x29).bind fun bt424 => ((impl_TimesPoly.f k bt420.1 bt422.1).bind fun bt426 => ((impl_DerivativeOf.f k x27).bind fun bt428 => ((impl_DerivativeOf.f k x28).bind fun bt430 => ((impl_DerivativeOf.f k x29).bind fun bt432 => ((impl_TimesPoly.f k bt428.1 x28).bind fun bt434 => ((impl_TimesPoly.f k x27 bt430.1).bind fun bt436 => (if bt420.2 = true then (if bt422.2 = true then (if bt424.2 = true then (if bt426.2 = true then (if bt428.2 = true then (if bt430.2 = true then (if bt432.2 = true then (if bt434.2 = true then (if bt436.2 = true then (if bt426.1 = bt424.1 then (if bt432.1 = (Go.bits .xor .i64 bt434.1 bt436.1) then (laws_FnPolynomialsDivide.j6 k x0 x1) else (some false)) else (some false)) else (some false)) else (some false)) else (some false)) else (some false)) else (some false)) else (some false)) else (some false)) else (some false)) else (some false))))))))))) else (laws_FnPolynomialsDivide.j6 k x0 x1))
def laws_FnPolynomialsDivide.j6 : Nat → List Int → List Int → Option (Bool)
 | 0, _, _ => none
 | k + 1, x0, x1 => (spec_DrawShiftPoly.f k x1).bind fun t438 => ((impl_ShiftPoly.f k t438).bind fun bt439 => ((spec_ShiftPoly.f k t438).bind fun bt441 => ((impl_ReversedPoly.f k t438).bind fun bt443 => ((spec_ReversedPoly.f k t438).bind fun bt445 => ((impl_DegreeOf.f t438).bind fun bt447 => ((spec_DegreeOf.f k t438).bind fun bt449 => (if (bt439.2 != bt441.2) = true then (laws_FnPolynomialsDivide.j7 k x0 t438 bt439.1 bt439.2 bt447.1 true) else (if bt439.1 = bt441.1 then (if (bt443.2 != bt445.2) = true then (laws_FnPolynomialsDivide.j7 k x0 t438 bt439.1 bt439.2 bt447.1 true) else (if bt443.1 = bt445.1 then (if (bt447.2 != bt449.2) = true then (laws_FnPolynomialsDivide.j7 k x0 t438 bt439.1 bt439.2 bt447.1 true) else (if bt447.1 = bt449.1 then (laws_FnPolynomialsDivide.j7 k x0 t438 bt439.1 bt439.2 bt447.1 (bt439.2 != bt447.2)) else (laws_FnPolynomialsDivide.j7 k x0 t438 bt439.1 bt439.2 bt447.1 true))) else (laws_FnPolynomialsDivide.j7 k x0 t438 bt439.1 bt439.2 bt447.1 true))) else (laws_FnPolynomialsDivide.j7 k x0 t438 bt439.1 bt439.2 bt447.1 true)))))))))
def laws_FnPolynomialsDivide.j7 : Nat → List Int → Int → Int → Bool → Int → Bool → Option (Bool)
 | 0, _, _, _, _, _, _ => none
 | k + 1, x0, x51, x52, x53, x60, x377 => if x377 = true then (some false) else (if x53 = true then ((impl_ShiftPoly.f k x52).bind fun bt451 => ((impl_PolyText.f k x51).bind fun bt453 => ((impl_ParsePoly.f k bt453.1).bind fun bt455 => (if bt451.2 = true then (if bt451.1 = x51 then ((laws_vTop.f k x51).bind fun t457 => (if x60 = t457 then (if bt453.2 = true then (if bt455.2 = true then (if bt455.1 = x51 then (laws_FnPolynomialsDivide.j8 k x0) else (some false)) else (some false)) else (some false)) else (some false))) else (some false)) else (some false))))) else (laws_FnPolynomialsDivide.j8 k x0))
def laws_FnPolynomialsDivide.j8 : Nat → List Int → Option (Bool)
 | 0, _ => none
 | k + 1, x0 => (spec_DrawParsePoly.f k x0).bind fun t458 => ((impl_ParsePoly.f k t458).bind fun bt459 => ((spec_ParsePoly.f k t458).bind fun bt461 => (if (bt459.2 != bt461.2) = true then (laws_FnPolynomialsDivide.j9 k t458 bt459.1 bt459.2 true) else (laws_FnPolynomialsDivide.j9 k t458 bt459.1 bt459.2 (bt459.1 != bt461.1)))))
def laws_FnPolynomialsDivide.j9 : Nat → ByteArray → Int → Bool → Bool → Option (Bool)
 | 0, _, _, _, _ => none
 | k + 1, x70, x71, x72, x439 => if x439 = true then (some false) else (if x72 = true then ((impl_PolyText.f k x71).bind fun bt463 => (if bt463.2 = true then (some (bt463.1.toList == x70.toList)) else (some false))) else (some true))
end
def laws_FnPolynomialsDivide.f (k : Nat) (l0 : List Int) (l1 : List Int) : Option (Bool) := (laws_big.f l0 l1).bind fun t389 => (if t389 = true then (some true) else ((spec_DrawDividePoly.f k l0).bind fun bt390 => ((impl_DividePoly.f k bt390.1 bt390.2).bind fun bt392 => ((spec_DividePoly.f k bt390.1 bt390.2).bind fun bt395 => (if (bt392.2.2 != bt395.2.2) = true then (laws_FnPolynomialsDivide.j0 k l0 l1 bt390.1 bt390.2 bt392.1 bt392.2.1 bt392.2.2 true) else (if bt392.1 = bt395.1 then (laws_FnPolynomialsDivide.j0 k l0 l1 bt390.1 bt390.2 bt392.1 bt392.2.1 bt392.2.2 (bt392.2.1 != bt395.2.1)) else (laws_FnPolynomialsDivide.j0 k l0 l1 bt390.1 bt390.2 bt392.1 bt392.2.1 bt392.2.2 true)))))))
theorem laws_FnPolynomialsDivide.mono_l : ∀ k, (∀ y0 y1 y2 y3 y4 y5 y6 y7, LeO (laws_FnPolynomialsDivide.j0 k y0 y1 y2 y3 y4 y5 y6 y7) (laws_FnPolynomialsDivide.j0 (k + 1) y0 y1 y2 y3 y4 y5 y6 y7)) ∧ (∀ y0 y1, LeO (laws_FnPolynomialsDivide.j1 k y0 y1) (laws_FnPolynomialsDivide.j1 (k + 1) y0 y1)) ∧ (∀ y0 y1 y2 y3 y4 y5 y6, LeO (laws_FnPolynomialsDivide.j2 k y0 y1 y2 y3 y4 y5 y6) (laws_FnPolynomialsDivide.j2 (k + 1) y0 y1 y2 y3 y4 y5 y6)) ∧ (∀ y0 y1 y2 y3 y4 y5, LeO (laws_FnPolynomialsDivide.j3 k y0 y1 y2 y3 y4 y5) (laws_FnPolynomialsDivide.j3 (k + 1) y0 y1 y2 y3 y4 y5)) ∧ (∀ y0 y1, LeO (laws_FnPolynomialsDivide.j4 k y0 y1) (laws_FnPolynomialsDivide.j4 (k + 1) y0 y1)) ∧ (∀ y0 y1 y2 y3 y4 y5 y6, LeO (laws_FnPolynomialsDivide.j5 k y0 y1 y2 y3 y4 y5 y6) (laws_FnPolynomialsDivide.j5 (k + 1) y0 y1 y2 y3 y4 y5 y6)) ∧ (∀ y0 y1, LeO (laws_FnPolynomialsDivide.j6 k y0 y1) (laws_FnPolynomialsDivide.j6 (k + 1) y0 y1)) ∧ (∀ y0 y1 y2 y3 y4 y5, LeO (laws_FnPolynomialsDivide.j7 k y0 y1 y2 y3 y4 y5) (laws_FnPolynomialsDivide.j7 (k + 1) y0 y1 y2 y3 y4 y5)) ∧ (∀ y0, LeO (laws_FnPolynomialsDivide.j8 k y0) (laws_FnPolynomialsDivide.j8 (k + 1) y0)) ∧ (∀ y0 y1 y2 y3, LeO (laws_FnPolynomialsDivide.j9 k y0 y1 y2 y3) (laws_FnPolynomialsDivide.j9 (k + 1) y0 y1 y2 y3))
 | 0 => ⟨fun _ _ _ _ _ _ _ _ r h => by simp [laws_FnPolynomialsDivide.j0] at h, fun _ _ r h => by simp [laws_FnPolynomialsDivide.j1] at h, fun _ _ _ _ _ _ _ r h => by simp [laws_FnPolynomialsDivide.j2] at h, fun _ _ _ _ _ _ r h => by simp [laws_FnPolynomialsDivide.j3] at h, fun _ _ r h => by simp [laws_FnPolynomialsDivide.j4] at h, fun _ _ _ _ _ _ _ r h => by simp [laws_FnPolynomialsDivide.j5] at h, fun _ _ r h => by simp [laws_FnPolynomialsDivide.j6] at h, fun _ _ _ _ _ _ r h => by simp [laws_FnPolynomialsDivide.j7] at h, fun _ r h => by simp [laws_FnPolynomialsDivide.j8] at h, fun _ _ _ _ r h => by simp [laws_FnPolynomialsDivide.j9] at h⟩
 | k + 1 => by
  obtain ⟨ih0, ih1, ih2, ih3, ih4, ih5, ih6, ih7, ih8, ih9⟩ := laws_FnPolynomialsDivide.mono_l k
  refine ⟨?_, ?_, ?_, ?_, ?_, ?_, ?_, ?_, ?_, ?_⟩
  ·intro y0 y1 y2 y3 y4 y5 y6 y7
   unfold laws_FnPolynomialsDivide.j0
   repeat' first
   | (with_reducible exact ih0 _ _ _ _ _ _ _ _)
   | (with_reducible exact ih1 _ _)
   | (with_reducible exact ih2 _ _ _ _ _ _ _)
   | (with_reducible exact ih3 _ _ _ _ _ _)
   | (with_reducible exact ih4 _ _)
   | (with_reducible exact ih5 _ _ _ _ _ _ _)
   | (with_reducible exact ih6 _ _)
   | (with_reducible exact ih7 _ _ _ _ _ _)
   | (with_reducible exact ih8 _)
   | (with_reducible exact ih9 _ _ _ _)
   | (with_reducible exact impl_DerivativeOf.mono _ _)
   | (with_reducible exact impl_DividePoly.mono _ _ _)
   | (with_reducible exact impl_GcdPoly.mono _ _ _)
   | (with_reducible exact impl_ParsePoly.mono _ _)
   | (with_reducible exact impl_PolyText.mono _ _)
   | (with_reducible exact impl_ReversedPoly.mono _ _)
   | (with_reducible exact impl_ShiftPoly.mono _ _)
   | (with_reducible exact impl_TimesPoly.mono _ _ _)
   | (with_reducible exact laws_vTop.mono _ _)
   | (with_reducible exact spec_DegreeOf.mono _ _)
   | (with_reducible exact spec_DividePoly.mono _ _ _)
   | (with_reducible exact spec_DrawDividePoly.mono _ _)
   | (with_reducible exact spec_DrawGcdPoly.mono _ _)
   | (with_reducible exact spec_DrawParsePoly.mono _ _)
   | (with_reducible exact spec_DrawShiftPoly.mono _ _)
   | (with_reducible exact spec_DrawTimesPoly.mono _ _)
   | (with_reducible exact spec_GcdPoly.mono _ _ _)
   | (with_reducible exact spec_ParsePoly.mono _ _)
   | (with_reducible exact spec_ReversedPoly.mono _ _)
   | (with_reducible exact spec_ShiftPoly.mono _ _)
   | (with_reducible exact spec_TimesPoly.mono _ _ _)
   | (with_reducible exact LeO.refl _)
   | (with_reducible exact LeO.none _)
   | (with_reducible refine LeO.ite ?_ ?_)
   | (with_reducible refine LeO.bind ?_ (fun _ => ?_))
   | exact ih0 _ _ _ _ _ _ _ _
   | exact ih1 _ _
   | exact ih2 _ _ _ _ _ _ _
   | exact ih3 _ _ _ _ _ _
   | exact ih4 _ _
   | exact ih5 _ _ _ _ _ _ _
   | exact ih6 _ _
   | exact ih7 _ _ _ _ _ _
   | exact ih8 _
   | exact ih9 _ _ _ _
   | exact impl_DerivativeOf.mono _ _
   | exact impl_DividePoly.mono _ _ _
   | exact impl_GcdPoly.mono _ _ _
   | exact impl_ParsePoly.mono _ _
   | exact impl_PolyText.mono _ _
   | exact impl_ReversedPoly.mono _ _
   | exact impl_ShiftPoly.mono _ _
   | exact impl_TimesPoly.mono _ _ _
   | exact laws_vTop.mono _ _
   | exact spec_DegreeOf.mono _ _
   | exact spec_DividePoly.mono _ _ _
   | exact spec_DrawDividePoly.mono _ _
   | exact spec_DrawGcdPoly.mono _ _
   | exact spec_DrawParsePoly.mono _ _
   | exact spec_DrawShiftPoly.mono _ _
   | exact spec_DrawTimesPoly.mono _ _
   | exact spec_GcdPoly.mono _ _ _
   | exact spec_ParsePoly.mono _ _
   | exact spec_ReversedPoly.mono _ _
   | exact spec_ShiftPoly.mono _ _
   | exact spec_TimesPoly.mono _ _ _
   | exact LeO.none _
   | refine LeO.ite ?_ ?_
   | refine LeO.bind ?_ (fun _ => ?_)
  ·intro y0 y1
   unfold laws_FnPolynomialsDivide.j1
   repeat' first
   | (with_reducible exact ih0 _ _ _ _ _ _ _ _)
   | (with_reducible exact ih1 _ _)
   | (with_reducible exact ih2 _ _ _ _ _ _ _)
   | (with_reducible exact ih3 _ _ _ _ _ _)
   | (with_reducible exact ih4 _ _)
   | (with_reducible exact ih5 _ _ _ _ _ _ _)
   | (with_reducible exact ih6 _ _)
   | (with_reducible exact ih7 _ _ _ _ _ _)
   | (with_reducible exact ih8 _)
   | (with_reducible exact ih9 _ _ _ _)
   | (with_reducible exact impl_DerivativeOf.mono _ _)
   | (with_reducible exact impl_DividePoly.mono _ _ _)
   | (with_reducible exact impl_GcdPoly.mono _ _ _)
   | (with_reducible exact impl_ParsePoly.mono _ _)
   | (with_reducible exact impl_PolyText.mono _ _)
   | (with_reducible exact impl_ReversedPoly.mono _ _)
   | (with_reducible exact impl_ShiftPoly.mono _ _)
   | (with_reducible exact impl_TimesPoly.mono _ _ _)
   | (with_reducible exact laws_vTop.mono _ _)
   | (with_reducible exact spec_DegreeOf.mono _ _)
   | (with_reducible exact spec_DividePoly.mono _ _ _)
   | (with_reducible exact spec_DrawDividePoly.mono _ _)
   | (with_reducible exact spec_DrawGcdPoly.mono _ _)
   | (with_reducible exact spec_DrawParsePoly.mono _ _)
   | (with_reducible exact spec_DrawShiftPoly.mono _ _)
   | (with_reducible exact spec_DrawTimesPoly.mono _ _)
   | (with_reducible exact spec_GcdPoly.mono _ _ _)
   | (with_reducible exact spec_ParsePoly.mono _ _)
   | (with_reducible exact spec_ReversedPoly.mono _ _)
   | (with_reducible exact spec_ShiftPoly.mono _ _)
   | (with_reducible exact spec_TimesPoly.mono _ _ _)
   | (with_reducible exact LeO.refl _)
   | (with_reducible exact LeO.none _)
   | (with_reducible refine LeO.ite ?_ ?_)
   | (with_reducible refine LeO.bind ?_ (fun _ => ?_))
   | exact ih0 _ _ _ _ _ _ _ _
   | exact ih1 _ _
   | exact ih2 _ _ _ _ _ _ _
   | exact ih3 _ _ _ _ _ _
   | exact ih4 _ _
   | exact ih5 _ _ _ _ _ _ _
   | exact ih6 _ _
   | exact ih7 _ _ _ _ _ _
   | exact ih8 _
   | exact ih9 _ _ _ _
   | exact impl_DerivativeOf.mono _ _
   | exact impl_DividePoly.mono _ _ _
   | exact impl_GcdPoly.mono _ _ _
   | exact impl_ParsePoly.mono _ _
   | exact impl_PolyText.mono _ _
   | exact impl_ReversedPoly.mono _ _
   | exact impl_ShiftPoly.mono _ _
   | exact impl_TimesPoly.mono _ _ _
   | exact laws_vTop.mono _ _
   | exact spec_DegreeOf.mono _ _
   | exact spec_DividePoly.mono _ _ _
   | exact spec_DrawDividePoly.mono _ _
   | exact spec_DrawGcdPoly.mono _ _
   | exact spec_DrawParsePoly.mono _ _
   | exact spec_DrawShiftPoly.mono _ _
   | exact spec_DrawTimesPoly.mono _ _
   | exact spec_GcdPoly.mono _ _ _
   | exact spec_ParsePoly.mono _ _
   | exact spec_ReversedPoly.mono _ _
   | exact spec_ShiftPoly.mono _ _
   | exact spec_TimesPoly.mono _ _ _
   | exact LeO.none _
   | refine LeO.ite ?_ ?_
   | refine LeO.bind ?_ (fun _ => ?_)
  ·intro y0 y1 y2 y3 y4 y5 y6
   unfold laws_FnPolynomialsDivide.j2
   repeat' first
   | (with_reducible exact ih0 _ _ _ _ _ _ _ _)
   | (with_reducible exact ih1 _ _)
   | (with_reducible exact ih2 _ _ _ _ _ _ _)
   | (with_reducible exact ih3 _ _ _ _ _ _)
   | (with_reducible exact ih4 _ _)
   | (with_reducible exact ih5 _ _ _ _ _ _ _)
   | (with_reducible exact ih6 _ _)
   | (with_reducible exact ih7 _ _ _ _ _ _)
   | (with_reducible exact ih8 _)
   | (with_reducible exact ih9 _ _ _ _)
   | (with_reducible exact impl_DerivativeOf.mono _ _)
   | (with_reducible exact impl_DividePoly.mono _ _ _)
   | (with_reducible exact impl_GcdPoly.mono _ _ _)
   | (with_reducible exact impl_ParsePoly.mono _ _)
   | (with_reducible exact impl_PolyText.mono _ _)
   | (with_reducible exact impl_ReversedPoly.mono _ _)
   | (with_reducible exact impl_ShiftPoly.mono _ _)
   | (with_reducible exact impl_TimesPoly.mono _ _ _)
   | (with_reducible exact laws_vTop.mono _ _)
   | (with_reducible exact spec_DegreeOf.mono _ _)
   | (with_reducible exact spec_DividePoly.mono _ _ _)
   | (with_reducible exact spec_DrawDividePoly.mono _ _)
   | (with_reducible exact spec_DrawGcdPoly.mono _ _)
   | (with_reducible exact spec_DrawParsePoly.mono _ _)
   | (with_reducible exact spec_DrawShiftPoly.mono _ _)
   | (with_reducible exact spec_DrawTimesPoly.mono _ _)
   | (with_reducible exact spec_GcdPoly.mono _ _ _)
   | (with_reducible exact spec_ParsePoly.mono _ _)
   | (with_reducible exact spec_ReversedPoly.mono _ _)
   | (with_reducible exact spec_ShiftPoly.mono _ _)
   | (with_reducible exact spec_TimesPoly.mono _ _ _)
   | (with_reducible exact LeO.refl _)
   | (with_reducible exact LeO.none _)
   | (with_reducible refine LeO.ite ?_ ?_)
   | (with_reducible refine LeO.bind ?_ (fun _ => ?_))
   | exact ih0 _ _ _ _ _ _ _ _
   | exact ih1 _ _
   | exact ih2 _ _ _ _ _ _ _
   | exact ih3 _ _ _ _ _ _
   | exact ih4 _ _
   | exact ih5 _ _ _ _ _ _ _
   | exact ih6 _ _
   | exact ih7 _ _ _ _ _ _
   | exact ih8 _
   | exact ih9 _ _ _ _
   | exact impl_DerivativeOf.mono _ _
   | exact impl_DividePoly.mono _ _ _
   | exact impl_GcdPoly.mono _ _ _
   | exact impl_ParsePoly.mono _ _
   | exact impl_PolyText.mono _ _
   | exact impl_ReversedPoly.mono _ _
   | exact impl_ShiftPoly.mono _ _
   | exact impl_TimesPoly.mono _ _ _
   | exact laws_vTop.mono _ _
   | exact spec_DegreeOf.mono _ _
   | exact spec_DividePoly.mono _ _ _
   | exact spec_DrawDividePoly.mono _ _
   | exact spec_DrawGcdPoly.mono _ _
   | exact spec_DrawParsePoly.mono _ _
   | exact spec_DrawShiftPoly.mono _ _
   | exact spec_DrawTimesPoly.mono _ _
   | exact spec_GcdPoly.mono _ _ _
   | exact spec_ParsePoly.mono _ _
   | exact spec_ReversedPoly.mono _ _
   | exact spec_ShiftPoly.mono _ _
   | exact spec_TimesPoly.mono _ _ _
   | exact LeO.none _
   | refine LeO.ite ?_ ?_
   | refine LeO.bind ?_ (fun _ => ?_)
  ·intro y0 y1 y2 y3 y4 y5
   unfold laws_FnPolynomialsDivide.j3
   repeat' first
   | (with_reducible exact ih0 _ _ _ _ _ _ _ _)
   | (with_reducible exact ih1 _ _)
   | (with_reducible exact ih2 _ _ _ _ _ _ _)
   | (with_reducible exact ih3 _ _ _ _ _ _)
   | (with_reducible exact ih4 _ _)
   | (with_reducible exact ih5 _ _ _ _ _ _ _)
   | (with_reducible exact ih6 _ _)
   | (with_reducible exact ih7 _ _ _ _ _ _)
   | (with_reducible exact ih8 _)
   | (with_reducible exact ih9 _ _ _ _)
   | (with_reducible exact impl_DerivativeOf.mono _ _)
   | (with_reducible exact impl_DividePoly.mono _ _ _)
   | (with_reducible exact impl_GcdPoly.mono _ _ _)
   | (with_reducible exact impl_ParsePoly.mono _ _)
   | (with_reducible exact impl_PolyText.mono _ _)
   | (with_reducible exact impl_ReversedPoly.mono _ _)
   | (with_reducible exact impl_ShiftPoly.mono _ _)
   | (with_reducible exact impl_TimesPoly.mono _ _ _)
   | (with_reducible exact laws_vTop.mono _ _)
   | (with_reducible exact spec_DegreeOf.mono _ _)
   | (with_reducible exact spec_DividePoly.mono _ _ _)
   | (with_reducible exact spec_DrawDividePoly.mono _ _)
   | (with_reducible exact spec_DrawGcdPoly.mono _ _)
   | (with_reducible exact spec_DrawParsePoly.mono _ _)
   | (with_reducible exact spec_DrawShiftPoly.mono _ _)
   | (with_reducible exact spec_DrawTimesPoly.mono _ _)
   | (with_reducible exact spec_GcdPoly.mono _ _ _)
   | (with_reducible exact spec_ParsePoly.mono _ _)
   | (with_reducible exact spec_ReversedPoly.mono _ _)
   | (with_reducible exact spec_ShiftPoly.mono _ _)
   | (with_reducible exact spec_TimesPoly.mono _ _ _)
   | (with_reducible exact LeO.refl _)
   | (with_reducible exact LeO.none _)
   | (with_reducible refine LeO.ite ?_ ?_)
   | (with_reducible refine LeO.bind ?_ (fun _ => ?_))
   | exact ih0 _ _ _ _ _ _ _ _
   | exact ih1 _ _
   | exact ih2 _ _ _ _ _ _ _
   | exact ih3 _ _ _ _ _ _
   | exact ih4 _ _
   | exact ih5 _ _ _ _ _ _ _
   | exact ih6 _ _
   | exact ih7 _ _ _ _ _ _
   | exact ih8 _
   | exact ih9 _ _ _ _
   | exact impl_DerivativeOf.mono _ _
   | exact impl_DividePoly.mono _ _ _
   | exact impl_GcdPoly.mono _ _ _
   | exact impl_ParsePoly.mono _ _
   | exact impl_PolyText.mono _ _
   | exact impl_ReversedPoly.mono _ _
   | exact impl_ShiftPoly.mono _ _
   | exact impl_TimesPoly.mono _ _ _
   | exact laws_vTop.mono _ _
   | exact spec_DegreeOf.mono _ _
   | exact spec_DividePoly.mono _ _ _
   | exact spec_DrawDividePoly.mono _ _
   | exact spec_DrawGcdPoly.mono _ _
   | exact spec_DrawParsePoly.mono _ _
   | exact spec_DrawShiftPoly.mono _ _
   | exact spec_DrawTimesPoly.mono _ _
   | exact spec_GcdPoly.mono _ _ _
   | exact spec_ParsePoly.mono _ _
   | exact spec_ReversedPoly.mono _ _
   | exact spec_ShiftPoly.mono _ _
   | exact spec_TimesPoly.mono _ _ _
   | exact LeO.none _
   | refine LeO.ite ?_ ?_
   | refine LeO.bind ?_ (fun _ => ?_)
  ·intro y0 y1
   unfold laws_FnPolynomialsDivide.j4
   repeat' first
   | (with_reducible exact ih0 _ _ _ _ _ _ _ _)
   | (with_reducible exact ih1 _ _)
   | (with_reducible exact ih2 _ _ _ _ _ _ _)
   | (with_reducible exact ih3 _ _ _ _ _ _)
   | (with_reducible exact ih4 _ _)
   | (with_reducible exact ih5 _ _ _ _ _ _ _)
   | (with_reducible exact ih6 _ _)
   | (with_reducible exact ih7 _ _ _ _ _ _)
   | (with_reducible exact ih8 _)
   | (with_reducible exact ih9 _ _ _ _)
   | (with_reducible exact impl_DerivativeOf.mono _ _)
   | (with_reducible exact impl_DividePoly.mono _ _ _)
   | (with_reducible exact impl_GcdPoly.mono _ _ _)
   | (with_reducible exact impl_ParsePoly.mono _ _)
   | (with_reducible exact impl_PolyText.mono _ _)
   | (with_reducible exact impl_ReversedPoly.mono _ _)
   | (with_reducible exact impl_ShiftPoly.mono _ _)
   | (with_reducible exact impl_TimesPoly.mono _ _ _)
   | (with_reducible exact laws_vTop.mono _ _)
   | (with_reducible exact spec_DegreeOf.mono _ _)
   | (with_reducible exact spec_DividePoly.mono _ _ _)
   | (with_reducible exact spec_DrawDividePoly.mono _ _)
   | (with_reducible exact spec_DrawGcdPoly.mono _ _)
   | (with_reducible exact spec_DrawParsePoly.mono _ _)
   | (with_reducible exact spec_DrawShiftPoly.mono _ _)
   | (with_reducible exact spec_DrawTimesPoly.mono _ _)
   | (with_reducible exact spec_GcdPoly.mono _ _ _)
   | (with_reducible exact spec_ParsePoly.mono _ _)
   | (with_reducible exact spec_ReversedPoly.mono _ _)
   | (with_reducible exact spec_ShiftPoly.mono _ _)
   | (with_reducible exact spec_TimesPoly.mono _ _ _)
   | (with_reducible exact LeO.refl _)
   | (with_reducible exact LeO.none _)
   | (with_reducible refine LeO.ite ?_ ?_)
   | (with_reducible refine LeO.bind ?_ (fun _ => ?_))
   | exact ih0 _ _ _ _ _ _ _ _
   | exact ih1 _ _
   | exact ih2 _ _ _ _ _ _ _
   | exact ih3 _ _ _ _ _ _
   | exact ih4 _ _
   | exact ih5 _ _ _ _ _ _ _
   | exact ih6 _ _
   | exact ih7 _ _ _ _ _ _
   | exact ih8 _
   | exact ih9 _ _ _ _
   | exact impl_DerivativeOf.mono _ _
   | exact impl_DividePoly.mono _ _ _
   | exact impl_GcdPoly.mono _ _ _
   | exact impl_ParsePoly.mono _ _
   | exact impl_PolyText.mono _ _
   | exact impl_ReversedPoly.mono _ _
   | exact impl_ShiftPoly.mono _ _
   | exact impl_TimesPoly.mono _ _ _
   | exact laws_vTop.mono _ _
   | exact spec_DegreeOf.mono _ _
   | exact spec_DividePoly.mono _ _ _
   | exact spec_DrawDividePoly.mono _ _
   | exact spec_DrawGcdPoly.mono _ _
   | exact spec_DrawParsePoly.mono _ _
   | exact spec_DrawShiftPoly.mono _ _
   | exact spec_DrawTimesPoly.mono _ _
   | exact spec_GcdPoly.mono _ _ _
   | exact spec_ParsePoly.mono _ _
   | exact spec_ReversedPoly.mono _ _
   | exact spec_ShiftPoly.mono _ _
   | exact spec_TimesPoly.mono _ _ _
   | exact LeO.none _
   | refine LeO.ite ?_ ?_
   | refine LeO.bind ?_ (fun _ => ?_)
  ·intro y0 y1 y2 y3 y4 y5 y6
   unfold laws_FnPolynomialsDivide.j5
   repeat' first
   | (with_reducible exact ih0 _ _ _ _ _ _ _ _)
   | (with_reducible exact ih1 _ _)
   | (with_reducible exact ih2 _ _ _ _ _ _ _)
   | (with_reducible exact ih3 _ _ _ _ _ _)
   | (with_reducible exact ih4 _ _)
   | (with_reducible exact ih5 _ _ _ _ _ _ _)
   | (with_reducible exact ih6 _ _)
   | (with_reducible exact ih7 _ _ _ _ _ _)
   | (with_reducible exact ih8 _)
   | (with_reducible exact ih9 _ _ _ _)
   | (with_reducible exact impl_DerivativeOf.mono _ _)
   | (with_reducible exact impl_DividePoly.mono _ _ _)
   | (with_reducible exact impl_GcdPoly.mono _ _ _)
   | (with_reducible exact impl_ParsePoly.mono _ _)
   | (with_reducible exact impl_PolyText.mono _ _)
   | (with_reducible exact impl_ReversedPoly.mono _ _)
   | (with_reducible exact impl_ShiftPoly.mono _ _)
   | (with_reducible exact impl_TimesPoly.mono _ _ _)
   | (with_reducible exact laws_vTop.mono _ _)
   | (with_reducible exact spec_DegreeOf.mono _ _)
   | (with_reducible exact spec_DividePoly.mono _ _ _)
   | (with_reducible exact spec_DrawDividePoly.mono _ _)
   | (with_reducible exact spec_DrawGcdPoly.mono _ _)
   | (with_reducible exact spec_DrawParsePoly.mono _ _)
   | (with_reducible exact spec_DrawShiftPoly.mono _ _)
   | (with_reducible exact spec_DrawTimesPoly.mono _ _)
   | (with_reducible exact spec_GcdPoly.mono _ _ _)
   | (with_reducible exact spec_ParsePoly.mono _ _)
   | (with_reducible exact spec_ReversedPoly.mono _ _)
   | (with_reducible exact spec_ShiftPoly.mono _ _)
   | (with_reducible exact spec_TimesPoly.mono _ _ _)
   | (with_reducible exact LeO.refl _)
   | (with_reducible exact LeO.none _)
   | (with_reducible refine LeO.ite ?_ ?_)
   | (with_reducible refine LeO.bind ?_ (fun _ => ?_))
   | exact ih0 _ _ _ _ _ _ _ _
   | exact ih1 _ _
   | exact ih2 _ _ _ _ _ _ _
   | exact ih3 _ _ _ _ _ _
   | exact ih4 _ _
   | exact ih5 _ _ _ _ _ _ _
   | exact ih6 _ _
   | exact ih7 _ _ _ _ _ _
   | exact ih8 _
   | exact ih9 _ _ _ _
   | exact impl_DerivativeOf.mono _ _
   | exact impl_DividePoly.mono _ _ _
   | exact impl_GcdPoly.mono _ _ _
   | exact impl_ParsePoly.mono _ _
   | exact impl_PolyText.mono _ _
   | exact impl_ReversedPoly.mono _ _
   | exact impl_ShiftPoly.mono _ _
   | exact impl_TimesPoly.mono _ _ _
   | exact laws_vTop.mono _ _
   | exact spec_DegreeOf.mono _ _
   | exact spec_DividePoly.mono _ _ _
   | exact spec_DrawDividePoly.mono _ _
   | exact spec_DrawGcdPoly.mono _ _
   | exact spec_DrawParsePoly.mono _ _
   | exact spec_DrawShiftPoly.mono _ _
   | exact spec_DrawTimesPoly.mono _ _
   | exact spec_GcdPoly.mono _ _ _
   | exact spec_ParsePoly.mono _ _
   | exact spec_ReversedPoly.mono _ _
   | exact spec_ShiftPoly.mono _ _
   | exact spec_TimesPoly.mono _ _ _
   | exact LeO.none _
   | refine LeO.ite ?_ ?_
   | refine LeO.bind ?_ (fun _ => ?_)
  ·intro y0 y1
   unfold laws_FnPolynomialsDivide.j6
   repeat' first
   | (with_reducible exact ih0 _ _ _ _ _ _ _ _)
   | (with_reducible exact ih1 _ _)
   | (with_reducible exact ih2 _ _ _ _ _ _ _)
   | (with_reducible exact ih3 _ _ _ _ _ _)
   | (with_reducible exact ih4 _ _)
   | (with_reducible exact ih5 _ _ _ _ _ _ _)
   | (with_reducible exact ih6 _ _)
   | (with_reducible exact ih7 _ _ _ _ _ _)
   | (with_reducible exact ih8 _)
   | (with_reducible exact ih9 _ _ _ _)
   | (with_reducible exact impl_DerivativeOf.mono _ _)
   | (with_reducible exact impl_DividePoly.mono _ _ _)
   | (with_reducible exact impl_GcdPoly.mono _ _ _)
   | (with_reducible exact impl_ParsePoly.mono _ _)
   | (with_reducible exact impl_PolyText.mono _ _)
   | (with_reducible exact impl_ReversedPoly.mono _ _)
   | (with_reducible exact impl_ShiftPoly.mono _ _)
   | (with_reducible exact impl_TimesPoly.mono _ _ _)
   | (with_reducible exact laws_vTop.mono _ _)
   | (with_reducible exact spec_DegreeOf.mono _ _)
   | (with_reducible exact spec_DividePoly.mono _ _ _)
   | (with_reducible exact spec_DrawDividePoly.mono _ _)
   | (with_reducible exact spec_DrawGcdPoly.mono _ _)
   | (with_reducible exact spec_DrawParsePoly.mono _ _)
   | (with_reducible exact spec_DrawShiftPoly.mono _ _)
   | (with_reducible exact spec_DrawTimesPoly.mono _ _)
   | (with_reducible exact spec_GcdPoly.mono _ _ _)
   | (with_reducible exact spec_ParsePoly.mono _ _)
   | (with_reducible exact spec_ReversedPoly.mono _ _)
   | (with_reducible exact spec_ShiftPoly.mono _ _)
   | (with_reducible exact spec_TimesPoly.mono _ _ _)
   | (with_reducible exact LeO.refl _)
   | (with_reducible exact LeO.none _)
   | (with_reducible refine LeO.ite ?_ ?_)
   | (with_reducible refine LeO.bind ?_ (fun _ => ?_))
   | exact ih0 _ _ _ _ _ _ _ _
   | exact ih1 _ _
   | exact ih2 _ _ _ _ _ _ _
   | exact ih3 _ _ _ _ _ _
   | exact ih4 _ _
   | exact ih5 _ _ _ _ _ _ _
   | exact ih6 _ _
   | exact ih7 _ _ _ _ _ _
   | exact ih8 _
   | exact ih9 _ _ _ _
   | exact impl_DerivativeOf.mono _ _
   | exact impl_DividePoly.mono _ _ _
   | exact impl_GcdPoly.mono _ _ _
   | exact impl_ParsePoly.mono _ _
   | exact impl_PolyText.mono _ _
   | exact impl_ReversedPoly.mono _ _
   | exact impl_ShiftPoly.mono _ _
   | exact impl_TimesPoly.mono _ _ _
   | exact laws_vTop.mono _ _
   | exact spec_DegreeOf.mono _ _
   | exact spec_DividePoly.mono _ _ _
   | exact spec_DrawDividePoly.mono _ _
   | exact spec_DrawGcdPoly.mono _ _
   | exact spec_DrawParsePoly.mono _ _
   | exact spec_DrawShiftPoly.mono _ _
   | exact spec_DrawTimesPoly.mono _ _
   | exact spec_GcdPoly.mono _ _ _
   | exact spec_ParsePoly.mono _ _
   | exact spec_ReversedPoly.mono _ _
   | exact spec_ShiftPoly.mono _ _
   | exact spec_TimesPoly.mono _ _ _
   | exact LeO.none _
   | refine LeO.ite ?_ ?_
   | refine LeO.bind ?_ (fun _ => ?_)
  ·intro y0 y1 y2 y3 y4 y5
   unfold laws_FnPolynomialsDivide.j7
   repeat' first
   | (with_reducible exact ih0 _ _ _ _ _ _ _ _)
   | (with_reducible exact ih1 _ _)
   | (with_reducible exact ih2 _ _ _ _ _ _ _)
   | (with_reducible exact ih3 _ _ _ _ _ _)
   | (with_reducible exact ih4 _ _)
   | (with_reducible exact ih5 _ _ _ _ _ _ _)
   | (with_reducible exact ih6 _ _)
   | (with_reducible exact ih7 _ _ _ _ _ _)
   | (with_reducible exact ih8 _)
   | (with_reducible exact ih9 _ _ _ _)
   | (with_reducible exact impl_DerivativeOf.mono _ _)
   | (with_reducible exact impl_DividePoly.mono _ _ _)
   | (with_reducible exact impl_GcdPoly.mono _ _ _)
   | (with_reducible exact impl_ParsePoly.mono _ _)
   | (with_reducible exact impl_PolyText.mono _ _)
   | (with_reducible exact impl_ReversedPoly.mono _ _)
   | (with_reducible exact impl_ShiftPoly.mono _ _)
   | (with_reducible exact impl_TimesPoly.mono _ _ _)
   | (with_reducible exact laws_vTop.mono _ _)
   | (with_reducible exact spec_DegreeOf.mono _ _)
   | (with_reducible exact spec_DividePoly.mono _ _ _)
   | (with_reducible exact spec_DrawDividePoly.mono _ _)
   | (with_reducible exact spec_DrawGcdPoly.mono _ _)
   | (with_reducible exact spec_DrawParsePoly.mono _ _)
   | (with_reducible exact spec_DrawShiftPoly.mono _ _)
   | (with_reducible exact spec_DrawTimesPoly.mono _ _)
   | (with_reducible exact spec_GcdPoly.mono _ _ _)
   | (with_reducible exact spec_ParsePoly.mono _ _)
   | (with_reducible exact spec_ReversedPoly.mono _ _)
   | (with_reducible exact spec_ShiftPoly.mono _ _)
   | (with_reducible exact spec_TimesPoly.mono _ _ _)
   | (with_reducible exact LeO.refl _)
   | (with_reducible exact LeO.none _)
   | (with_reducible refine LeO.ite ?_ ?_)
   | (with_reducible refine LeO.bind ?_ (fun _ => ?_))
   | exact ih0 _ _ _ _ _ _ _ _
   | exact ih1 _ _
   | exact ih2 _ _ _ _ _ _ _
   | exact ih3 _ _ _ _ _ _
   | exact ih4 _ _
   | exact ih5 _ _ _ _ _ _ _
   | exact ih6 _ _
   | exact ih7 _ _ _ _ _ _
   | exact ih8 _
   | exact ih9 _ _ _ _
   | exact impl_DerivativeOf.mono _ _
   | exact impl_DividePoly.mono _ _ _
   | exact impl_GcdPoly.mono _ _ _
   | exact impl_ParsePoly.mono _ _
   | exact impl_PolyText.mono _ _
   | exact impl_ReversedPoly.mono _ _
   | exact impl_ShiftPoly.mono _ _
   | exact impl_TimesPoly.mono _ _ _
   | exact laws_vTop.mono _ _
   | exact spec_DegreeOf.mono _ _
   | exact spec_DividePoly.mono _ _ _
   | exact spec_DrawDividePoly.mono _ _
   | exact spec_DrawGcdPoly.mono _ _
   | exact spec_DrawParsePoly.mono _ _
   | exact spec_DrawShiftPoly.mono _ _
   | exact spec_DrawTimesPoly.mono _ _
   | exact spec_GcdPoly.mono _ _ _
   | exact spec_ParsePoly.mono _ _
   | exact spec_ReversedPoly.mono _ _
   | exact spec_ShiftPoly.mono _ _
   | exact spec_TimesPoly.mono _ _ _
   | exact LeO.none _
   | refine LeO.ite ?_ ?_
   | refine LeO.bind ?_ (fun _ => ?_)
  ·intro y0
   unfold laws_FnPolynomialsDivide.j8
   repeat' first
   | (with_reducible exact ih0 _ _ _ _ _ _ _ _)
   | (with_reducible exact ih1 _ _)
   | (with_reducible exact ih2 _ _ _ _ _ _ _)
   | (with_reducible exact ih3 _ _ _ _ _ _)
   | (with_reducible exact ih4 _ _)
   | (with_reducible exact ih5 _ _ _ _ _ _ _)
   | (with_reducible exact ih6 _ _)
   | (with_reducible exact ih7 _ _ _ _ _ _)
   | (with_reducible exact ih8 _)
   | (with_reducible exact ih9 _ _ _ _)
   | (with_reducible exact impl_DerivativeOf.mono _ _)
   | (with_reducible exact impl_DividePoly.mono _ _ _)
   | (with_reducible exact impl_GcdPoly.mono _ _ _)
   | (with_reducible exact impl_ParsePoly.mono _ _)
   | (with_reducible exact impl_PolyText.mono _ _)
   | (with_reducible exact impl_ReversedPoly.mono _ _)
   | (with_reducible exact impl_ShiftPoly.mono _ _)
   | (with_reducible exact impl_TimesPoly.mono _ _ _)
   | (with_reducible exact laws_vTop.mono _ _)
   | (with_reducible exact spec_DegreeOf.mono _ _)
   | (with_reducible exact spec_DividePoly.mono _ _ _)
   | (with_reducible exact spec_DrawDividePoly.mono _ _)
   | (with_reducible exact spec_DrawGcdPoly.mono _ _)
   | (with_reducible exact spec_DrawParsePoly.mono _ _)
   | (with_reducible exact spec_DrawShiftPoly.mono _ _)
   | (with_reducible exact spec_DrawTimesPoly.mono _ _)
   | (with_reducible exact spec_GcdPoly.mono _ _ _)
   | (with_reducible exact spec_ParsePoly.mono _ _)
   | (with_reducible exact spec_ReversedPoly.mono _ _)
   | (with_reducible exact spec_ShiftPoly.mono _ _)
   | (with_reducible exact spec_TimesPoly.mono _ _ _)
   | (with_reducible exact LeO.refl _)
   | (with_reducible exact LeO.none _)
   | (with_reducible refine LeO.ite ?_ ?_)
   | (with_reducible refine LeO.bind ?_ (fun _ => ?_))
   | exact ih0 _ _ _ _ _ _ _ _
   | exact ih1 _ _
   | exact ih2 _ _ _ _ _ _ _
   | exact ih3 _ _ _ _ _ _
   | exact ih4 _ _
   | exact ih5 _ _ _ _ _ _ _
   | exact ih6 _ _
   | exact ih7 _ _ _ _ _ _
   | exact ih8 _
   | exact ih9 _ _ _ _
   | exact impl_DerivativeOf.mono _ _
   | exact impl_DividePoly.mono _ _ _
   | exact impl_GcdPoly.mono _ _ _
   | exact impl_ParsePoly.mono _ _
   | exact impl_PolyText.mono _ _
   | exact impl_ReversedPoly.mono _ _
   | exact impl_ShiftPoly.mono _ _
   | exact impl_TimesPoly.mono _ _ _
   | exact laws_vTop.mono _ _
   | exact spec_DegreeOf.mono _ _
   | exact spec_DividePoly.mono _ _ _
   | exact spec_DrawDividePoly.mono _ _
   | exact spec_DrawGcdPoly.mono _ _
   | exact spec_DrawParsePoly.mono _ _
   | exact spec_DrawShiftPoly.mono _ _
   | exact spec_DrawTimesPoly.mono _ _
   | exact spec_GcdPoly.mono _ _ _
   | exact spec_ParsePoly.mono _ _
   | exact spec_ReversedPoly.mono _ _
   | exact spec_ShiftPoly.mono _ _
   | exact spec_TimesPoly.mono _ _ _
   | exact LeO.none _
   | refine LeO.ite ?_ ?_
   | refine LeO.bind ?_ (fun _ => ?_)
  ·intro y0 y1 y2 y3
   unfold laws_FnPolynomialsDivide.j9
   repeat' first
   | (with_reducible exact ih0 _ _ _ _ _ _ _ _)
   | (with_reducible exact ih1 _ _)
   | (with_reducible exact ih2 _ _ _ _ _ _ _)
   | (with_reducible exact ih3 _ _ _ _ _ _)
   | (with_reducible exact ih4 _ _)
   | (with_reducible exact ih5 _ _ _ _ _ _ _)
   | (with_reducible exact ih6 _ _)
   | (with_reducible exact ih7 _ _ _ _ _ _)
   | (with_reducible exact ih8 _)
   | (with_reducible exact ih9 _ _ _ _)
   | (with_reducible exact impl_DerivativeOf.mono _ _)
   | (with_reducible exact impl_DividePoly.mono _ _ _)
   | (with_reducible exact impl_GcdPoly.mono _ _ _)
   | (with_reducible exact impl_ParsePoly.mono _ _)
   | (with_reducible exact impl_PolyText.mono _ _)
   | (with_reducible exact impl_ReversedPoly.mono _ _)
   | (with_reducible exact impl_ShiftPoly.mono _ _)
   | (with_reducible exact impl_TimesPoly.mono _ _ _)
   | (with_reducible exact laws_vTop.mono _ _)
   | (with_reducible exact spec_DegreeOf.mono _ _)
   | (with_reducible exact spec_DividePoly.mono _ _ _)
   | (with_reducible exact spec_DrawDividePoly.mono _ _)
   | (with_reducible exact spec_DrawGcdPoly.mono _ _)
   | (with_reducible exact spec_DrawParsePoly.mono _ _)
   | (with_reducible exact spec_DrawShiftPoly.mono _ _)
   | (with_reducible exact spec_DrawTimesPoly.mono _ _)
   | (with_reducible exact spec_GcdPoly.mono _ _ _)
   | (with_reducible exact spec_ParsePoly.mono _ _)
   | (with_reducible exact spec_ReversedPoly.mono _ _)
   | (with_reducible exact spec_ShiftPoly.mono _ _)
   | (with_reducible exact spec_TimesPoly.mono _ _ _)
   | (with_reducible exact LeO.refl _)
   | (with_reducible exact LeO.none _)
   | (with_reducible refine LeO.ite ?_ ?_)
   | (with_reducible refine LeO.bind ?_ (fun _ => ?_))
   | exact ih0 _ _ _ _ _ _ _ _
   | exact ih1 _ _
   | exact ih2 _ _ _ _ _ _ _
   | exact ih3 _ _ _ _ _ _
   | exact ih4 _ _
   | exact ih5 _ _ _ _ _ _ _
   | exact ih6 _ _
   | exact ih7 _ _ _ _ _ _
   | exact ih8 _
   | exact ih9 _ _ _ _
   | exact impl_DerivativeOf.mono _ _
   | exact impl_DividePoly.mono _ _ _
   | exact impl_GcdPoly.mono _ _ _
   | exact impl_ParsePoly.mono _ _
   | exact impl_PolyText.mono _ _
   | exact impl_ReversedPoly.mono _ _
   | exact impl_ShiftPoly.mono _ _
   | exact impl_TimesPoly.mono _ _ _
   | exact laws_vTop.mono _ _
   | exact spec_DegreeOf.mono _ _
   | exact spec_DividePoly.mono _ _ _
   | exact spec_DrawDividePoly.mono _ _
   | exact spec_DrawGcdPoly.mono _ _
   | exact spec_DrawParsePoly.mono _ _
   | exact spec_DrawShiftPoly.mono _ _
   | exact spec_DrawTimesPoly.mono _ _
   | exact spec_GcdPoly.mono _ _ _
   | exact spec_ParsePoly.mono _ _
   | exact spec_ReversedPoly.mono _ _
   | exact spec_ShiftPoly.mono _ _
   | exact spec_TimesPoly.mono _ _ _
   | exact LeO.none _
   | refine LeO.ite ?_ ?_
   | refine LeO.bind ?_ (fun _ => ?_)
theorem laws_FnPolynomialsDivide.mono : ∀ a0 a1 k, LeO (laws_FnPolynomialsDivide.f k a0 a1) (laws_FnPolynomialsDivide.f (k + 1) a0 a1) := by
 intro a0 a1 k
 obtain ⟨ih0, ih1, ih2, ih3, ih4, ih5, ih6, ih7, ih8, ih9⟩ := laws_FnPolynomialsDivide.mono_l k
 unfold laws_FnPolynomialsDivide.f
 repeat' first
   | (with_reducible exact ih0 _ _ _ _ _ _ _ _)
   | (with_reducible exact ih1 _ _)
   | (with_reducible exact ih2 _ _ _ _ _ _ _)
   | (with_reducible exact ih3 _ _ _ _ _ _)
   | (with_reducible exact ih4 _ _)
   | (with_reducible exact ih5 _ _ _ _ _ _ _)
   | (with_reducible exact ih6 _ _)
   | (with_reducible exact ih7 _ _ _ _ _ _)
   | (with_reducible exact ih8 _)
   | (with_reducible exact ih9 _ _ _ _)
   | (with_reducible exact impl_DerivativeOf.mono _ _)
   | (with_reducible exact impl_DividePoly.mono _ _ _)
   | (with_reducible exact impl_GcdPoly.mono _ _ _)
   | (with_reducible exact impl_ParsePoly.mono _ _)
   | (with_reducible exact impl_PolyText.mono _ _)
   | (with_reducible exact impl_ReversedPoly.mono _ _)
   | (with_reducible exact impl_ShiftPoly.mono _ _)
   | (with_reducible exact impl_TimesPoly.mono _ _ _)
   | (with_reducible exact laws_vTop.mono _ _)
   | (with_reducible exact spec_DegreeOf.mono _ _)
   | (with_reducible exact spec_DividePoly.mono _ _ _)
   | (with_reducible exact spec_DrawDividePoly.mono _ _)
   | (with_reducible exact spec_DrawGcdPoly.mono _ _)
   | (with_reducible exact spec_DrawParsePoly.mono _ _)
   | (with_reducible exact spec_DrawShiftPoly.mono _ _)
   | (with_reducible exact spec_DrawTimesPoly.mono _ _)
   | (with_reducible exact spec_GcdPoly.mono _ _ _)
   | (with_reducible exact spec_ParsePoly.mono _ _)
   | (with_reducible exact spec_ReversedPoly.mono _ _)
   | (with_reducible exact spec_ShiftPoly.mono _ _)
   | (with_reducible exact spec_TimesPoly.mono _ _ _)
   | (with_reducible exact LeO.refl _)
   | (with_reducible exact LeO.none _)
   | (with_reducible refine LeO.ite ?_ ?_)
   | (with_reducible refine LeO.bind ?_ (fun _ => ?_))
   | exact ih0 _ _ _ _ _ _ _ _
   | exact ih1 _ _
   | exact ih2 _ _ _ _ _ _ _
   | exact ih3 _ _ _ _ _ _
   | exact ih4 _ _
   | exact ih5 _ _ _ _ _ _ _
   | exact ih6 _ _
   | exact ih7 _ _ _ _ _ _
   | exact ih8 _
   | exact ih9 _ _ _ _
   | exact impl_DerivativeOf.mono _ _
   | exact impl_DividePoly.mono _ _ _
   | exact impl_GcdPoly.mono _ _ _
   | exact impl_ParsePoly.mono _ _
   | exact impl_PolyText.mono _ _
   | exact impl_ReversedPoly.mono _ _
   | exact impl_ShiftPoly.mono _ _
   | exact impl_TimesPoly.mono _ _ _
   | exact laws_vTop.mono _ _
   | exact spec_DegreeOf.mono _ _
   | exact spec_DividePoly.mono _ _ _
   | exact spec_DrawDividePoly.mono _ _
   | exact spec_DrawGcdPoly.mono _ _
   | exact spec_DrawParsePoly.mono _ _
   | exact spec_DrawShiftPoly.mono _ _
   | exact spec_DrawTimesPoly.mono _ _
   | exact spec_GcdPoly.mono _ _ _
   | exact spec_ParsePoly.mono _ _
   | exact spec_ReversedPoly.mono _ _
   | exact spec_ShiftPoly.mono _ _
   | exact spec_TimesPoly.mono _ _ _
   | exact LeO.none _
   | refine LeO.ite ?_ ?_
   | refine LeO.bind ?_ (fun _ => ?_)
set_option maxHeartbeats 8000000 in
set_option maxRecDepth 100000 in
theorem laws_FnPolynomialsDivide.calls (k : Nat) (A0 : Option Addr) (c0 : Nat) (l0 : List Int) (A1 : Option Addr) (c1 : Nat) (l1 : List Int) (r : Bool) (w : World) (hL3 : Lib3 w) (hr0 : Kd.C (Kd.int .u8) w A0 l0.length l0) (hc0 : l0.length ≤ c0) (hr1 : Kd.C (Kd.int .u8) w A1 l1.length l1) (hc1 : l1.length ≤ c1) (h : laws_FnPolynomialsDivide.f k l0 l1 = some r) :
  Calls Tryz.prog 3 #[.slice A0 l0.length c0, .slice A1 l1.length c1] w fun e w' => e = .returned (.bool r) ∧ Below w.heap.size w w' := by
 have HL3 := Aside0.mk hL3
 clear hL3
 have HR0 := Aside0.mk hr0
 have HC0 := Aside0.mk hc0
 clear hr0 hc0
 have HR1 := Aside0.mk hr1
 have HC1 := Aside0.mk hc1
 clear hr1 hc1
 have HB := Aside0.mk (Below.refl w.heap.size w)
 have H : ((laws_big.f l0 l1).bind fun t389 => (if t389 = true then (some true) else ((spec_DrawDividePoly.f k l0).bind fun bt390 => ((impl_DividePoly.f k bt390.1 bt390.2).bind fun bt392 => ((spec_DividePoly.f k bt390.1 bt390.2).bind fun bt395 => (if (bt392.2.2 != bt395.2.2) = true then (laws_FnPolynomialsDivide.j0 k l0 l1 bt390.1 bt390.2 bt392.1 bt392.2.1 bt392.2.2 true) else (if bt392.1 = bt395.1 then (laws_FnPolynomialsDivide.j0 k l0 l1 bt390.1 bt390.2 bt392.1 bt392.2.1 bt392.2.2 (bt392.2.1 != bt395.2.1)) else (laws_FnPolynomialsDivide.j0 k l0 l1 bt390.1 bt390.2 bt392.1 bt392.2.1 bt392.2.2 true)))))))) = some r := h
 clear h
 replace H := Option.bind_eq_some_iff.mp H
 obtain ⟨t389, A30, H⟩ := H
 replace H : (if t389 = true then (some true) else ((spec_DrawDividePoly.f k l0).bind fun bt390 => ((impl_DividePoly.f k bt390.1 bt390.2).bind fun bt392 => ((spec_DividePoly.f k bt390.1 bt390.2).bind fun bt395 => (if (bt392.2.2 != bt395.2.2) = true then (laws_FnPolynomialsDivide.j0 k l0 l1 bt390.1 bt390.2 bt392.1 bt392.2.1 bt392.2.2 true) else (if bt392.1 = bt395.1 then (laws_FnPolynomialsDivide.j0 k l0 l1 bt390.1 bt390.2 bt392.1 bt392.2.1 bt392.2.2 (bt392.2.1 != bt395.2.1)) else (laws_FnPolynomialsDivide.j0 k l0 l1 bt390.1 bt390.2 bt392.1 bt392.2.1 bt392.2.2 true))))))) = some r := H
 have A3 := Aside0.mk A30
 clear A30
 by_cases c4 : t389 = true
 ·subst c4
  have H1 : (some true) = some r := by rw [if_pos rfl] at H; exact H
  clear H
  have H := H1
  clear H1
  as_aux_lemma =>
   obtain rfl := Option.some.inj H
   go_enter Tryz.func3, Tryz.ntmps3
   go_wp2_with (first | ((with_reducible refine gate_callee (f := 4) rfl ?_); refine goesL_ (some 79) rfl rfl Tryz.func4 (by kernel_rfl) rfl #[.slice A0 l0.length c0, .slice A1 l1.length c1] rfl (by (try simp only [List.map_toArray, List.map_cons, List.map_nil]); first | done | rfl | (simp only [List.length_drop, List.length_take]; rfl)) ?_; (with_reducible refine (laws_big.calls _ _ l0 _ _ l1 true _ ?side1 ?side2 ?side3 ?side4 A3.out).mono ?_); (case side1 => repeat (first | exact HR0.out | (with_reducible refine Kd.C_alloc ?_ _) | (with_reducible refine Kd.C_drewN ?_ _) | (with_reducible refine Kd.C_drew ?_))); (case side2 => exact HC0.out); (case side3 => repeat (first | exact HR1.out | (with_reducible refine Kd.C_alloc ?_ _) | (with_reducible refine Kd.C_drewN ?_ _) | (with_reducible refine Kd.C_drew ?_))); (case side4 => exact HC1.out); rintro e w' ⟨rfl, ⟨nd, rfl⟩⟩; refine ⟨_, rfl, ?_⟩))
   go_ret
   exact ⟨by first | rfl | (simp [errW_none, errW_some] <;> rfl) | (simp [*, errW_none, errW_some] <;> rfl), by repeat (first | (with_reducible first | exact HB.out | apply below_alloc | apply pw_below_drewN | apply below_drew1) | exact HB.out)⟩
 ·replace c4 := Bool.eq_false_iff.mpr c4
  subst c4
  have H1 : ((spec_DrawDividePoly.f k l0).bind fun bt390 => ((impl_DividePoly.f k bt390.1 bt390.2).bind fun bt392 => ((spec_DividePoly.f k bt390.1 bt390.2).bind fun bt395 => (if (bt392.2.2 != bt395.2.2) = true then (laws_FnPolynomialsDivide.j0 k l0 l1 bt390.1 bt390.2 bt392.1 bt392.2.1 bt392.2.2 true) else (if bt392.1 = bt395.1 then (laws_FnPolynomialsDivide.j0 k l0 l1 bt390.1 bt390.2 bt392.1 bt392.2.1 bt392.2.2 (bt392.2.1 != bt395.2.1)) else (laws_FnPolynomialsDivide.j0 k l0 l1 bt390.1 bt390.2 bt392.1 bt392.2.1 bt392.2.2 true)))))) = some r := by rw [if_neg (show ¬ (false = true) by decide)] at H; exact H
  clear H
  have H := H1
  clear H1
  replace H := Option.bind_eq_some_iff.mp H
  obtain ⟨⟨t390, t391⟩, A50, H⟩ := H
  replace H : ((impl_DividePoly.f k t390 t391).bind fun bt392 => ((spec_DividePoly.f k t390 t391).bind fun bt395 => (if (bt392.2.2 != bt395.2.2) = true then (laws_FnPolynomialsDivide.j0 k l0 l1 t390 t391 bt392.1 bt392.2.1 bt392.2.2 true) else (if bt392.1 = bt395.1 then (laws_FnPolynomialsDivide.j0 k l0 l1 t390 t391 bt392.1 bt392.2.1 bt392.2.2 (bt392.2.1 != bt395.2.1)) else (laws_FnPolynomialsDivide.j0 k l0 l1 t390 t391 bt392.1 bt392.2.1 bt392.2.2 true))))) = some r := H
  have A5 := Aside0.mk A50
  clear A50
  replace H := Option.bind_eq_some_iff.mp H
  obtain ⟨⟨t392, t393, t394⟩, A60, H⟩ := H
  replace H : ((spec_DividePoly.f k t390 t391).bind fun bt395 => (if (t394 != bt395.2.2) = true then (laws_FnPolynomialsDivide.j0 k l0 l1 t390 t391 t392 t393 t394 true) else (if t392 = bt395.1 then (laws_FnPolynomialsDivide.j0 k l0 l1 t390 t391 t392 t393 t394 (t393 != bt395.2.1)) else (laws_FnPolynomialsDivide.j0 k l0 l1 t390 t391 t392 t393 t394 true)))) = some r := H
  have A6 := Aside0.mk A60
  clear A60
  replace H := Option.bind_eq_some_iff.mp H
  obtain ⟨⟨t395, t396, t397⟩, A70, H⟩ := H
  replace H : (if (t394 != t397) = true then (laws_FnPolynomialsDivide.j0 k l0 l1 t390 t391 t392 t393 t394 true) else (if t392 = t395 then (laws_FnPolynomialsDivide.j0 k l0 l1 t390 t391 t392 t393 t394 (t393 != t396)) else (laws_FnPolynomialsDivide.j0 k l0 l1 t390 t391 t392 t393 t394 true))) = some r := H
  have A7 := Aside0.mk A70
  clear A70
  have HC8 := Aside0.mk H
  clear H
  go_enter Tryz.func3, Tryz.ntmps3
  go_upto_region 6 with (first | ((with_reducible refine gate_callee (f := 4) rfl ?_); refine goesL_ (some 79) rfl rfl Tryz.func4 (by kernel_rfl) rfl #[.slice A0 l0.length c0, .slice A1 l1.length c1] rfl (by (try simp only [List.map_toArray, List.map_cons, List.map_nil]); first | done | rfl | (simp only [List.length_drop, List.length_take]; rfl)) ?_; (with_reducible refine (laws_big.calls _ _ l0 _ _ l1 false _ ?side1 ?side2 ?side3 ?side4 A3.out).mono ?_); (case side1 => repeat (first | exact HR0.out | (with_reducible refine Kd.C_alloc ?_ _) | (with_reducible refine Kd.C_drewN ?_ _) | (with_reducible refine Kd.C_drew ?_))); (case side2 => exact HC0.out); (case side3 => repeat (first | exact HR1.out | (with_reducible refine Kd.C_alloc ?_ _) | (with_reducible refine Kd.C_drewN ?_ _) | (with_reducible refine Kd.C_drew ?_))); (case side4 => exact HC1.out); rintro e w' ⟨rfl, ⟨nd, rfl⟩⟩; refine ⟨_, rfl, ?_⟩) | ((with_reducible refine gate_callee (f := 5) rfl ?_); refine goesL_ (some 82) rfl rfl Tryz.func5 (by kernel_rfl) rfl #[.slice A0 l0.length c0] rfl (by (try simp only [List.map_toArray, List.map_cons, List.map_nil]); first | done | rfl | (simp only [List.length_drop, List.length_take]; rfl)) ?_; (with_reducible refine (spec_DrawDividePoly.calls k _ _ l0 t390 t391 _ ?side1 ?side2 A5.out).mono ?_); (case side1 => repeat (first | exact HR0.out | (with_reducible refine Kd.C_alloc ?_ _) | (with_reducible refine Kd.C_drewN ?_ _) | (with_reducible refine Kd.C_drew ?_))); (case side2 => exact HC0.out); rintro e w9 ⟨rfl, hb⟩; refine ⟨_, rfl, ?_⟩; have n0_ := Aside0.mk (below_step (by repeat (first | (with_reducible first | exact HB.out | apply below_alloc | apply pw_below_drewN | apply below_drew1) | exact HB.out)) hb); clear HB; have HB := n0_; clear n0_; (try clear hb); (try clear hb2); (try clear hk); (try clear hi)) | ((with_reducible refine gate_callee (f := 6) rfl ?_); refine goesL_ (some 88) rfl rfl Tryz.func6 (by kernel_rfl) rfl #[.int .i64 t390, .int .i64 t391] rfl (by (try simp only [List.map_toArray, List.map_cons, List.map_nil]); first | done | rfl | (simp only [List.length_drop, List.length_take]; rfl)) ?_; (with_reducible refine (impl_DividePoly.calls k t390 t391 t392 t393 t394 _ A6.out).mono ?_); rintro e w10 ⟨rfl, hb⟩; refine ⟨_, rfl, ?_⟩; have n0_ := Aside0.mk (below_step (by repeat (first | (with_reducible first | exact HB.out | apply below_alloc | apply pw_below_drewN | apply below_drew1) | exact HB.out)) hb); clear HB; have HB := n0_; clear n0_; (try clear hb); (try clear hb2); (try clear hk); (try clear hi)) | ((with_reducible refine gate_callee (f := 7) rfl ?_); refine goesL_ (some 95) rfl rfl Tryz.func7 (by kernel_rfl) rfl #[.int .i64 t390, .int .i64 t391] rfl (by (try simp only [List.map_toArray, List.map_cons, List.map_nil]); first | done | rfl | (simp only [List.length_drop, List.length_take]; rfl)) ?_; (with_reducible refine (spec_DividePoly.calls k t390 t391 t395 t396 t397 _ A7.out).mono ?_); rintro e w' ⟨rfl, ⟨nd, rfl⟩⟩; refine ⟨_, rfl, ?_⟩))
  (try simp only [Act.put, List.setIfInBounds_toArray, List.set_cons_zero, List.set_cons_succ])
  go_cut [111] from 77 to 111 (fun v111 wc => ∃ (kq : Nat) (x111_7 : Bool), v111 = .bool x111_7 ∧ Aside0 (laws_FnPolynomialsDivide.j0 kq l0 l1 t390 t391 t392 t393 t394 x111_7 = some r) ∧ Aside0 (kq ≤ k) ∧ Aside0 (Below w.heap.size w wc))
  case first =>
   have H := HC8.out
   clear HC8
   by_cases c11 : (t394 != t397) = true
   ·rw [if_pos c11] at H
    have c11b0 : (t394 != t397) = true := c11
    (try (have c11b1 : decide (t394 = t397) = false := by simpa using c11))
    (try (have c11b2 : (t394 == t397) = false := by simpa using c11))
    (try (have c11b3 : ¬ (t394 = t397) := by simpa using c11))
    clear c11
    (first | rw [c11b0] | (simp only [i64_w, i32_w]; rw [c11b0]) | skip)
    as_aux_lemma =>
     have H' := Aside0.mk H
     clear H
     go_wp2
     go_meet
     case rel => exact ⟨_, (true), (by first | rfl | (simp; done) | (simp [*]; done)), H', ⟨by first | omega | exact Nat.le_refl _⟩, ⟨by repeat (first | (with_reducible first | exact HB.out | apply below_alloc | apply pw_below_drewN | apply below_drew1) | exact HB.out)⟩⟩
   ·rw [if_neg c11] at H
    have c11b0 : (t394 != t397) = false := by simpa using c11
    (try (have c11b1 : decide (t394 = t397) = true := by simpa using c11))
    (try (have c11b2 : (t394 == t397) = true := by simpa using c11))
    clear c11
    (first | rw [c11b0] | (simp only [i64_w, i32_w]; rw [c11b0]) | skip)
    by_cases c12 : t392 = t395
    ·rw [if_pos c12] at H
     have c12b0 : (t392 == t395) = true := beq_iff_eq.mpr c12
     have c12b1 : (t392 != t395) = false := bne_eq_false_iff_eq.mpr c12
     clear c12
     as_aux_lemma =>
      have H' := Aside0.mk H
      clear H
      go_wp2
      go_meet
      case rel => exact ⟨_, ((t393 != t396)), (by first | rfl | (simp; done) | (simp [*]; done)), H', ⟨by first | omega | exact Nat.le_refl _⟩, ⟨by repeat (first | (with_reducible first | exact HB.out | apply below_alloc | apply pw_below_drewN | apply below_drew1) | exact HB.out)⟩⟩
    ·rw [if_neg c12] at H
     have c12b0 : (t392 == t395) = false := beq_eq_false_iff_ne.mpr c12
     have c12b1 : (t392 != t395) = true := bne_iff_ne.mpr c12
     as_aux_lemma =>
      have H' := Aside0.mk H
      clear H
      go_wp2
      go_meet
      case rel => exact ⟨_, (true), (by first | rfl | (simp; done) | (simp [*]; done)), H', ⟨by first | omega | exact Nat.le_refl _⟩, ⟨by repeat (first | (with_reducible first | exact HB.out | apply below_alloc | apply pw_below_drewN | apply below_drew1) | exact HB.out)⟩⟩
  case rest =>
   clear HC8;(try clear c1);(try clear p2);(try clear c3);(try clear c4);(try clear c5);(try clear c6);(try clear c7);(try clear c11);(try clear c11b0);(try clear c11b1);(try clear c11b2);(try clear c12);(try clear c12b0);(try clear c12b1)
   obtain ⟨kq, x111_7, rfl, HA, HJ7, HB⟩ := hcut
   cases kq with
   | zero => exact absurd HA.out (by simp [laws_FnPolynomialsDivide.j0])
   | succ kj7 =>
    have H := HA.out
    clear HA
    simp only [laws_FnPolynomialsDivide.j0] at H
    by_cases c13 : x111_7 = true
    ·subst c13
     have H1 : (some false) = some r := by rw [if_pos rfl] at H; exact H
     clear H
     have H := H1
     clear H1
     as_aux_lemma =>
      obtain rfl := Option.some.inj H
      go_wp2
      go_ret
      exact ⟨by first | rfl | (simp [errW_none, errW_some] <;> rfl) | (simp [*, errW_none, errW_some] <;> rfl), by repeat (first | (with_reducible first | exact HB.out | apply below_alloc | apply pw_below_drewN | apply below_drew1) | exact HB.out)⟩
    ·replace c13 := Bool.eq_false_iff.mpr c13
     subst c13
     have H1 : (if t394 = true then ((impl_TimesPoly.f kj7 t392 t391).bind fun bt398 => (if bt398.2 = true then (if (Go.bits .xor .i64 bt398.1 t393) = t390 then ((laws_vTop.f kj7 t393).bind fun t400 => ((laws_vTop.f kj7 t391).bind fun t401 => (if t400 ≥ t401 then (some false) else (laws_FnPolynomialsDivide.j1 kj7 l0 l1)))) else (some false)) else (some false))) else (laws_FnPolynomialsDivide.j1 kj7 l0 l1)) = some r := by rw [if_neg (show ¬ (false = true) by decide)] at H; exact H
     clear H
     have H := H1
     clear H1
     have HC14 := Aside0.mk H
     clear H
     go_upto_if 112 with (fail)
     go_cut [] from 112 to 134 (fun wc => ∃ (kq : Nat), Aside0 (laws_FnPolynomialsDivide.j1 kq l0 l1 = some r) ∧ Aside0 (kq ≤ kj7) ∧ Aside0 (Below w.heap.size w wc))
     case first =>
      have H := HC14.out
      clear HC14
      by_cases c15 : t394 = true
      ·subst c15
       have H1 : ((impl_TimesPoly.f kj7 t392 t391).bind fun bt398 => (if bt398.2 = true then (if (Go.bits .xor .i64 bt398.1 t393) = t390 then ((laws_vTop.f kj7 t393).bind fun t400 => ((laws_vTop.f kj7 t391).bind fun t401 => (if t400 ≥ t401 then (some false) else (laws_FnPolynomialsDivide.j1 kj7 l0 l1)))) else (some false)) else (some false))) = some r := by rw [if_pos rfl] at H; exact H
       clear H
       have H := H1
       clear H1
       replace H := Option.bind_eq_some_iff.mp H
       obtain ⟨⟨t398, t399⟩, A160, H⟩ := H
       replace H : (if t399 = true then (if (Go.bits .xor .i64 t398 t393) = t390 then ((laws_vTop.f kj7 t393).bind fun t400 => ((laws_vTop.f kj7 t391).bind fun t401 => (if t400 ≥ t401 then (some false) else (laws_FnPolynomialsDivide.j1 kj7 l0 l1)))) else (some false)) else (some false)) = some r := H
       have A16 := Aside0.mk A160
       clear A160
       by_cases c17 : t399 = true
       ·subst c17
        have H1 : (if (Go.bits .xor .i64 t398 t393) = t390 then ((laws_vTop.f kj7 t393).bind fun t400 => ((laws_vTop.f kj7 t391).bind fun t401 => (if t400 ≥ t401 then (some false) else (laws_FnPolynomialsDivide.j1 kj7 l0 l1)))) else (some false)) = some r := by rw [if_pos rfl] at H; exact H
        clear H
        have H := H1
        clear H1
        by_cases c18 : (Go.bits .xor .i64 t398 t393) = t390
        ·rw [if_pos c18] at H
         have c18b0 : ((Go.bits .xor .i64 t398 t393) == t390) = true := beq_iff_eq.mpr c18
         have c18b1 : ((Go.bits .xor .i64 t398 t393) != t390) = false := bne_eq_false_iff_eq.mpr c18
         clear c18
         (first | rw [c18b0] | (simp only [i64_w, i32_w]; rw [c18b0]) | skip)
         replace H := Option.bind_eq_some_iff.mp H
         obtain ⟨t400, A190, H⟩ := H
         replace H : ((laws_vTop.f kj7 t391).bind fun t401 => (if t400 ≥ t401 then (some false) else (laws_FnPolynomialsDivide.j1 kj7 l0 l1))) = some r := H
         have A19 := Aside0.mk A190
         clear A190
         replace H := Option.bind_eq_some_iff.mp H
         obtain ⟨t401, A200, H⟩ := H
         replace H : (if t400 ≥ t401 then (some false) else (laws_FnPolynomialsDivide.j1 kj7 l0 l1)) = some r := H
         have A20 := Aside0.mk A200
         clear A200
         by_cases c21 : t400 ≥ t401
         ·rw [if_pos c21] at H
          have c21b0 : decide (t401 ≤ t400) = true := decide_eq_true c21
          clear c21
          as_aux_lemma =>
           obtain rfl := Option.some.inj H
           go_wp2_with (first | ((with_reducible refine gate_callee (f := 8) rfl ?_); refine goesL_ (some 116) rfl rfl Tryz.func8 (by kernel_rfl) rfl #[.int .i64 t392, .int .i64 t391] rfl (by (try simp only [List.map_toArray, List.map_cons, List.map_nil]); first | done | rfl | (simp only [List.length_drop, List.length_take]; rfl)) ?_; (with_reducible refine (impl_TimesPoly.calls kj7 t392 t391 t398 true _ A16.out).mono ?_); rintro e w22 ⟨rfl, hb⟩; refine ⟨_, rfl, ?_⟩; have n0_ := Aside0.mk (below_step (by repeat (first | (with_reducible first | exact HB.out | apply below_alloc | apply pw_below_drewN | apply below_drew1) | exact HB.out)) hb); clear HB; have HB := n0_; clear n0_; (try clear hb); (try clear hb2); (try clear hk); (try clear hi)) | (go_at_call 9; (with_reducible refine (laws_vTop.calls kj7 t393 t400 _ A19.out).mono ?_); rintro e w' ⟨rfl, ⟨nd, rfl⟩⟩) | (go_at_call 9; (with_reducible refine (laws_vTop.calls kj7 t391 t401 _ A20.out).mono ?_); rintro e w' ⟨rfl, ⟨nd, rfl⟩⟩))
           go_ret
           exact ⟨by first | rfl | (simp [errW_none, errW_some] <;> rfl) | (simp [*, errW_none, errW_some] <;> rfl), by repeat (first | (with_reducible first | exact HB.out | apply below_alloc | apply pw_below_drewN | apply below_drew1) | exact HB.out)⟩
         ·rw [if_neg c21] at H
          have c21b0 : decide (t401 ≤ t400) = false := decide_eq_false c21
          clear c21
          as_aux_lemma =>
           have H' := Aside0.mk H
           clear H
           go_wp2_with (first | ((with_reducible refine gate_callee (f := 8) rfl ?_); refine goesL_ (some 116) rfl rfl Tryz.func8 (by kernel_rfl) rfl #[.int .i64 t392, .int .i64 t391] rfl (by (try simp only [List.map_toArray, List.map_cons, List.map_nil]); first | done | rfl | (simp only [List.length_drop, List.length_take]; rfl)) ?_; (with_reducible refine (impl_TimesPoly.calls kj7 t392 t391 t398 true _ A16.out).mono ?_); rintro e w23 ⟨rfl, hb⟩; refine ⟨_, rfl, ?_⟩; have n0_ := Aside0.mk (below_step (by repeat (first | (with_reducible first | exact HB.out | apply below_alloc | apply pw_below_drewN | apply below_drew1) | exact HB.out)) hb); clear HB; have HB := n0_; clear n0_; (try clear hb); (try clear hb2); (try clear hk); (try clear hi)) | (go_at_call 9; (with_reducible refine (laws_vTop.calls kj7 t393 t400 _ A19.out).mono ?_); rintro e w' ⟨rfl, ⟨nd, rfl⟩⟩) | (go_at_call 9; (with_reducible refine (laws_vTop.calls kj7 t391 t401 _ A20.out).mono ?_); rintro e w' ⟨rfl, ⟨nd, rfl⟩⟩))
           go_meet
           case rel => exact ⟨_, H', ⟨by have := HJ7.out; first | omega | exact Nat.le_refl _⟩, ⟨by repeat (first | (with_reducible first | exact HB.out | apply below_alloc | apply pw_below_drewN | apply below_drew1) | exact HB.out)⟩⟩
        ·rw [if_neg c18] at H
         have c18b0 : ((Go.bits .xor .i64 t398 t393) == t390) = false := beq_eq_false_iff_ne.mpr c18
         have c18b1 : ((Go.bits .xor .i64 t398 t393) != t390) = true := bne_iff_ne.mpr c18
         (first | rw [c18b0] | (simp only [i64_w, i32_w]; rw [c18b0]) | skip)
         as_aux_lemma =>
          obtain rfl := Option.some.inj H
          go_wp2_with (first | ((with_reducible refine gate_callee (f := 8) rfl ?_); refine goesL_ (some 116) rfl rfl Tryz.func8 (by kernel_rfl) rfl #[.int .i64 t392, .int .i64 t391] rfl (by (try simp only [List.map_toArray, List.map_cons, List.map_nil]); first | done | rfl | (simp only [List.length_drop, List.length_take]; rfl)) ?_; (with_reducible refine (impl_TimesPoly.calls kj7 t392 t391 t398 true _ A16.out).mono ?_); rintro e w24 ⟨rfl, hb⟩; refine ⟨_, rfl, ?_⟩; have n0_ := Aside0.mk (below_step (by repeat (first | (with_reducible first | exact HB.out | apply below_alloc | apply pw_below_drewN | apply below_drew1) | exact HB.out)) hb); clear HB; have HB := n0_; clear n0_; (try clear hb); (try clear hb2); (try clear hk); (try clear hi)))
          go_ret
          exact ⟨by first | rfl | (simp [errW_none, errW_some] <;> rfl) | (simp [*, errW_none, errW_some] <;> rfl), by repeat (first | (with_reducible first | exact HB.out | apply below_alloc | apply pw_below_drewN | apply below_drew1) | exact HB.out)⟩
       ·replace c17 := Bool.eq_false_iff.mpr c17
        subst c17
        have H1 : (some false) = some r := by rw [if_neg (show ¬ (false = true) by decide)] at H; exact H
        clear H
        have H := H1
        clear H1
        as_aux_lemma =>
         obtain rfl := Option.some.inj H
         go_wp2_with (first | ((with_reducible refine gate_callee (f := 8) rfl ?_); refine goesL_ (some 116) rfl rfl Tryz.func8 (by kernel_rfl) rfl #[.int .i64 t392, .int .i64 t391] rfl (by (try simp only [List.map_toArray, List.map_cons, List.map_nil]); first | done | rfl | (simp only [List.length_drop, List.length_take]; rfl)) ?_; (with_reducible refine (impl_TimesPoly.calls kj7 t392 t391 t398 false _ A16.out).mono ?_); rintro e w25 ⟨rfl, hb⟩; refine ⟨_, rfl, ?_⟩; have n0_ := Aside0.mk (below_step (by repeat (first | (with_reducible first | exact HB.out | apply below_alloc | apply pw_below_drewN | apply below_drew1) | exact HB.out)) hb); clear HB; have HB := n0_; clear n0_; (try clear hb); (try clear hb2); (try clear hk); (try clear hi)))
         go_ret
         exact ⟨by first | rfl | (simp [errW_none, errW_some] <;> rfl) | (simp [*, errW_none, errW_some] <;> rfl), by repeat (first | (with_reducible first | exact HB.out | apply below_alloc | apply pw_below_drewN | apply below_drew1) | exact HB.out)⟩
      ·replace c15 := Bool.eq_false_iff.mpr c15
       subst c15
       have H1 : (laws_FnPolynomialsDivide.j1 kj7 l0 l1) = some r := by rw [if_neg (show ¬ (false = true) by decide)] at H; exact H
       clear H
       have H := H1
       clear H1
       as_aux_lemma =>
        have H' := Aside0.mk H
        clear H
        go_wp2
        go_meet
        case rel => exact ⟨_, H', ⟨by have := HJ7.out; first | omega | exact Nat.le_refl _⟩, ⟨by repeat (first | (with_reducible first | exact HB.out | apply below_alloc | apply pw_below_drewN | apply below_drew1) | exact HB.out)⟩⟩
     case rest =>
      clear HC14;(try clear c1);(try clear c2);(try clear p2);(try clear c3);(try clear c4);(try clear c5);(try clear c6);(try clear c7);(try clear c8);(try clear c11);(try clear c11b0);(try clear c11b1);(try clear c11b2);(try clear c12);(try clear c12b0);(try clear c12b1);(try clear c13);(try clear c15);(try clear c17);(try clear c18);(try clear c18b0);(try clear c18b1);(try clear c21);(try clear c21b0);(try clear p2)
      obtain ⟨kq, HA, HJ13, HB⟩ := hcut
      cases kq with
      | zero => exact absurd HA.out (by simp [laws_FnPolynomialsDivide.j1])
      | succ kj13 =>
       have H := HA.out
       clear HA
       simp only [laws_FnPolynomialsDivide.j1] at H
       replace H := Option.bind_eq_some_iff.mp H
       obtain ⟨⟨t402, t403⟩, A260, H⟩ := H
       replace H : ((impl_GcdPoly.f kj13 t402 t403).bind fun bt404 => ((spec_GcdPoly.f kj13 t402 t403).bind fun bt406 => (if (bt404.2 != bt406.2) = true then (laws_FnPolynomialsDivide.j2 kj13 l0 l1 t402 t403 bt404.1 bt404.2 true) else (laws_FnPolynomialsDivide.j2 kj13 l0 l1 t402 t403 bt404.1 bt404.2 (bt404.1 != bt406.1))))) = some r := H
       have A26 := Aside0.mk A260
       clear A260
       replace H := Option.bind_eq_some_iff.mp H
       obtain ⟨⟨t404, t405⟩, A270, H⟩ := H
       replace H : ((spec_GcdPoly.f kj13 t402 t403).bind fun bt406 => (if (t405 != bt406.2) = true then (laws_FnPolynomialsDivide.j2 kj13 l0 l1 t402 t403 t404 t405 true) else (laws_FnPolynomialsDivide.j2 kj13 l0 l1 t402 t403 t404 t405 (t404 != bt406.1)))) = some r := H
       have A27 := Aside0.mk A270
       clear A270
       replace H := Option.bind_eq_some_iff.mp H
       obtain ⟨⟨t406, t407⟩, A280, H⟩ := H
       replace H : (if (t405 != t407) = true then (laws_FnPolynomialsDivide.j2 kj13 l0 l1 t402 t403 t404 t405 true) else (laws_FnPolynomialsDivide.j2 kj13 l0 l1 t402 t403 t404 t405 (t404 != t406))) = some r := H
       have A28 := Aside0.mk A280
       clear A280
       have HC29 := Aside0.mk H
       clear H
       go_upto_region 15 with (first | ((with_reducible refine gate_callee (f := 10) rfl ?_); refine goesL_ (some 137) rfl rfl Tryz.func10 (by kernel_rfl) rfl #[.slice A1 l1.length c1] rfl (by (try simp only [List.map_toArray, List.map_cons, List.map_nil]); first | done | rfl | (simp only [List.length_drop, List.length_take]; rfl)) ?_; (with_reducible refine (spec_DrawGcdPoly.calls kj13 _ _ l1 t402 t403 _ ?side1 ?side2 A26.out).mono ?_); (case side1 => repeat (first | exact (Kd.C_below HR1.out HB.out) | (with_reducible refine Kd.C_alloc ?_ _) | (with_reducible refine Kd.C_drewN ?_ _) | (with_reducible refine Kd.C_drew ?_))); (case side2 => exact HC1.out); rintro e w30 ⟨rfl, hb⟩; refine ⟨_, rfl, ?_⟩; have n0_ := Aside0.mk (below_step (by repeat (first | (with_reducible first | exact HB.out | apply below_alloc | apply pw_below_drewN | apply below_drew1) | exact HB.out)) hb); clear HB; have HB := n0_; clear n0_; (try clear hb); (try clear hb2); (try clear hk); (try clear hi)) | ((with_reducible refine gate_callee (f := 11) rfl ?_); refine goesL_ (some 143) rfl rfl Tryz.func11 (by kernel_rfl) rfl #[.int .i64 t402, .int .i64 t403] rfl (by (try simp only [List.map_toArray, List.map_cons, List.map_nil]); first | done | rfl | (simp only [List.length_drop, List.length_take]; rfl)) ?_; (with_reducible refine (impl_GcdPoly.calls kj13 t402 t403 t404 t405 _ A27.out).mono ?_); rintro e w31 ⟨rfl, hb⟩; refine ⟨_, rfl, ?_⟩; have n0_ := Aside0.mk (below_step (by repeat (first | (with_reducible first | exact HB.out | apply below_alloc | apply pw_below_drewN | apply below_drew1) | exact HB.out)) hb); clear HB; have HB := n0_; clear n0_; (try clear hb); (try clear hb2); (try clear hk); (try clear hi)) | ((with_reducible refine gate_callee (f := 12) rfl ?_); refine goesL_ (some 149) rfl rfl Tryz.func12 (by kernel_rfl) rfl #[.int .i64 t402, .int .i64 t403] rfl (by (try simp only [List.map_toArray, List.map_cons, List.map_nil]); first | done | rfl | (simp only [List.length_drop, List.length_take]; rfl)) ?_; (with_reducible refine (spec_GcdPoly.calls kj13 t402 t403 t406 t407 _ A28.out).mono ?_); rintro e w' ⟨rfl, ⟨nd, rfl⟩⟩; refine ⟨_, rfl, ?_⟩))
       (try simp only [Act.put, List.setIfInBounds_toArray, List.set_cons_zero, List.set_cons_succ])
       go_cut [159] from 135 to 159 (fun v159 wc => ∃ (kq : Nat) (x159_28 : Bool), v159 = .bool x159_28 ∧ Aside0 (laws_FnPolynomialsDivide.j2 kq l0 l1 t402 t403 t404 t405 x159_28 = some r) ∧ Aside0 (kq ≤ kj13) ∧ Aside0 (Below w.heap.size w wc))
       case first =>
        have H := HC29.out
        clear HC29
        by_cases c32 : (t405 != t407) = true
        ·rw [if_pos c32] at H
         have c32b0 : (t405 != t407) = true := c32
         (try (have c32b1 : decide (t405 = t407) = false := by simpa using c32))
         (try (have c32b2 : (t405 == t407) = false := by simpa using c32))
         (try (have c32b3 : ¬ (t405 = t407) := by simpa using c32))
         clear c32
         (first | rw [c32b0] | (simp only [i64_w, i32_w]; rw [c32b0]) | skip)
         as_aux_lemma =>
          have H' := Aside0.mk H
          clear H
          go_wp2
          go_meet
          case rel => exact ⟨_, (true), (by first | rfl | (simp; done) | (simp [*]; done)), H', ⟨by have := HJ7.out; have := HJ13.out; first | omega | exact Nat.le_refl _⟩, ⟨by repeat (first | (with_reducible first | exact HB.out | apply below_alloc | apply pw_below_drewN | apply below_drew1) | exact HB.out)⟩⟩
        ·rw [if_neg c32] at H
         have c32b0 : (t405 != t407) = false := by simpa using c32
         (try (have c32b1 : decide (t405 = t407) = true := by simpa using c32))
         (try (have c32b2 : (t405 == t407) = true := by simpa using c32))
         clear c32
         (first | rw [c32b0] | (simp only [i64_w, i32_w]; rw [c32b0]) | skip)
         as_aux_lemma =>
          have H' := Aside0.mk H
          clear H
          go_wp2
          go_meet
          case rel => exact ⟨_, ((t404 != t406)), (by first | rfl | (simp; done) | (simp [*]; done)), H', ⟨by have := HJ7.out; have := HJ13.out; first | omega | exact Nat.le_refl _⟩, ⟨by repeat (first | (with_reducible first | exact HB.out | apply below_alloc | apply pw_below_drewN | apply below_drew1) | exact HB.out)⟩⟩
       case rest =>
        clear HC29;(try clear c1);(try clear c2);(try clear p2);(try clear c3);(try clear c4);(try clear c5);(try clear c6);(try clear c7);(try clear c8);(try clear c10);(try clear c11);(try clear c11b0);(try clear c11b1);(try clear c11b2);(try clear c12);(try clear c12b0);(try clear c12b1);(try clear c13);(try clear c15);(try clear c17);(try clear c18);(try clear c18b0);(try clear c18b1);(try clear c21);(try clear c21b0);(try clear c32);(try clear c32b0);(try clear c32b1);(try clear c32b2);(try clear p2)
        obtain ⟨kq, x159_28, rfl, HA, HJ28, HB⟩ := hcut
        cases kq with
        | zero => exact absurd HA.out (by simp [laws_FnPolynomialsDivide.j2])
        | succ kj28 =>
         have H := HA.out
         clear HA
         simp only [laws_FnPolynomialsDivide.j2] at H
         by_cases c33 : x159_28 = true
         ·subst c33
          have H1 : (some false) = some r := by rw [if_pos rfl] at H; exact H
          clear H
          have H := H1
          clear H1
          as_aux_lemma =>
           obtain rfl := Option.some.inj H
           go_wp2
           go_ret
           exact ⟨by first | rfl | (simp [errW_none, errW_some] <;> rfl) | (simp [*, errW_none, errW_some] <;> rfl), by repeat (first | (with_reducible first | exact HB.out | apply below_alloc | apply pw_below_drewN | apply below_drew1) | exact HB.out)⟩
         ·replace c33 := Bool.eq_false_iff.mpr c33
          subst c33
          have H1 : (if t405 = true then (laws_FnPolynomialsDivide.j3 kj28 l0 l1 t402 t403 t404 (decide (t404 > 0))) else (laws_FnPolynomialsDivide.j3 kj28 l0 l1 t402 t403 t404 false)) = some r := by rw [if_neg (show ¬ (false = true) by decide)] at H; exact H
          clear H
          have H := H1
          clear H1
          have HC34 := Aside0.mk H
          clear H
          go_upto_region 17 with (fail)
          go_cut [164] from 160 to 164 (fun v164 wc => ∃ (kq : Nat) (x164_33 : Bool), v164 = .bool x164_33 ∧ Aside0 (laws_FnPolynomialsDivide.j3 kq l0 l1 t402 t403 t404 x164_33 = some r) ∧ Aside0 (kq ≤ kj28) ∧ Aside0 (Below w.heap.size w wc))
          case first =>
           have H := HC34.out
           clear HC34
           by_cases c35 : t405 = true
           ·subst c35
            have H1 : (laws_FnPolynomialsDivide.j3 kj28 l0 l1 t402 t403 t404 (decide (t404 > 0))) = some r := by rw [if_pos rfl] at H; exact H
            clear H
            have H := H1
            clear H1
            as_aux_lemma =>
             have H' := Aside0.mk H
             clear H
             go_wp2
             go_meet
             case rel => exact ⟨_, (decide (t404 > 0)), (by first | rfl | (simp; done) | (simp [*]; done)), H', ⟨by have := HJ7.out; have := HJ13.out; have := HJ28.out; first | omega | exact Nat.le_refl _⟩, ⟨by repeat (first | (with_reducible first | exact HB.out | apply below_alloc | apply pw_below_drewN | apply below_drew1) | exact HB.out)⟩⟩
           ·replace c35 := Bool.eq_false_iff.mpr c35
            subst c35
            have H1 : (laws_FnPolynomialsDivide.j3 kj28 l0 l1 t402 t403 t404 false) = some r := by rw [if_neg (show ¬ (false = true) by decide)] at H; exact H
            clear H
            have H := H1
            clear H1
            as_aux_lemma =>
             have H' := Aside0.mk H
             clear H
             go_wp2
             go_meet
             case rel => exact ⟨_, (false), (by first | rfl | (simp; done) | (simp [*]; done)), H', ⟨by have := HJ7.out; have := HJ13.out; have := HJ28.out; first | omega | exact Nat.le_refl _⟩, ⟨by repeat (first | (with_reducible first | exact HB.out | apply below_alloc | apply pw_below_drewN | apply below_drew1) | exact HB.out)⟩⟩
          case rest =>
           clear HC34;(try clear c1);(try clear c2);(try clear p2);(try clear c3);(try clear c4);(try clear c5);(try clear c6);(try clear c7);(try clear c8);(try clear c10);(try clear c11);(try clear c11b0);(try clear c11b1);(try clear c11b2);(try clear c12);(try clear c12b0);(try clear c12b1);(try clear c13);(try clear c15);(try clear c17);(try clear c18);(try clear c18b0);(try clear c18b1);(try clear c21);(try clear c21b0);(try clear c32);(try clear c32b0);(try clear c32b1);(try clear c32b2);(try clear c33);(try clear c35);(try clear p2)
           obtain ⟨kq, x164_33, rfl, HA, HJ33, HB⟩ := hcut
           cases kq with
           | zero => exact absurd HA.out (by simp [laws_FnPolynomialsDivide.j3])
           | succ kj33 =>
            have H := HA.out
            clear HA
            simp only [laws_FnPolynomialsDivide.j3] at H
            have HC36 := Aside0.mk H
            clear H
            go_upto_if 164 with (fail)
            go_cut [] from 165 to 192 (fun wc => ∃ (kq : Nat), Aside0 (laws_FnPolynomialsDivide.j4 kq l0 l1 = some r) ∧ Aside0 (kq ≤ kj33) ∧ Aside0 (Below w.heap.size w wc))
            case first =>
             have H := HC36.out
             clear HC36
             by_cases c37 : x164_33 = true
             ·subst c37
              have H1 : ((impl_DividePoly.f kj33 t402 t404).bind fun bt408 => ((impl_DividePoly.f kj33 t403 t404).bind fun bt411 => (if bt408.2.2 = true then (if bt411.2.2 = true then (if bt408.2.1 = 0 then (if bt411.2.1 = 0 then (laws_FnPolynomialsDivide.j4 kj33 l0 l1) else (some false)) else (some false)) else (some false)) else (some false)))) = some r := by rw [if_pos rfl] at H; exact H
              clear H
              have H := H1
              clear H1
              replace H := Option.bind_eq_some_iff.mp H
              obtain ⟨⟨t408, t409, t410⟩, A380, H⟩ := H
              replace H : ((impl_DividePoly.f kj33 t403 t404).bind fun bt411 => (if t410 = true then (if bt411.2.2 = true then (if t409 = 0 then (if bt411.2.1 = 0 then (laws_FnPolynomialsDivide.j4 kj33 l0 l1) else (some false)) else (some false)) else (some false)) else (some false))) = some r := H
              have A38 := Aside0.mk A380
              clear A380
              replace H := Option.bind_eq_some_iff.mp H
              obtain ⟨⟨t411, t412, t413⟩, A390, H⟩ := H
              replace H : (if t410 = true then (if t413 = true then (if t409 = 0 then (if t412 = 0 then (laws_FnPolynomialsDivide.j4 kj33 l0 l1) else (some false)) else (some false)) else (some false)) else (some false)) = some r := H
              have A39 := Aside0.mk A390
              clear A390
              by_cases c40 : t410 = true
              ·subst c40
               have H1 : (if t413 = true then (if t409 = 0 then (if t412 = 0 then (laws_FnPolynomialsDivide.j4 kj33 l0 l1) else (some false)) else (some false)) else (some false)) = some r := by rw [if_pos rfl] at H; exact H
               clear H
               have H := H1
               clear H1
               by_cases c41 : t413 = true
               ·subst c41
                have H1 : (if t409 = 0 then (if t412 = 0 then (laws_FnPolynomialsDivide.j4 kj33 l0 l1) else (some false)) else (some false)) = some r := by rw [if_pos rfl] at H; exact H
                clear H
                have H := H1
                clear H1
                by_cases c42 : t409 = 0
                ·rw [if_pos c42] at H
                 have c42b0 : (t409 == 0) = true := beq_iff_eq.mpr c42
                 have c42b1 : (t409 != 0) = false := bne_eq_false_iff_eq.mpr c42
                 clear c42
                 (first | rw [c42b0] | (simp only [i64_w, i32_w]; rw [c42b0]) | skip)
                 by_cases c43 : t412 = 0
                 ·rw [if_pos c43] at H
                  have c43b0 : (t412 == 0) = true := beq_iff_eq.mpr c43
                  have c43b1 : (t412 != 0) = false := bne_eq_false_iff_eq.mpr c43
                  clear c43
                  as_aux_lemma =>
                   have H' := Aside0.mk H
                   clear H
                   go_wp2_with (first | ((with_reducible refine gate_callee (f := 6) rfl ?_); refine goesL_ (some 168) rfl rfl Tryz.func6 (by kernel_rfl) rfl #[.int .i64 t402, .int .i64 t404] rfl (by (try simp only [List.map_toArray, List.map_cons, List.map_nil]); first | done | rfl | (simp only [List.length_drop, List.length_take]; rfl)) ?_; (with_reducible refine (impl_DividePoly.calls kj33 t402 t404 t408 t409 true _ A38.out).mono ?_); rintro e w44 ⟨rfl, hb⟩; refine ⟨_, rfl, ?_⟩; have n0_ := Aside0.mk (below_step (by repeat (first | (with_reducible first | exact HB.out | apply below_alloc | apply pw_below_drewN | apply below_drew1) | exact HB.out)) hb); clear HB; have HB := n0_; clear n0_; (try clear hb); (try clear hb2); (try clear hk); (try clear hi)) | ((with_reducible refine gate_callee (f := 6) rfl ?_); refine goesL_ (some 175) rfl rfl Tryz.func6 (by kernel_rfl) rfl #[.int .i64 t403, .int .i64 t404] rfl (by (try simp only [List.map_toArray, List.map_cons, List.map_nil]); first | done | rfl | (simp only [List.length_drop, List.length_take]; rfl)) ?_; (with_reducible refine (impl_DividePoly.calls kj33 t403 t404 t411 t412 true _ A39.out).mono ?_); rintro e w45 ⟨rfl, hb⟩; refine ⟨_, rfl, ?_⟩; have n0_ := Aside0.mk (below_step (by repeat (first | (with_reducible first | exact HB.out | apply below_alloc | apply pw_below_drewN | apply below_drew1) | exact HB.out)) hb); clear HB; have HB := n0_; clear n0_; (try clear hb); (try clear hb2); (try clear hk); (try clear hi)))
                   go_meet
                   case rel => exact ⟨_, H', ⟨by have := HJ7.out; have := HJ13.out; have := HJ28.out; have := HJ33.out; first | omega | exact Nat.le_refl _⟩, ⟨by repeat (first | (with_reducible first | exact HB.out | apply below_alloc | apply pw_below_drewN | apply below_drew1) | exact HB.out)⟩⟩
                 ·rw [if_neg c43] at H
                  have c43b0 : (t412 == 0) = false := beq_eq_false_iff_ne.mpr c43
                  have c43b1 : (t412 != 0) = true := bne_iff_ne.mpr c43
                  as_aux_lemma =>
                   obtain rfl := Option.some.inj H
                   go_wp2_with (first | ((with_reducible refine gate_callee (f := 6) rfl ?_); refine goesL_ (some 168) rfl rfl Tryz.func6 (by kernel_rfl) rfl #[.int .i64 t402, .int .i64 t404] rfl (by (try simp only [List.map_toArray, List.map_cons, List.map_nil]); first | done | rfl | (simp only [List.length_drop, List.length_take]; rfl)) ?_; (with_reducible refine (impl_DividePoly.calls kj33 t402 t404 t408 t409 true _ A38.out).mono ?_); rintro e w46 ⟨rfl, hb⟩; refine ⟨_, rfl, ?_⟩; have n0_ := Aside0.mk (below_step (by repeat (first | (with_reducible first | exact HB.out | apply below_alloc | apply pw_below_drewN | apply below_drew1) | exact HB.out)) hb); clear HB; have HB := n0_; clear n0_; (try clear hb); (try clear hb2); (try clear hk); (try clear hi)) | ((with_reducible refine gate_callee (f := 6) rfl ?_); refine goesL_ (some 175) rfl rfl Tryz.func6 (by kernel_rfl) rfl #[.int .i64 t403, .int .i64 t404] rfl (by (try simp only [List.map_toArray, List.map_cons, List.map_nil]); first | done | rfl | (simp only [List.length_drop, List.length_take]; rfl)) ?_; (with_reducible refine (impl_DividePoly.calls kj33 t403 t404 t411 t412 true _ A39.out).mono ?_); rintro e w47 ⟨rfl, hb⟩; refine ⟨_, rfl, ?_⟩; have n0_ := Aside0.mk (below_step (by repeat (first | (with_reducible first | exact HB.out | apply below_alloc | apply pw_below_drewN | apply below_drew1) | exact HB.out)) hb); clear HB; have HB := n0_; clear n0_; (try clear hb); (try clear hb2); (try clear hk); (try clear hi)))
                   go_ret
                   exact ⟨by first | rfl | (simp [errW_none, errW_some] <;> rfl) | (simp [*, errW_none, errW_some] <;> rfl), by repeat (first | (with_reducible first | exact HB.out | apply below_alloc | apply pw_below_drewN | apply below_drew1) | exact HB.out)⟩
                ·rw [if_neg c42] at H
                 have c42b0 : (t409 == 0) = false := beq_eq_false_iff_ne.mpr c42
                 have c42b1 : (t409 != 0) = true := bne_iff_ne.mpr c42
                 (first | rw [c42b0] | (simp only [i64_w, i32_w]; rw [c42b0]) | skip)
                 as_aux_lemma =>
                  obtain rfl := Option.some.inj H
                  go_wp2_with (first | ((with_reducible refine gate_callee (f := 6) rfl ?_); refine goesL_ (some 168) rfl rfl Tryz.func6 (by kernel_rfl) rfl #[.int .i64 t402, .int .i64 t404] rfl (by (try simp only [List.map_toArray, List.map_cons, List.map_nil]); first | done | rfl | (simp only [List.length_drop, List.length_take]; rfl)) ?_; (with_reducible refine (impl_DividePoly.calls kj33 t402 t404 t408 t409 true _ A38.out).mono ?_); rintro e w48 ⟨rfl, hb⟩; refine ⟨_, rfl, ?_⟩; have n0_ := Aside0.mk (below_step (by repeat (first | (with_reducible first | exact HB.out | apply below_alloc | apply pw_below_drewN | apply below_drew1) | exact HB.out)) hb); clear HB; have HB := n0_; clear n0_; (try clear hb); (try clear hb2); (try clear hk); (try clear hi)) | ((with_reducible refine gate_callee (f := 6) rfl ?_); refine goesL_ (some 175) rfl rfl Tryz.func6 (by kernel_rfl) rfl #[.int .i64 t403, .int .i64 t404] rfl (by (try simp only [List.map_toArray, List.map_cons, List.map_nil]); first | done | rfl | (simp only [List.length_drop, List.length_take]; rfl)) ?_; (with_reducible refine (impl_DividePoly.calls kj33 t403 t404 t411 t412 true _ A39.out).mono ?_); rintro e w49 ⟨rfl, hb⟩; refine ⟨_, rfl, ?_⟩; have n0_ := Aside0.mk (below_step (by repeat (first | (with_reducible first | exact HB.out | apply below_alloc | apply pw_below_drewN | apply below_drew1) | exact HB.out)) hb); clear HB; have HB := n0_; clear n0_; (try clear hb); (try clear hb2); (try clear hk); (try clear hi)))
                  go_ret
                  exact ⟨by first | rfl | (simp [errW_none, errW_some] <;> rfl) | (simp [*, errW_none, errW_some] <;> rfl), by repeat (first | (with_reducible first | exact HB.out | apply below_alloc | apply pw_below_drewN | apply below_drew1) | exact HB.out)⟩
               ·replace c41 := Bool.eq_false_iff.mpr c41
                subst c41
                have H1 : (some false) = some r := by rw [if_neg (show ¬ (false = true) by decide)] at H; exact H
                clear H
                have H := H1
                clear H1
                as_aux_lemma =>
                 obtain rfl := Option.some.inj H
                 go_wp2_with (first | ((with_reducible refine gate_callee (f := 6) rfl ?_); refine goesL_ (some 168) rfl rfl Tryz.func6 (by kernel_rfl) rfl #[.int .i64 t402, .int .i64 t404] rfl (by (try simp only [List.map_toArray, List.map_cons, List.map_nil]); first | done | rfl | (simp only [List.length_drop, List.length_take]; rfl)) ?_; (with_reducible refine (impl_DividePoly.calls kj33 t402 t404 t408 t409 true _ A38.out).mono ?_); rintro e w50 ⟨rfl, hb⟩; refine ⟨_, rfl, ?_⟩; have n0_ := Aside0.mk (below_step (by repeat (first | (with_reducible first | exact HB.out | apply below_alloc | apply pw_below_drewN | apply below_drew1) | exact HB.out)) hb); clear HB; have HB := n0_; clear n0_; (try clear hb); (try clear hb2); (try clear hk); (try clear hi)) | ((with_reducible refine gate_callee (f := 6) rfl ?_); refine goesL_ (some 175) rfl rfl Tryz.func6 (by kernel_rfl) rfl #[.int .i64 t403, .int .i64 t404] rfl (by (try simp only [List.map_toArray, List.map_cons, List.map_nil]); first | done | rfl | (simp only [List.length_drop, List.length_take]; rfl)) ?_; (with_reducible refine (impl_DividePoly.calls kj33 t403 t404 t411 t412 false _ A39.out).mono ?_); rintro e w51 ⟨rfl, hb⟩; refine ⟨_, rfl, ?_⟩; have n0_ := Aside0.mk (below_step (by repeat (first | (with_reducible first | exact HB.out | apply below_alloc | apply pw_below_drewN | apply below_drew1) | exact HB.out)) hb); clear HB; have HB := n0_; clear n0_; (try clear hb); (try clear hb2); (try clear hk); (try clear hi)))
                 go_ret
                 exact ⟨by first | rfl | (simp [errW_none, errW_some] <;> rfl) | (simp [*, errW_none, errW_some] <;> rfl), by repeat (first | (with_reducible first | exact HB.out | apply below_alloc | apply pw_below_drewN | apply below_drew1) | exact HB.out)⟩
              ·replace c40 := Bool.eq_false_iff.mpr c40
               subst c40
               have H1 : (some false) = some r := by rw [if_neg (show ¬ (false = true) by decide)] at H; exact H
               clear H
               have H := H1
               clear H1
               as_aux_lemma =>
                obtain rfl := Option.some.inj H
                go_wp2_with (first | ((with_reducible refine gate_callee (f := 6) rfl ?_); refine goesL_ (some 168) rfl rfl Tryz.func6 (by kernel_rfl) rfl #[.int .i64 t402, .int .i64 t404] rfl (by (try simp only [List.map_toArray, List.map_cons, List.map_nil]); first | done | rfl | (simp only [List.length_drop, List.length_take]; rfl)) ?_; (with_reducible refine (impl_DividePoly.calls kj33 t402 t404 t408 t409 false _ A38.out).mono ?_); rintro e w52 ⟨rfl, hb⟩; refine ⟨_, rfl, ?_⟩; have n0_ := Aside0.mk (below_step (by repeat (first | (with_reducible first | exact HB.out | apply below_alloc | apply pw_below_drewN | apply below_drew1) | exact HB.out)) hb); clear HB; have HB := n0_; clear n0_; (try clear hb); (try clear hb2); (try clear hk); (try clear hi)) | ((with_reducible refine gate_callee (f := 6) rfl ?_); refine goesL_ (some 175) rfl rfl Tryz.func6 (by kernel_rfl) rfl #[.int .i64 t403, .int .i64 t404] rfl (by (try simp only [List.map_toArray, List.map_cons, List.map_nil]); first | done | rfl | (simp only [List.length_drop, List.length_take]; rfl)) ?_; (with_reducible refine (impl_DividePoly.calls kj33 t403 t404 t411 t412 t413 _ A39.out).mono ?_); rintro e w53 ⟨rfl, hb⟩; refine ⟨_, rfl, ?_⟩; have n0_ := Aside0.mk (below_step (by repeat (first | (with_reducible first | exact HB.out | apply below_alloc | apply pw_below_drewN | apply below_drew1) | exact HB.out)) hb); clear HB; have HB := n0_; clear n0_; (try clear hb); (try clear hb2); (try clear hk); (try clear hi)))
                go_ret
                exact ⟨by first | rfl | (simp [errW_none, errW_some] <;> rfl) | (simp [*, errW_none, errW_some] <;> rfl), by repeat (first | (with_reducible first | exact HB.out | apply below_alloc | apply pw_below_drewN | apply below_drew1) | exact HB.out)⟩
             ·replace c37 := Bool.eq_false_iff.mpr c37
              subst c37
              have H1 : (laws_FnPolynomialsDivide.j4 kj33 l0 l1) = some r := by rw [if_neg (show ¬ (false = true) by decide)] at H; exact H
              clear H
              have H := H1
              clear H1
              as_aux_lemma =>
               have H' := Aside0.mk H
               clear H
               go_wp2
               go_meet
               case rel => exact ⟨_, H', ⟨by have := HJ7.out; have := HJ13.out; have := HJ28.out; have := HJ33.out; first | omega | exact Nat.le_refl _⟩, ⟨by repeat (first | (with_reducible first | exact HB.out | apply below_alloc | apply pw_below_drewN | apply below_drew1) | exact HB.out)⟩⟩
            case rest =>
             clear HC36;(try clear c1);(try clear c2);(try clear p2);(try clear c3);(try clear c4);(try clear c5);(try clear c6);(try clear c7);(try clear c8);(try clear c10);(try clear c11);(try clear c11b0);(try clear c11b1);(try clear c11b2);(try clear c12);(try clear c12b0);(try clear c12b1);(try clear c13);(try clear c15);(try clear c17);(try clear c18);(try clear c18b0);(try clear c18b1);(try clear c21);(try clear c21b0);(try clear c32);(try clear c32b0);(try clear c32b1);(try clear c32b2);(try clear c33);(try clear c35);(try clear c37);(try clear c40);(try clear c41);(try clear c42);(try clear c42b0);(try clear c42b1);(try clear c43);(try clear c43b0);(try clear c43b1);(try clear p2)
             obtain ⟨kq, HA, HJ35, HB⟩ := hcut
             cases kq with
             | zero => exact absurd HA.out (by simp [laws_FnPolynomialsDivide.j4])
             | succ kj35 =>
              have H := HA.out
              clear HA
              simp only [laws_FnPolynomialsDivide.j4] at H
              replace H := Option.bind_eq_some_iff.mp H
              obtain ⟨⟨t414, t415⟩, A540, H⟩ := H
              replace H : ((impl_TimesPoly.f kj35 t414 t415).bind fun bt416 => ((spec_TimesPoly.f kj35 t414 t415).bind fun bt418 => (if (bt416.2 != bt418.2) = true then (laws_FnPolynomialsDivide.j5 kj35 l0 l1 t414 t415 bt416.1 bt416.2 true) else (laws_FnPolynomialsDivide.j5 kj35 l0 l1 t414 t415 bt416.1 bt416.2 (bt416.1 != bt418.1))))) = some r := H
              have A54 := Aside0.mk A540
              clear A540
              replace H := Option.bind_eq_some_iff.mp H
              obtain ⟨⟨t416, t417⟩, A550, H⟩ := H
              replace H : ((spec_TimesPoly.f kj35 t414 t415).bind fun bt418 => (if (t417 != bt418.2) = true then (laws_FnPolynomialsDivide.j5 kj35 l0 l1 t414 t415 t416 t417 true) else (laws_FnPolynomialsDivide.j5 kj35 l0 l1 t414 t415 t416 t417 (t416 != bt418.1)))) = some r := H
              have A55 := Aside0.mk A550
              clear A550
              replace H := Option.bind_eq_some_iff.mp H
              obtain ⟨⟨t418, t419⟩, A560, H⟩ := H
              replace H : (if (t417 != t419) = true then (laws_FnPolynomialsDivide.j5 kj35 l0 l1 t414 t415 t416 t417 true) else (laws_FnPolynomialsDivide.j5 kj35 l0 l1 t414 t415 t416 t417 (t416 != t418))) = some r := H
              have A56 := Aside0.mk A560
              clear A560
              have HC57 := Aside0.mk H
              clear H
              go_upto_region 25 with (first | ((with_reducible refine gate_callee (f := 13) rfl ?_); refine goesL_ (some 195) rfl rfl Tryz.func13 (by kernel_rfl) rfl #[.slice A1 l1.length c1] rfl (by (try simp only [List.map_toArray, List.map_cons, List.map_nil]); first | done | rfl | (simp only [List.length_drop, List.length_take]; rfl)) ?_; (with_reducible refine (spec_DrawTimesPoly.calls kj35 _ _ l1 t414 t415 _ ?side1 ?side2 A54.out).mono ?_); (case side1 => repeat (first | exact (Kd.C_below HR1.out HB.out) | (with_reducible refine Kd.C_alloc ?_ _) | (with_reducible refine Kd.C_drewN ?_ _) | (with_reducible refine Kd.C_drew ?_))); (case side2 => exact HC1.out); rintro e w58 ⟨rfl, hb⟩; refine ⟨_, rfl, ?_⟩; have n0_ := Aside0.mk (below_step (by repeat (first | (with_reducible first | exact HB.out | apply below_alloc | apply pw_below_drewN | apply below_drew1) | exact HB.out)) hb); clear HB; have HB := n0_; clear n0_; (try clear hb); (try clear hb2); (try clear hk); (try clear hi)) | ((with_reducible refine gate_callee (f := 8) rfl ?_); refine goesL_ (some 201) rfl rfl Tryz.func8 (by kernel_rfl) rfl #[.int .i64 t414, .int .i64 t415] rfl (by (try simp only [List.map_toArray, List.map_cons, List.map_nil]); first | done | rfl | (simp only [List.length_drop, List.length_take]; rfl)) ?_; (with_reducible refine (impl_TimesPoly.calls kj35 t414 t415 t416 t417 _ A55.out).mono ?_); rintro e w59 ⟨rfl, hb⟩; refine ⟨_, rfl, ?_⟩; have n0_ := Aside0.mk (below_step (by repeat (first | (with_reducible first | exact HB.out | apply below_alloc | apply pw_below_drewN | apply below_drew1) | exact HB.out)) hb); clear HB; have HB := n0_; clear n0_; (try clear hb); (try clear hb2); (try clear hk); (try clear hi)) | ((with_reducible refine gate_callee (f := 14) rfl ?_); refine goesL_ (some 207) rfl rfl Tryz.func14 (by kernel_rfl) rfl #[.int .i64 t414, .int .i64 t415] rfl (by (try simp only [List.map_toArray, List.map_cons, List.map_nil]); first | done | rfl | (simp only [List.length_drop, List.length_take]; rfl)) ?_; (with_reducible refine (spec_TimesPoly.calls kj35 t414 t415 t418 t419 _ A56.out).mono ?_); rintro e w' ⟨rfl, ⟨nd, rfl⟩⟩; refine ⟨_, rfl, ?_⟩))
              (try simp only [Act.put, List.setIfInBounds_toArray, List.set_cons_zero, List.set_cons_succ])
              go_cut [217] from 193 to 217 (fun v217 wc => ∃ (kq : Nat) (x217_56 : Bool), v217 = .bool x217_56 ∧ Aside0 (laws_FnPolynomialsDivide.j5 kq l0 l1 t414 t415 t416 t417 x217_56 = some r) ∧ Aside0 (kq ≤ kj35) ∧ Aside0 (Below w.heap.size w wc))
              case first =>
               have H := HC57.out
               clear HC57
               by_cases c60 : (t417 != t419) = true
               ·rw [if_pos c60] at H
                have c60b0 : (t417 != t419) = true := c60
                (try (have c60b1 : decide (t417 = t419) = false := by simpa using c60))
                (try (have c60b2 : (t417 == t419) = false := by simpa using c60))
                (try (have c60b3 : ¬ (t417 = t419) := by simpa using c60))
                clear c60
                (first | rw [c60b0] | (simp only [i64_w, i32_w]; rw [c60b0]) | skip)
                as_aux_lemma =>
                 have H' := Aside0.mk H
                 clear H
                 go_wp2
                 go_meet
                 case rel => exact ⟨_, (true), (by first | rfl | (simp; done) | (simp [*]; done)), H', ⟨by have := HJ7.out; have := HJ13.out; have := HJ28.out; have := HJ33.out; have := HJ35.out; first | omega | exact Nat.le_refl _⟩, ⟨by repeat (first | (with_reducible first | exact HB.out | apply below_alloc | apply pw_below_drewN | apply below_drew1) | exact HB.out)⟩⟩
               ·rw [if_neg c60] at H
                have c60b0 : (t417 != t419) = false := by simpa using c60
                (try (have c60b1 : decide (t417 = t419) = true := by simpa using c60))
                (try (have c60b2 : (t417 == t419) = true := by simpa using c60))
                clear c60
                (first | rw [c60b0] | (simp only [i64_w, i32_w]; rw [c60b0]) | skip)
                as_aux_lemma =>
                 have H' := Aside0.mk H
                 clear H
                 go_wp2
                 go_meet
                 case rel => exact ⟨_, ((t416 != t418)), (by first | rfl | (simp; done) | (simp [*]; done)), H', ⟨by have := HJ7.out; have := HJ13.out; have := HJ28.out; have := HJ33.out; have := HJ35.out; first | omega | exact Nat.le_refl _⟩, ⟨by repeat (first | (with_reducible first | exact HB.out | apply below_alloc | apply pw_below_drewN | apply below_drew1) | exact HB.out)⟩⟩
              case rest =>
               clear HC57;(try clear c1);(try clear c2);(try clear p2);(try clear c3);(try clear c4);(try clear c5);(try clear c6);(try clear c7);(try clear c8);(try clear c10);(try clear c11);(try clear c11b0);(try clear c11b1);(try clear c11b2);(try clear c12);(try clear c12b0);(try clear c12b1);(try clear c13);(try clear c14);(try clear c15);(try clear c17);(try clear c18);(try clear c18b0);(try clear c18b1);(try clear c21);(try clear c21b0);(try clear c32);(try clear c32b0);(try clear c32b1);(try clear c32b2);(try clear c33);(try clear c35);(try clear c37);(try clear c40);(try clear c41);(try clear c42);(try clear c42b0);(try clear c42b1);(try clear c43);(try clear c43b0);(try clear c43b1);(try clear c60);(try clear c60b0);(try clear c60b1);(try clear c60b2);(try clear p2)
               obtain ⟨kq, x217_56, rfl, HA, HJ56, HB⟩ := hcut
               cases kq with
               | zero => exact absurd HA.out (by simp [laws_FnPolynomialsDivide.j5])
               | succ kj56 =>
                have H := HA.out
                clear HA
                simp only [laws_FnPolynomialsDivide.j5] at H
                by_cases c61 : x217_56 = true
                ·subst c61
                 have H1 : (some false) = some r := by rw [if_pos rfl] at H; exact H
                 clear H
                 have H := H1
                 clear H1
                 as_aux_lemma =>
                  obtain rfl := Option.some.inj H
                  go_wp2
                  go_ret
                  exact ⟨by first | rfl | (simp [errW_none, errW_some] <;> rfl) | (simp [*, errW_none, errW_some] <;> rfl), by repeat (first | (with_reducible first | exact HB.out | apply below_alloc | apply pw_below_drewN | apply below_drew1) | exact HB.out)⟩
                ·replace c61 := Bool.eq_false_iff.mpr c61
                 subst c61
                 have H1 : (if t417 = true then ((impl_ShiftPoly.f kj56 t414).bind fun bt420 => ((impl_ShiftPoly.f kj56 t415).bind fun bt422 => ((impl_ShiftPoly.f kj56 t416).bind fun bt424 => ((impl_TimesPoly.f kj56 bt420.1 bt422.1).bind fun bt426 => ((impl_DerivativeOf.f kj56 t414).bind fun bt428 => ((impl_DerivativeOf.f kj56 t415).bind fun bt430 => ((impl_DerivativeOf.f kj56 t416).bind fun bt432 => ((impl_TimesPoly.f kj56 bt428.1 t415).bind fun bt434 => ((impl_TimesPoly.f kj56 t414 bt430.1).bind fun bt436 => (if bt420.2 = true then (if bt422.2 = true then (if bt424.2 = true then (if bt426.2 = true then (if bt428.2 = true then (if bt430.2 = true then (if bt432.2 = true then (if bt434.2 = true then (if bt436.2 = true then (if bt426.1 = bt424.1 then (if bt432.1 = (Go.bits .xor .i64 bt434.1 bt436.1) then (laws_FnPolynomialsDivide.j6 kj56 l0 l1) else (some false)) else (some false)) else (some false)) else (some false)) else (some false)) else (some false)) else (some false)) else (some false)) else (some false)) else (some false)) else (some false))))))))))) else (laws_FnPolynomialsDivide.j6 kj56 l0 l1)) = some r := by rw [if_neg (show ¬ (false = true) by decide)] at H; exact H
                 clear H
                 have H := H1
                 clear H1
                 have HC62 := Aside0.mk H
                 clear H
                 go_upto_if 218 with (fail)
                 go_cut [] from 218 to 312 (fun wc => ∃ (kq : Nat), Aside0 (laws_FnPolynomialsDivide.j6 kq l0 l1 = some r) ∧ Aside0 (kq ≤ kj56) ∧ Aside0 (Below w.heap.size w wc))
                 case first =>
                  have H := HC62.out
                  clear HC62
                  by_cases c63 : t417 = true
                  ·subst c63
                   have H1 : ((impl_ShiftPoly.f kj56 t414).bind fun bt420 => ((impl_ShiftPoly.f kj56 t415).bind fun bt422 => ((impl_ShiftPoly.f kj56 t416).bind fun bt424 => ((impl_TimesPoly.f kj56 bt420.1 bt422.1).bind fun bt426 => ((impl_DerivativeOf.f kj56 t414).bind fun bt428 => ((impl_DerivativeOf.f kj56 t415).bind fun bt430 => ((impl_DerivativeOf.f kj56 t416).bind fun bt432 => ((impl_TimesPoly.f kj56 bt428.1 t415).bind fun bt434 => ((impl_TimesPoly.f kj56 t414 bt430.1).bind fun bt436 => (if bt420.2 = true then (if bt422.2 = true then (if bt424.2 = true then (if bt426.2 = true then (if bt428.2 = true then (if bt430.2 = true then (if bt432.2 = true then (if bt434.2 = true then (if bt436.2 = true then (if bt426.1 = bt424.1 then (if bt432.1 = (Go.bits .xor .i64 bt434.1 bt436.1) then (laws_FnPolynomialsDivide.j6 kj56 l0 l1) else (some false)) else (some false)) else (some false)) else (some false)) else (some false)) else (some false)) else (some false)) else (some false)) else (some false)) else (some false)) else (some false))))))))))) = some r := by rw [if_pos rfl] at H; exact H
                   clear H
                   have H := H1
                   clear H1
                   replace H := Option.bind_eq_some_iff.mp H
                   obtain ⟨⟨t420, t421⟩, A640, H⟩ := H
                   replace H : ((impl_ShiftPoly.f kj56 t415).bind fun bt422 => ((impl_ShiftPoly.f kj56 t416).bind fun bt424 => ((impl_TimesPoly.f kj56 t420 bt422.1).bind fun bt426 => ((impl_DerivativeOf.f kj56 t414).bind fun bt428 => ((impl_DerivativeOf.f kj56 t415).bind fun bt430 => ((impl_DerivativeOf.f kj56 t416).bind fun bt432 => ((impl_TimesPoly.f kj56 bt428.1 t415).bind fun bt434 => ((impl_TimesPoly.f kj56 t414 bt430.1).bind fun bt436 => (if t421 = true then (if bt422.2 = true then (if bt424.2 = true then (if bt426.2 = true then (if bt428.2 = true then (if bt430.2 = true then (if bt432.2 = true then (if bt434.2 = true then (if bt436.2 = true then (if bt426.1 = bt424.1 then (if bt432.1 = (Go.bits .xor .i64 bt434.1 bt436.1) then (laws_FnPolynomialsDivide.j6 kj56 l0 l1) else (some false)) else (some false)) else (some false)) else (some false)) else (some false)) else (some false)) else (some false)) else (some false)) else (some false)) else (some false)) else (some false)))))))))) = some r := H
                   have A64 := Aside0.mk A640
                   clear A640
                   replace H := Option.bind_eq_some_iff.mp H
                   obtain ⟨⟨t422, t423⟩, A650, H⟩ := H
                   replace H : ((impl_ShiftPoly.f kj56 t416).bind fun bt424 => ((impl_TimesPoly.f kj56 t420 t422).bind fun bt426 => ((impl_DerivativeOf.f kj56 t414).bind fun bt428 => ((impl_DerivativeOf.f kj56 t415).bind fun bt430 => ((impl_DerivativeOf.f kj56 t416).bind fun bt432 => ((impl_TimesPoly.f kj56 bt428.1 t415).bind fun bt434 => ((impl_TimesPoly.f kj56 t414 bt430.1).bind fun bt436 => (if t421 = true then (if t423 = true then (if bt424.2 = true then (if bt426.2 = true then (if bt428.2 = true then (if bt430.2 = true then (if bt432.2 = true then (if bt434.2 = true then (if bt436.2 = true then (if bt426.1 = bt424.1 then (if bt432.1 = (Go.bits .xor .i64 bt434.1 bt436.1) then (laws_FnPolynomialsDivide.j6 kj56 l0 l1) else (some false)) else (some false)) else (some false)) else (some false)) else (some false)) else (some false)) else (some false)) else (some false)) else (some false)) else (some false)) else (some false))))))))) = some r := H
                   have A65 := Aside0.mk A650
                   clear A650
                   replace H := Option.bind_eq_some_iff.mp H
                   obtain ⟨⟨t424, t425⟩, A660, H⟩ := H
                   replace H : ((impl_TimesPoly.f kj56 t420 t422).bind fun bt426 => ((impl_DerivativeOf.f kj56 t414).bind fun bt428 => ((impl_DerivativeOf.f kj56 t415).bind fun bt430 => ((impl_DerivativeOf.f kj56 t416).bind fun bt432 => ((impl_TimesPoly.f kj56 bt428.1 t415).bind fun bt434 => ((impl_TimesPoly.f kj56 t414 bt430.1).bind fun bt436 => (if t421 = true then (if t423 = true then (if t425 = true then (if bt426.2 = true then (if bt428.2 = true then (if bt430.2 = true then (if bt432.2 = true then (if bt434.2 = true then (if bt436.2 = true then (if bt426.1 = t424 then (if bt432.1 = (Go.bits .xor .i64 bt434.1 bt436.1) then (laws_FnPolynomialsDivide.j6 kj56 l0 l1) else (some false)) else (some false)) else (some false)) else (some false)) else (some false)) else (some false)) else (some false)) else (some false)) else (some false)) else (some false)) else (some false)))))))) = some r := H
                   have A66 := Aside0.mk A660
                   clear A660
                   replace H := Option.bind_eq_some_iff.mp H
                   obtain ⟨⟨t426, t427⟩, A670, H⟩ := H
                   replace H : ((impl_DerivativeOf.f kj56 t414).bind fun bt428 => ((impl_DerivativeOf.f kj56 t415).bind fun bt430 => ((impl_DerivativeOf.f kj56 t416).bind fun bt432 => ((impl_TimesPoly.f kj56 bt428.1 t415).bind fun bt434 => ((impl_TimesPoly.f kj56 t414 bt430.1).bind fun bt436 => (if t421 = true then (if t423 = true then (if t425 = true then (if t427 = true then (if bt428.2 = true then (if bt430.2 = true then (if bt432.2 = true then (if bt434.2 = true then (if bt436.2 = true then (if t426 = t424 then (if bt432.1 = (Go.bits .xor .i64 bt434.1 bt436.1) then (laws_FnPolynomialsDivide.j6 kj56 l0 l1) else (some false)) else (some false)) else (some false)) else (some false)) else (some false)) else (some false)) else (some false)) else (some false)) else (some false)) else (some false)) else (some false))))))) = some r := H
                   have A67 := Aside0.mk A670
                   clear A670
                   replace H := Option.bind_eq_some_iff.mp H
                   obtain ⟨⟨t428, t429⟩, A680, H⟩ := H
                   replace H : ((impl_DerivativeOf.f kj56 t415).bind fun bt430 => ((impl_DerivativeOf.f kj56 t416).bind fun bt432 => ((impl_TimesPoly.f kj56 t428 t415).bind fun bt434 => ((impl_TimesPoly.f kj56 t414 bt430.1).bind fun bt436 => (if t421 = true then (if t423 = true then (if t425 = true then (if t427 = true then (if t429 = true then (if bt430.2 = true then (if bt432.2 = true then (if bt434.2 = true then (if bt436.2 = true then (if t426 = t424 then (if bt432.1 = (Go.bits .xor .i64 bt434.1 bt436.1) then (laws_FnPolynomialsDivide.j6 kj56 l0 l1) else (some false)) else (some false)) else (some false)) else (some false)) else (some false)) else (some false)) else (some false)) else (some false)) else (some false)) else (some false)) else (some false)))))) = some r := H
                   have A68 := Aside0.mk A680
                   clear A680
                   replace H := Option.bind_eq_some_iff.mp H
                   obtain ⟨⟨t430, t431⟩, A690, H⟩ := H
                   replace H : ((impl_DerivativeOf.f kj56 t416).bind fun bt432 => ((impl_TimesPoly.f kj56 t428 t415).bind fun bt434 => ((impl_TimesPoly.f kj56 t414 t430).bind fun bt436 => (if t421 = true then (if t423 = true then (if t425 = true then (if t427 = true then (if t429 = true then (if t431 = true then (if bt432.2 = true then (if bt434.2 = true then (if bt436.2 = true then (if t426 = t424 then (if bt432.1 = (Go.bits .xor .i64 bt434.1 bt436.1) then (laws_FnPolynomialsDivide.j6 kj56 l0 l1) else (some false)) else (some false)) else (some false)) else (some false)) else (some false)) else (some false)) else (some false)) else (some false)) else (some false)) else (some false)) else (some false))))) = some r := H
                   have A69 := Aside0.mk A690
                   clear A690
                   replace H := Option.bind_eq_some_iff.mp H
                   obtain ⟨⟨t432, t433⟩, A700, H⟩ := H
                   replace H : ((impl_TimesPoly.f kj56 t428 t415).bind fun bt434 => ((impl_TimesPoly.f kj56 t414 t430).bind fun bt436 => (if t421 = true then (if t423 = true then (if t425 = true then (if t427 = true then (if t429 = true then (if t431 = true then (if t433 = true then (if bt434.2 = true then (if bt436.2 = true then (if t426 = t424 then (if t432 = (Go.bits .xor .i64 bt434.1 bt436.1) then (laws_FnPolynomialsDivide.j6 kj56 l0 l1) else (some false)) else (some false)) else (some false)) else (some false)) else (some false)) else (some false)) else (some false)) else (some false)) else (some false)) else (some false)) else (some false)))) = some r := H
                   have A70 := Aside0.mk A700
                   clear A700
                   replace H := Option.bind_eq_some_iff.mp H
                   obtain ⟨⟨t434, t435⟩, A710, H⟩ := H
                   replace H : ((impl_TimesPoly.f kj56 t414 t430).bind fun bt436 => (if t421 = true then (if t423 = true then (if t425 = true then (if t427 = true then (if t429 = true then (if t431 = true then (if t433 = true then (if t435 = true then (if bt436.2 = true then (if t426 = t424 then (if t432 = (Go.bits .xor .i64 t434 bt436.1) then (laws_FnPolynomialsDivide.j6 kj56 l0 l1) else (some false)) else (some false)) else (some false)) else (some false)) else (some false)) else (some false)) else (some false)) else (some false)) else (some false)) else (some false)) else (some false))) = some r := H
                   have A71 := Aside0.mk A710
                   clear A710
                   replace H := Option.bind_eq_some_iff.mp H
                   obtain ⟨⟨t436, t437⟩, A720, H⟩ := H
                   replace H : (if t421 = true then (if t423 = true then (if t425 = true then (if t427 = true then (if t429 = true then (if t431 = true then (if t433 = true then (if t435 = true then (if t437 = true then (if t426 = t424 then (if t432 = (Go.bits .xor .i64 t434 t436) then (laws_FnPolynomialsDivide.j6 kj56 l0 l1) else (some false)) else (some false)) else (some false)) else (some false)) else (some false)) else (some false)) else (some false)) else (some false)) else (some false)) else (some false)) else (some false)) = some r := H
                   have A72 := Aside0.mk A720
                   clear A720
                   by_cases c73 : t421 = true
                   ·subst c73
                    have H1 : (if t423 = true then (if t425 = true then (if t427 = true then (if t429 = true then (if t431 = true then (if t433 = true then (if t435 = true then (if t437 = true then (if t426 = t424 then (if t432 = (Go.bits .xor .i64 t434 t436) then (laws_FnPolynomialsDivide.j6 kj56 l0 l1) else (some false)) else (some false)) else (some false)) else (some false)) else (some false)) else (some false)) else (some false)) else (some false)) else (some false)) else (some false)) = some r := by rw [if_pos rfl] at H; exact H
                    clear H
                    have H := H1
                    clear H1
                    by_cases c74 : t423 = true
                    ·subst c74
                     have H1 : (if t425 = true then (if t427 = true then (if t429 = true then (if t431 = true then (if t433 = true then (if t435 = true then (if t437 = true then (if t426 = t424 then (if t432 = (Go.bits .xor .i64 t434 t436) then (laws_FnPolynomialsDivide.j6 kj56 l0 l1) else (some false)) else (some false)) else (some false)) else (some false)) else (some false)) else (some false)) else (some false)) else (some false)) else (some false)) = some r := by rw [if_pos rfl] at H; exact H
                     clear H
                     have H := H1
                     clear H1
                     by_cases c75 : t425 = true
                     ·subst c75
                      have H1 : (if t427 = true then (if t429 = true then (if t431 = true then (if t433 = true then (if t435 = true then (if t437 = true then (if t426 = t424 then (if t432 = (Go.bits .xor .i64 t434 t436) then (laws_FnPolynomialsDivide.j6 kj56 l0 l1) else (some false)) else (some false)) else (some false)) else (some false)) else (some false)) else (some false)) else (some false)) else (some false)) = some r := by rw [if_pos rfl] at H; exact H
                      clear H
                      have H := H1
                      clear H1
                      by_cases c76 : t427 = true
                      ·subst c76
                       have H1 : (if t429 = true then (if t431 = true then (if t433 = true then (if t435 = true then (if t437 = true then (if t426 = t424 then (if t432 = (Go.bits .xor .i64 t434 t436) then (laws_FnPolynomialsDivide.j6 kj56 l0 l1) else (some false)) else (some false)) else (some false)) else (some false)) else (some false)) else (some false)) else (some false)) = some r := by rw [if_pos rfl] at H; exact H
                       clear H
                       have H := H1
                       clear H1
                       by_cases c77 : t429 = true
                       ·subst c77
                        have H1 : (if t431 = true then (if t433 = true then (if t435 = true then (if t437 = true then (if t426 = t424 then (if t432 = (Go.bits .xor .i64 t434 t436) then (laws_FnPolynomialsDivide.j6 kj56 l0 l1) else (some false)) else (some false)) else (some false)) else (some false)) else (some false)) else (some false)) = some r := by rw [if_pos rfl] at H; exact H
                        clear H
                        have H := H1
                        clear H1
                        by_cases c78 : t431 = true
                        ·subst c78
                         have H1 : (if t433 = true then (if t435 = true then (if t437 = true then (if t426 = t424 then (if t432 = (Go.bits .xor .i64 t434 t436) then (laws_FnPolynomialsDivide.j6 kj56 l0 l1) else (some false)) else (some false)) else (some false)) else (some false)) else (some false)) = some r := by rw [if_pos rfl] at H; exact H
                         clear H
                         have H := H1
                         clear H1
                         by_cases c79 : t433 = true
                         ·subst c79
                          have H1 : (if t435 = true then (if t437 = true then (if t426 = t424 then (if t432 = (Go.bits .xor .i64 t434 t436) then (laws_FnPolynomialsDivide.j6 kj56 l0 l1) else (some false)) else (some false)) else (some false)) else (some false)) = some r := by rw [if_pos rfl] at H; exact H
                          clear H
                          have H := H1
                          clear H1
                          by_cases c80 : t435 = true
                          ·subst c80
                           have H1 : (if t437 = true then (if t426 = t424 then (if t432 = (Go.bits .xor .i64 t434 t436) then (laws_FnPolynomialsDivide.j6 kj56 l0 l1) else (some false)) else (some false)) else (some false)) = some r := by rw [if_pos rfl] at H; exact H
                           clear H
                           have H := H1
                           clear H1
                           by_cases c81 : t437 = true
                           ·subst c81
                            have H1 : (if t426 = t424 then (if t432 = (Go.bits .xor .i64 t434 t436) then (laws_FnPolynomialsDivide.j6 kj56 l0 l1) else (some false)) else (some false)) = some r := by rw [if_pos rfl] at H; exact H
                            clear H
                            have H := H1
                            clear H1
                            by_cases c82 : t426 = t424
                            ·rw [if_pos c82] at H
                             have c82b0 : (t426 == t424) = true := beq_iff_eq.mpr c82
                             have c82b1 : (t426 != t424) = false := bne_eq_false_iff_eq.mpr c82
                             clear c82
                             (first | rw [c82b0] | (simp only [i64_w, i32_w]; rw [c82b0]) | skip)
                             by_cases c83 : t432 = (Go.bits .xor .i64 t434 t436)
                             ·rw [if_pos c83] at H
                              have c83b0 : (t432 == (Go.bits .xor .i64 t434 t436)) = true := beq_iff_eq.mpr c83
                              have c83b1 : (t432 != (Go.bits .xor .i64 t434 t436)) = false := bne_eq_false_iff_eq.mpr c83
                              clear c83
                              as_aux_lemma =>
                               have H' := Aside0.mk H
                               clear H
                               go_wp2_with (first | ((with_reducible refine gate_callee (f := 15) rfl ?_); refine goesL_ (some 221) rfl rfl Tryz.func15 (by kernel_rfl) rfl #[.int .i64 t414] rfl (by (try simp only [List.map_toArray, List.map_cons, List.map_nil]); first | done | rfl | (simp only [List.length_drop, List.length_take]; rfl)) ?_; (with_reducible refine (impl_ShiftPoly.calls kj56 t414 t420 true _ A64.out).mono ?_); rintro e w84 ⟨rfl, hb⟩; refine ⟨_, rfl, ?_⟩; have n0_ := Aside0.mk (below_step (by repeat (first | (with_reducible first | exact HB.out | apply below_alloc | apply pw_below_drewN | apply below_drew1) | exact HB.out)) hb); clear HB; have HB := n0_; clear n0_; (try clear hb); (try clear hb2); (try clear hk); (try clear hi)) | ((with_reducible refine gate_callee (f := 15) rfl ?_); refine goesL_ (some 226) rfl rfl Tryz.func15 (by kernel_rfl) rfl #[.int .i64 t415] rfl (by (try simp only [List.map_toArray, List.map_cons, List.map_nil]); first | done | rfl | (simp only [List.length_drop, List.length_take]; rfl)) ?_; (with_reducible refine (impl_ShiftPoly.calls kj56 t415 t422 true _ A65.out).mono ?_); rintro e w85 ⟨rfl, hb⟩; refine ⟨_, rfl, ?_⟩; have n0_ := Aside0.mk (below_step (by repeat (first | (with_reducible first | exact HB.out | apply below_alloc | apply pw_below_drewN | apply below_drew1) | exact HB.out)) hb); clear HB; have HB := n0_; clear n0_; (try clear hb); (try clear hb2); (try clear hk); (try clear hi)) | ((with_reducible refine gate_callee (f := 15) rfl ?_); refine goesL_ (some 231) rfl rfl Tryz.func15 (by kernel_rfl) rfl #[.int .i64 t416] rfl (by (try simp only [List.map_toArray, List.map_cons, List.map_nil]); first | done | rfl | (simp only [List.length_drop, List.length_take]; rfl)) ?_; (with_reducible refine (impl_ShiftPoly.calls kj56 t416 t424 true _ A66.out).mono ?_); rintro e w86 ⟨rfl, hb⟩; refine ⟨_, rfl, ?_⟩; have n0_ := Aside0.mk (below_step (by repeat (first | (with_reducible first | exact HB.out | apply below_alloc | apply pw_below_drewN | apply below_drew1) | exact HB.out)) hb); clear HB; have HB := n0_; clear n0_; (try clear hb); (try clear hb2); (try clear hk); (try clear hi)) | ((with_reducible refine gate_callee (f := 8) rfl ?_); refine goesL_ (some 237) rfl rfl Tryz.func8 (by kernel_rfl) rfl #[.int .i64 t420, .int .i64 t422] rfl (by (try simp only [List.map_toArray, List.map_cons, List.map_nil]); first | done | rfl | (simp only [List.length_drop, List.length_take]; rfl)) ?_; (with_reducible refine (impl_TimesPoly.calls kj56 t420 t422 t426 true _ A67.out).mono ?_); rintro e w87 ⟨rfl, hb⟩; refine ⟨_, rfl, ?_⟩; have n0_ := Aside0.mk (below_step (by repeat (first | (with_reducible first | exact HB.out | apply below_alloc | apply pw_below_drewN | apply below_drew1) | exact HB.out)) hb); clear HB; have HB := n0_; clear n0_; (try clear hb); (try clear hb2); (try clear hk); (try clear hi)) | ((with_reducible refine gate_callee (f := 16) rfl ?_); refine goesL_ (some 242) rfl rfl Tryz.func16 (by kernel_rfl) rfl #[.int .i64 t414] rfl (by (try simp only [List.map_toArray, List.map_cons, List.map_nil]); first | done | rfl | (simp only [List.length_drop, List.length_take]; rfl)) ?_; (with_reducible refine (impl_DerivativeOf.calls kj56 t414 t428 true _ A68.out).mono ?_); rintro e w88 ⟨rfl, hb⟩; refine ⟨_, rfl, ?_⟩; have n0_ := Aside0.mk (below_step (by repeat (first | (with_reducible first | exact HB.out | apply below_alloc | apply pw_below_drewN | apply below_drew1) | exact HB.out)) hb); clear HB; have HB := n0_; clear n0_; (try clear hb); (try clear hb2); (try clear hk); (try clear hi)) | ((with_reducible refine gate_callee (f := 16) rfl ?_); refine goesL_ (some 247) rfl rfl Tryz.func16 (by kernel_rfl) rfl #[.int .i64 t415] rfl (by (try simp only [List.map_toArray, List.map_cons, List.map_nil]); first | done | rfl | (simp only [List.length_drop, List.length_take]; rfl)) ?_; (with_reducible refine (impl_DerivativeOf.calls kj56 t415 t430 true _ A69.out).mono ?_); rintro e w89 ⟨rfl, hb⟩; refine ⟨_, rfl, ?_⟩; have n0_ := Aside0.mk (below_step (by repeat (first | (with_reducible first | exact HB.out | apply below_alloc | apply pw_below_drewN | apply below_drew1) | exact HB.out)) hb); clear HB; have HB := n0_; clear n0_; (try clear hb); (try clear hb2); (try clear hk); (try clear hi)) | ((with_reducible refine gate_callee (f := 16) rfl ?_); refine goesL_ (some 252) rfl rfl Tryz.func16 (by kernel_rfl) rfl #[.int .i64 t416] rfl (by (try simp only [List.map_toArray, List.map_cons, List.map_nil]); first | done | rfl | (simp only [List.length_drop, List.length_take]; rfl)) ?_; (with_reducible refine (impl_DerivativeOf.calls kj56 t416 t432 true _ A70.out).mono ?_); rintro e w90 ⟨rfl, hb⟩; refine ⟨_, rfl, ?_⟩; have n0_ := Aside0.mk (below_step (by repeat (first | (with_reducible first | exact HB.out | apply below_alloc | apply pw_below_drewN | apply below_drew1) | exact HB.out)) hb); clear HB; have HB := n0_; clear n0_; (try clear hb); (try clear hb2); (try clear hk); (try clear hi)) | ((with_reducible refine gate_callee (f := 8) rfl ?_); refine goesL_ (some 258) rfl rfl Tryz.func8 (by kernel_rfl) rfl #[.int .i64 t428, .int .i64 t415] rfl (by (try simp only [List.map_toArray, List.map_cons, List.map_nil]); first | done | rfl | (simp only [List.length_drop, List.length_take]; rfl)) ?_; (with_reducible refine (impl_TimesPoly.calls kj56 t428 t415 t434 true _ A71.out).mono ?_); rintro e w91 ⟨rfl, hb⟩; refine ⟨_, rfl, ?_⟩; have n0_ := Aside0.mk (below_step (by repeat (first | (with_reducible first | exact HB.out | apply below_alloc | apply pw_below_drewN | apply below_drew1) | exact HB.out)) hb); clear HB; have HB := n0_; clear n0_; (try clear hb); (try clear hb2); (try clear hk); (try clear hi)) | ((with_reducible refine gate_callee (f := 8) rfl ?_); refine goesL_ (some 264) rfl rfl Tryz.func8 (by kernel_rfl) rfl #[.int .i64 t414, .int .i64 t430] rfl (by (try simp only [List.map_toArray, List.map_cons, List.map_nil]); first | done | rfl | (simp only [List.length_drop, List.length_take]; rfl)) ?_; (with_reducible refine (impl_TimesPoly.calls kj56 t414 t430 t436 true _ A72.out).mono ?_); rintro e w92 ⟨rfl, hb⟩; refine ⟨_, rfl, ?_⟩; have n0_ := Aside0.mk (below_step (by repeat (first | (with_reducible first | exact HB.out | apply below_alloc | apply pw_below_drewN | apply below_drew1) | exact HB.out)) hb); clear HB; have HB := n0_; clear n0_; (try clear hb); (try clear hb2); (try clear hk); (try clear hi)))
                               go_meet
                               case rel => exact ⟨_, H', ⟨by have := HJ7.out; have := HJ13.out; have := HJ28.out; have := HJ33.out; have := HJ35.out; have := HJ56.out; first | omega | exact Nat.le_refl _⟩, ⟨by repeat (first | (with_reducible first | exact HB.out | apply below_alloc | apply pw_below_drewN | apply below_drew1) | exact HB.out)⟩⟩
                             ·rw [if_neg c83] at H
                              have c83b0 : (t432 == (Go.bits .xor .i64 t434 t436)) = false := beq_eq_false_iff_ne.mpr c83
                              have c83b1 : (t432 != (Go.bits .xor .i64 t434 t436)) = true := bne_iff_ne.mpr c83
                              as_aux_lemma =>
                               obtain rfl := Option.some.inj H
                               go_wp2_with (first | ((with_reducible refine gate_callee (f := 15) rfl ?_); refine goesL_ (some 221) rfl rfl Tryz.func15 (by kernel_rfl) rfl #[.int .i64 t414] rfl (by (try simp only [List.map_toArray, List.map_cons, List.map_nil]); first | done | rfl | (simp only [List.length_drop, List.length_take]; rfl)) ?_; (with_reducible refine (impl_ShiftPoly.calls kj56 t414 t420 true _ A64.out).mono ?_); rintro e w93 ⟨rfl, hb⟩; refine ⟨_, rfl, ?_⟩; have n0_ := Aside0.mk (below_step (by repeat (first | (with_reducible first | exact HB.out | apply below_alloc | apply pw_below_drewN | apply below_drew1) | exact HB.out)) hb); clear HB; have HB := n0_; clear n0_; (try clear hb); (try clear hb2); (try clear hk); (try clear hi)) | ((with_reducible refine gate_callee (f := 15) rfl ?_); refine goesL_ (some 226) rfl rfl Tryz.func15 (by kernel_rfl) rfl #[.int .i64 t415] rfl (by (try simp only [List.map_toArray, List.map_cons, List.map_nil]); first | done | rfl | (simp only [List.length_drop, List.length_take]; rfl)) ?_; (with_reducible refine (impl_ShiftPoly.calls kj56 t415 t422 true _ A65.out).mono ?_); rintro e w94 ⟨rfl, hb⟩; refine ⟨_, rfl, ?_⟩; have n0_ := Aside0.mk (below_step (by repeat (first | (with_reducible first | exact HB.out | apply below_alloc | apply pw_below_drewN | apply below_drew1) | exact HB.out)) hb); clear HB; have HB := n0_; clear n0_; (try clear hb); (try clear hb2); (try clear hk); (try clear hi)) | ((with_reducible refine gate_callee (f := 15) rfl ?_); refine goesL_ (some 231) rfl rfl Tryz.func15 (by kernel_rfl) rfl #[.int .i64 t416] rfl (by (try simp only [List.map_toArray, List.map_cons, List.map_nil]); first | done | rfl | (simp only [List.length_drop, List.length_take]; rfl)) ?_; (with_reducible refine (impl_ShiftPoly.calls kj56 t416 t424 true _ A66.out).mono ?_); rintro e w95 ⟨rfl, hb⟩; refine ⟨_, rfl, ?_⟩; have n0_ := Aside0.mk (below_step (by repeat (first | (with_reducible first | exact HB.out | apply below_alloc | apply pw_below_drewN | apply below_drew1) | exact HB.out)) hb); clear HB; have HB := n0_; clear n0_; (try clear hb); (try clear hb2); (try clear hk); (try clear hi)) | ((with_reducible refine gate_callee (f := 8) rfl ?_); refine goesL_ (some 237) rfl rfl Tryz.func8 (by kernel_rfl) rfl #[.int .i64 t420, .int .i64 t422] rfl (by (try simp only [List.map_toArray, List.map_cons, List.map_nil]); first | done | rfl | (simp only [List.length_drop, List.length_take]; rfl)) ?_; (with_reducible refine (impl_TimesPoly.calls kj56 t420 t422 t426 true _ A67.out).mono ?_); rintro e w96 ⟨rfl, hb⟩; refine ⟨_, rfl, ?_⟩; have n0_ := Aside0.mk (below_step (by repeat (first | (with_reducible first | exact HB.out | apply below_alloc | apply pw_below_drewN | apply below_drew1) | exact HB.out)) hb); clear HB; have HB := n0_; clear n0_; (try clear hb); (try clear hb2); (try clear hk); (try clear hi)) | ((with_reducible refine gate_callee (f := 16) rfl ?_); refine goesL_ (some 242) rfl rfl Tryz.func16 (by kernel_rfl) rfl #[.int .i64 t414] rfl (by (try simp only [List.map_toArray, List.map_cons, List.map_nil]); first | done | rfl | (simp only [List.length_drop, List.length_take]; rfl)) ?_; (with_reducible refine (impl_DerivativeOf.calls kj56 t414 t428 true _ A68.out).mono ?_); rintro e w97 ⟨rfl, hb⟩; refine ⟨_, rfl, ?_⟩; have n0_ := Aside0.mk (below_step (by repeat (first | (with_reducible first | exact HB.out | apply below_alloc | apply pw_below_drewN | apply below_drew1) | exact HB.out)) hb); clear HB; have HB := n0_; clear n0_; (try clear hb); (try clear hb2); (try clear hk); (try clear hi)) | ((with_reducible refine gate_callee (f := 16) rfl ?_); refine goesL_ (some 247) rfl rfl Tryz.func16 (by kernel_rfl) rfl #[.int .i64 t415] rfl (by (try simp only [List.map_toArray, List.map_cons, List.map_nil]); first | done | rfl | (simp only [List.length_drop, List.length_take]; rfl)) ?_; (with_reducible refine (impl_DerivativeOf.calls kj56 t415 t430 true _ A69.out).mono ?_); rintro e w98 ⟨rfl, hb⟩; refine ⟨_, rfl, ?_⟩; have n0_ := Aside0.mk (below_step (by repeat (first | (with_reducible first | exact HB.out | apply below_alloc | apply pw_below_drewN | apply below_drew1) | exact HB.out)) hb); clear HB; have HB := n0_; clear n0_; (try clear hb); (try clear hb2); (try clear hk); (try clear hi)) | ((with_reducible refine gate_callee (f := 16) rfl ?_); refine goesL_ (some 252) rfl rfl Tryz.func16 (by kernel_rfl) rfl #[.int .i64 t416] rfl (by (try simp only [List.map_toArray, List.map_cons, List.map_nil]); first | done | rfl | (simp only [List.length_drop, List.length_take]; rfl)) ?_; (with_reducible refine (impl_DerivativeOf.calls kj56 t416 t432 true _ A70.out).mono ?_); rintro e w99 ⟨rfl, hb⟩; refine ⟨_, rfl, ?_⟩; have n0_ := Aside0.mk (below_step (by repeat (first | (with_reducible first | exact HB.out | apply below_alloc | apply pw_below_drewN | apply below_drew1) | exact HB.out)) hb); clear HB; have HB := n0_; clear n0_; (try clear hb); (try clear hb2); (try clear hk); (try clear hi)) | ((with_reducible refine gate_callee (f := 8) rfl ?_); refine goesL_ (some 258) rfl rfl Tryz.func8 (by kernel_rfl) rfl #[.int .i64 t428, .int .i64 t415] rfl (by (try simp only [List.map_toArray, List.map_cons, List.map_nil]); first | done | rfl | (simp only [List.length_drop, List.length_take]; rfl)) ?_; (with_reducible refine (impl_TimesPoly.calls kj56 t428 t415 t434 true _ A71.out).mono ?_); rintro e w100 ⟨rfl, hb⟩; refine ⟨_, rfl, ?_⟩; have n0_ := Aside0.mk (below_step (by repeat (first | (with_reducible first | exact HB.out | apply below_alloc | apply pw_below_drewN | apply below_drew1) | exact HB.out)) hb); clear HB; have HB := n0_; clear n0_; (try clear hb); (try clear hb2); (try clear hk); (try clear hi)) | ((with_reducible refine gate_callee (f := 8) rfl ?_); refine goesL_ (some 264) rfl rfl Tryz.func8 (by kernel_rfl) rfl #[.int .i64 t414, .int .i64 t430] rfl (by (try simp only [List.map_toArray, List.map_cons, List.map_nil]); first | done | rfl | (simp only [List.length_drop, List.length_take]; rfl)) ?_; (with_reducible refine (impl_TimesPoly.calls kj56 t414 t430 t436 true _ A72.out).mono ?_); rintro e w101 ⟨rfl, hb⟩; refine ⟨_, rfl, ?_⟩; have n0_ := Aside0.mk (below_step (by repeat (first | (with_reducible first | exact HB.out | apply below_alloc | apply pw_below_drewN | apply below_drew1) | exact HB.out)) hb); clear HB; have HB := n0_; clear n0_; (try clear hb); (try clear hb2); (try clear hk); (try clear hi)))
                               go_ret
                               exact ⟨by first | rfl | (simp [errW_none, errW_some] <;> rfl) | (simp [*, errW_none, errW_some] <;> rfl), by repeat (first | (with_reducible first | exact HB.out | apply below_alloc | apply pw_below_drewN | apply below_drew1) | exact HB.out)⟩
                            ·rw [if_neg c82] at H
                             have c82b0 : (t426 == t424) = false := beq_eq_false_iff_ne.mpr c82
                             have c82b1 : (t426 != t424) = true := bne_iff_ne.mpr c82
                             (first | rw [c82b0] | (simp only [i64_w, i32_w]; rw [c82b0]) | skip)
                             as_aux_lemma =>
                              obtain rfl := Option.some.inj H
                              go_wp2_with (first | ((with_reducible refine gate_callee (f := 15) rfl ?_); refine goesL_ (some 221) rfl rfl Tryz.func15 (by kernel_rfl) rfl #[.int .i64 t414] rfl (by (try simp only [List.map_toArray, List.map_cons, List.map_nil]); first | done | rfl | (simp only [List.length_drop, List.length_take]; rfl)) ?_; (with_reducible refine (impl_ShiftPoly.calls kj56 t414 t420 true _ A64.out).mono ?_); rintro e w102 ⟨rfl, hb⟩; refine ⟨_, rfl, ?_⟩; have n0_ := Aside0.mk (below_step (by repeat (first | (with_reducible first | exact HB.out | apply below_alloc | apply pw_below_drewN | apply below_drew1) | exact HB.out)) hb); clear HB; have HB := n0_; clear n0_; (try clear hb); (try clear hb2); (try clear hk); (try clear hi)) | ((with_reducible refine gate_callee (f := 15) rfl ?_); refine goesL_ (some 226) rfl rfl Tryz.func15 (by kernel_rfl) rfl #[.int .i64 t415] rfl (by (try simp only [List.map_toArray, List.map_cons, List.map_nil]); first | done | rfl | (simp only [List.length_drop, List.length_take]; rfl)) ?_; (with_reducible refine (impl_ShiftPoly.calls kj56 t415 t422 true _ A65.out).mono ?_); rintro e w103 ⟨rfl, hb⟩; refine ⟨_, rfl, ?_⟩; have n0_ := Aside0.mk (below_step (by repeat (first | (with_reducible first | exact HB.out | apply below_alloc | apply pw_below_drewN | apply below_drew1) | exact HB.out)) hb); clear HB; have HB := n0_; clear n0_; (try clear hb); (try clear hb2); (try clear hk); (try clear hi)) | ((with_reducible refine gate_callee (f := 15) rfl ?_); refine goesL_ (some 231) rfl rfl Tryz.func15 (by kernel_rfl) rfl #[.int .i64 t416] rfl (by (try simp only [List.map_toArray, List.map_cons, List.map_nil]); first | done | rfl | (simp only [List.length_drop, List.length_take]; rfl)) ?_; (with_reducible refine (impl_ShiftPoly.calls kj56 t416 t424 true _ A66.out).mono ?_); rintro e w104 ⟨rfl, hb⟩; refine ⟨_, rfl, ?_⟩; have n0_ := Aside0.mk (below_step (by repeat (first | (with_reducible first | exact HB.out | apply below_alloc | apply pw_below_drewN | apply below_drew1) | exact HB.out)) hb); clear HB; have HB := n0_; clear n0_; (try clear hb); (try clear hb2); (try clear hk); (try clear hi)) | ((with_reducible refine gate_callee (f := 8) rfl ?_); refine goesL_ (some 237) rfl rfl Tryz.func8 (by kernel_rfl) rfl #[.int .i64 t420, .int .i64 t422] rfl (by (try simp only [List.map_toArray, List.map_cons, List.map_nil]); first | done | rfl | (simp only [List.length_drop, List.length_take]; rfl)) ?_; (with_reducible refine (impl_TimesPoly.calls kj56 t420 t422 t426 true _ A67.out).mono ?_); rintro e w105 ⟨rfl, hb⟩; refine ⟨_, rfl, ?_⟩; have n0_ := Aside0.mk (below_step (by repeat (first | (with_reducible first | exact HB.out | apply below_alloc | apply pw_below_drewN | apply below_drew1) | exact HB.out)) hb); clear HB; have HB := n0_; clear n0_; (try clear hb); (try clear hb2); (try clear hk); (try clear hi)) | ((with_reducible refine gate_callee (f := 16) rfl ?_); refine goesL_ (some 242) rfl rfl Tryz.func16 (by kernel_rfl) rfl #[.int .i64 t414] rfl (by (try simp only [List.map_toArray, List.map_cons, List.map_nil]); first | done | rfl | (simp only [List.length_drop, List.length_take]; rfl)) ?_; (with_reducible refine (impl_DerivativeOf.calls kj56 t414 t428 true _ A68.out).mono ?_); rintro e w106 ⟨rfl, hb⟩; refine ⟨_, rfl, ?_⟩; have n0_ := Aside0.mk (below_step (by repeat (first | (with_reducible first | exact HB.out | apply below_alloc | apply pw_below_drewN | apply below_drew1) | exact HB.out)) hb); clear HB; have HB := n0_; clear n0_; (try clear hb); (try clear hb2); (try clear hk); (try clear hi)) | ((with_reducible refine gate_callee (f := 16) rfl ?_); refine goesL_ (some 247) rfl rfl Tryz.func16 (by kernel_rfl) rfl #[.int .i64 t415] rfl (by (try simp only [List.map_toArray, List.map_cons, List.map_nil]); first | done | rfl | (simp only [List.length_drop, List.length_take]; rfl)) ?_; (with_reducible refine (impl_DerivativeOf.calls kj56 t415 t430 true _ A69.out).mono ?_); rintro e w107 ⟨rfl, hb⟩; refine ⟨_, rfl, ?_⟩; have n0_ := Aside0.mk (below_step (by repeat (first | (with_reducible first | exact HB.out | apply below_alloc | apply pw_below_drewN | apply below_drew1) | exact HB.out)) hb); clear HB; have HB := n0_; clear n0_; (try clear hb); (try clear hb2); (try clear hk); (try clear hi)) | ((with_reducible refine gate_callee (f := 16) rfl ?_); refine goesL_ (some 252) rfl rfl Tryz.func16 (by kernel_rfl) rfl #[.int .i64 t416] rfl (by (try simp only [List.map_toArray, List.map_cons, List.map_nil]); first | done | rfl | (simp only [List.length_drop, List.length_take]; rfl)) ?_; (with_reducible refine (impl_DerivativeOf.calls kj56 t416 t432 true _ A70.out).mono ?_); rintro e w108 ⟨rfl, hb⟩; refine ⟨_, rfl, ?_⟩; have n0_ := Aside0.mk (below_step (by repeat (first | (with_reducible first | exact HB.out | apply below_alloc | apply pw_below_drewN | apply below_drew1) | exact HB.out)) hb); clear HB; have HB := n0_; clear n0_; (try clear hb); (try clear hb2); (try clear hk); (try clear hi)) | ((with_reducible refine gate_callee (f := 8) rfl ?_); refine goesL_ (some 258) rfl rfl Tryz.func8 (by kernel_rfl) rfl #[.int .i64 t428, .int .i64 t415] rfl (by (try simp only [List.map_toArray, List.map_cons, List.map_nil]); first | done | rfl | (simp only [List.length_drop, List.length_take]; rfl)) ?_; (with_reducible refine (impl_TimesPoly.calls kj56 t428 t415 t434 true _ A71.out).mono ?_); rintro e w109 ⟨rfl, hb⟩; refine ⟨_, rfl, ?_⟩; have n0_ := Aside0.mk (below_step (by repeat (first | (with_reducible first | exact HB.out | apply below_alloc | apply pw_below_drewN | apply below_drew1) | exact HB.out)) hb); clear HB; have HB := n0_; clear n0_; (try clear hb); (try clear hb2); (try clear hk); (try clear hi)) | ((with_reducible refine gate_callee (f := 8) rfl ?_); refine goesL_ (some 264) rfl rfl Tryz.func8 (by kernel_rfl) rfl #[.int .i64 t414, .int .i64 t430] rfl (by (try simp only [List.map_toArray, List.map_cons, List.map_nil]); first | done | rfl | (simp only [List.length_drop, List.length_take]; rfl)) ?_; (with_reducible refine (impl_TimesPoly.calls kj56 t414 t430 t436 true _ A72.out).mono ?_); rintro e w110 ⟨rfl, hb⟩; refine ⟨_, rfl, ?_⟩; have n0_ := Aside0.mk (below_step (by repeat (first | (with_reducible first | exact HB.out | apply below_alloc | apply pw_below_drewN | apply below_drew1) | exact HB.out)) hb); clear HB; have HB := n0_; clear n0_; (try clear hb); (try clear hb2); (try clear hk); (try clear hi)))
                              go_ret
                              exact ⟨by first | rfl | (simp [errW_none, errW_some] <;> rfl) | (simp [*, errW_none, errW_some] <;> rfl), by repeat (first | (with_reducible first | exact HB.out | apply below_alloc | apply pw_below_drewN | apply below_drew1) | exact HB.out)⟩
                           ·replace c81 := Bool.eq_false_iff.mpr c81
                            subst c81
                            have H1 : (some false) = some r := by rw [if_neg (show ¬ (false = true) by decide)] at H; exact H
                            clear H
                            have H := H1
                            clear H1
                            as_aux_lemma =>
                             obtain rfl := Option.some.inj H
                             go_wp2_with (first | ((with_reducible refine gate_callee (f := 15) rfl ?_); refine goesL_ (some 221) rfl rfl Tryz.func15 (by kernel_rfl) rfl #[.int .i64 t414] rfl (by (try simp only [List.map_toArray, List.map_cons, List.map_nil]); first | done | rfl | (simp only [List.length_drop, List.length_take]; rfl)) ?_; (with_reducible refine (impl_ShiftPoly.calls kj56 t414 t420 true _ A64.out).mono ?_); rintro e w111 ⟨rfl, hb⟩; refine ⟨_, rfl, ?_⟩; have n0_ := Aside0.mk (below_step (by repeat (first | (with_reducible first | exact HB.out | apply below_alloc | apply pw_below_drewN | apply below_drew1) | exact HB.out)) hb); clear HB; have HB := n0_; clear n0_; (try clear hb); (try clear hb2); (try clear hk); (try clear hi)) | ((with_reducible refine gate_callee (f := 15) rfl ?_); refine goesL_ (some 226) rfl rfl Tryz.func15 (by kernel_rfl) rfl #[.int .i64 t415] rfl (by (try simp only [List.map_toArray, List.map_cons, List.map_nil]); first | done | rfl | (simp only [List.length_drop, List.length_take]; rfl)) ?_; (with_reducible refine (impl_ShiftPoly.calls kj56 t415 t422 true _ A65.out).mono ?_); rintro e w112 ⟨rfl, hb⟩; refine ⟨_, rfl, ?_⟩; have n0_ := Aside0.mk (below_step (by repeat (first | (with_reducible first | exact HB.out | apply below_alloc | apply pw_below_drewN | apply below_drew1) | exact HB.out)) hb); clear HB; have HB := n0_; clear n0_; (try clear hb); (try clear hb2); (try clear hk); (try clear hi)) | ((with_reducible refine gate_callee (f := 15) rfl ?_); refine goesL_ (some 231) rfl rfl Tryz.func15 (by kernel_rfl) rfl #[.int .i64 t416] rfl (by (try simp only [List.map_toArray, List.map_cons, List.map_nil]); first | done | rfl | (simp only [List.length_drop, List.length_take]; rfl)) ?_; (with_reducible refine (impl_ShiftPoly.calls kj56 t416 t424 true _ A66.out).mono ?_); rintro e w113 ⟨rfl, hb⟩; refine ⟨_, rfl, ?_⟩; have n0_ := Aside0.mk (below_step (by repeat (first | (with_reducible first | exact HB.out | apply below_alloc | apply pw_below_drewN | apply below_drew1) | exact HB.out)) hb); clear HB; have HB := n0_; clear n0_; (try clear hb); (try clear hb2); (try clear hk); (try clear hi)) | ((with_reducible refine gate_callee (f := 8) rfl ?_); refine goesL_ (some 237) rfl rfl Tryz.func8 (by kernel_rfl) rfl #[.int .i64 t420, .int .i64 t422] rfl (by (try simp only [List.map_toArray, List.map_cons, List.map_nil]); first | done | rfl | (simp only [List.length_drop, List.length_take]; rfl)) ?_; (with_reducible refine (impl_TimesPoly.calls kj56 t420 t422 t426 true _ A67.out).mono ?_); rintro e w114 ⟨rfl, hb⟩; refine ⟨_, rfl, ?_⟩; have n0_ := Aside0.mk (below_step (by repeat (first | (with_reducible first | exact HB.out | apply below_alloc | apply pw_below_drewN | apply below_drew1) | exact HB.out)) hb); clear HB; have HB := n0_; clear n0_; (try clear hb); (try clear hb2); (try clear hk); (try clear hi)) | ((with_reducible refine gate_callee (f := 16) rfl ?_); refine goesL_ (some 242) rfl rfl Tryz.func16 (by kernel_rfl) rfl #[.int .i64 t414] rfl (by (try simp only [List.map_toArray, List.map_cons, List.map_nil]); first | done | rfl | (simp only [List.length_drop, List.length_take]; rfl)) ?_; (with_reducible refine (impl_DerivativeOf.calls kj56 t414 t428 true _ A68.out).mono ?_); rintro e w115 ⟨rfl, hb⟩; refine ⟨_, rfl, ?_⟩; have n0_ := Aside0.mk (below_step (by repeat (first | (with_reducible first | exact HB.out | apply below_alloc | apply pw_below_drewN | apply below_drew1) | exact HB.out)) hb); clear HB; have HB := n0_; clear n0_; (try clear hb); (try clear hb2); (try clear hk); (try clear hi)) | ((with_reducible refine gate_callee (f := 16) rfl ?_); refine goesL_ (some 247) rfl rfl Tryz.func16 (by kernel_rfl) rfl #[.int .i64 t415] rfl (by (try simp only [List.map_toArray, List.map_cons, List.map_nil]); first | done | rfl | (simp only [List.length_drop, List.length_take]; rfl)) ?_; (with_reducible refine (impl_DerivativeOf.calls kj56 t415 t430 true _ A69.out).mono ?_); rintro e w116 ⟨rfl, hb⟩; refine ⟨_, rfl, ?_⟩; have n0_ := Aside0.mk (below_step (by repeat (first | (with_reducible first | exact HB.out | apply below_alloc | apply pw_below_drewN | apply below_drew1) | exact HB.out)) hb); clear HB; have HB := n0_; clear n0_; (try clear hb); (try clear hb2); (try clear hk); (try clear hi)) | ((with_reducible refine gate_callee (f := 16) rfl ?_); refine goesL_ (some 252) rfl rfl Tryz.func16 (by kernel_rfl) rfl #[.int .i64 t416] rfl (by (try simp only [List.map_toArray, List.map_cons, List.map_nil]); first | done | rfl | (simp only [List.length_drop, List.length_take]; rfl)) ?_; (with_reducible refine (impl_DerivativeOf.calls kj56 t416 t432 true _ A70.out).mono ?_); rintro e w117 ⟨rfl, hb⟩; refine ⟨_, rfl, ?_⟩; have n0_ := Aside0.mk (below_step (by repeat (first | (with_reducible first | exact HB.out | apply below_alloc | apply pw_below_drewN | apply below_drew1) | exact HB.out)) hb); clear HB; have HB := n0_; clear n0_; (try clear hb); (try clear hb2); (try clear hk); (try clear hi)) | ((with_reducible refine gate_callee (f := 8) rfl ?_); refine goesL_ (some 258) rfl rfl Tryz.func8 (by kernel_rfl) rfl #[.int .i64 t428, .int .i64 t415] rfl (by (try simp only [List.map_toArray, List.map_cons, List.map_nil]); first | done | rfl | (simp only [List.length_drop, List.length_take]; rfl)) ?_; (with_reducible refine (impl_TimesPoly.calls kj56 t428 t415 t434 true _ A71.out).mono ?_); rintro e w118 ⟨rfl, hb⟩; refine ⟨_, rfl, ?_⟩; have n0_ := Aside0.mk (below_step (by repeat (first | (with_reducible first | exact HB.out | apply below_alloc | apply pw_below_drewN | apply below_drew1) | exact HB.out)) hb); clear HB; have HB := n0_; clear n0_; (try clear hb); (try clear hb2); (try clear hk); (try clear hi)) | ((with_reducible refine gate_callee (f := 8) rfl ?_); refine goesL_ (some 264) rfl rfl Tryz.func8 (by kernel_rfl) rfl #[.int .i64 t414, .int .i64 t430] rfl (by (try simp only [List.map_toArray, List.map_cons, List.map_nil]); first | done | rfl | (simp only [List.length_drop, List.length_take]; rfl)) ?_; (with_reducible refine (impl_TimesPoly.calls kj56 t414 t430 t436 false _ A72.out).mono ?_); rintro e w119 ⟨rfl, hb⟩; refine ⟨_, rfl, ?_⟩; have n0_ := Aside0.mk (below_step (by repeat (first | (with_reducible first | exact HB.out | apply below_alloc | apply pw_below_drewN | apply below_drew1) | exact HB.out)) hb); clear HB; have HB := n0_; clear n0_; (try clear hb); (try clear hb2); (try clear hk); (try clear hi)))
                             go_ret
                             exact ⟨by first | rfl | (simp [errW_none, errW_some] <;> rfl) | (simp [*, errW_none, errW_some] <;> rfl), by repeat (first | (with_reducible first | exact HB.out | apply below_alloc | apply pw_below_drewN | apply below_drew1) | exact HB.out)⟩
                          ·replace c80 := Bool.eq_false_iff.mpr c80
                           subst c80
                           have H1 : (some false) = some r := by rw [if_neg (show ¬ (false = true) by decide)] at H; exact H
                           clear H
                           have H := H1
                           clear H1
                           as_aux_lemma =>
                            obtain rfl := Option.some.inj H
                            go_wp2_with (first | ((with_reducible refine gate_callee (f := 15) rfl ?_); refine goesL_ (some 221) rfl rfl Tryz.func15 (by kernel_rfl) rfl #[.int .i64 t414] rfl (by (try simp only [List.map_toArray, List.map_cons, List.map_nil]); first | done | rfl | (simp only [List.length_drop, List.length_take]; rfl)) ?_; (with_reducible refine (impl_ShiftPoly.calls kj56 t414 t420 true _ A64.out).mono ?_); rintro e w120 ⟨rfl, hb⟩; refine ⟨_, rfl, ?_⟩; have n0_ := Aside0.mk (below_step (by repeat (first | (with_reducible first | exact HB.out | apply below_alloc | apply pw_below_drewN | apply below_drew1) | exact HB.out)) hb); clear HB; have HB := n0_; clear n0_; (try clear hb); (try clear hb2); (try clear hk); (try clear hi)) | ((with_reducible refine gate_callee (f := 15) rfl ?_); refine goesL_ (some 226) rfl rfl Tryz.func15 (by kernel_rfl) rfl #[.int .i64 t415] rfl (by (try simp only [List.map_toArray, List.map_cons, List.map_nil]); first | done | rfl | (simp only [List.length_drop, List.length_take]; rfl)) ?_; (with_reducible refine (impl_ShiftPoly.calls kj56 t415 t422 true _ A65.out).mono ?_); rintro e w121 ⟨rfl, hb⟩; refine ⟨_, rfl, ?_⟩; have n0_ := Aside0.mk (below_step (by repeat (first | (with_reducible first | exact HB.out | apply below_alloc | apply pw_below_drewN | apply below_drew1) | exact HB.out)) hb); clear HB; have HB := n0_; clear n0_; (try clear hb); (try clear hb2); (try clear hk); (try clear hi)) | ((with_reducible refine gate_callee (f := 15) rfl ?_); refine goesL_ (some 231) rfl rfl Tryz.func15 (by kernel_rfl) rfl #[.int .i64 t416] rfl (by (try simp only [List.map_toArray, List.map_cons, List.map_nil]); first | done | rfl | (simp only [List.length_drop, List.length_take]; rfl)) ?_; (with_reducible refine (impl_ShiftPoly.calls kj56 t416 t424 true _ A66.out).mono ?_); rintro e w122 ⟨rfl, hb⟩; refine ⟨_, rfl, ?_⟩; have n0_ := Aside0.mk (below_step (by repeat (first | (with_reducible first | exact HB.out | apply below_alloc | apply pw_below_drewN | apply below_drew1) | exact HB.out)) hb); clear HB; have HB := n0_; clear n0_; (try clear hb); (try clear hb2); (try clear hk); (try clear hi)) | ((with_reducible refine gate_callee (f := 8) rfl ?_); refine goesL_ (some 237) rfl rfl Tryz.func8 (by kernel_rfl) rfl #[.int .i64 t420, .int .i64 t422] rfl (by (try simp only [List.map_toArray, List.map_cons, List.map_nil]); first | done | rfl | (simp only [List.length_drop, List.length_take]; rfl)) ?_; (with_reducible refine (impl_TimesPoly.calls kj56 t420 t422 t426 true _ A67.out).mono ?_); rintro e w123 ⟨rfl, hb⟩; refine ⟨_, rfl, ?_⟩; have n0_ := Aside0.mk (below_step (by repeat (first | (with_reducible first | exact HB.out | apply below_alloc | apply pw_below_drewN | apply below_drew1) | exact HB.out)) hb); clear HB; have HB := n0_; clear n0_; (try clear hb); (try clear hb2); (try clear hk); (try clear hi)) | ((with_reducible refine gate_callee (f := 16) rfl ?_); refine goesL_ (some 242) rfl rfl Tryz.func16 (by kernel_rfl) rfl #[.int .i64 t414] rfl (by (try simp only [List.map_toArray, List.map_cons, List.map_nil]); first | done | rfl | (simp only [List.length_drop, List.length_take]; rfl)) ?_; (with_reducible refine (impl_DerivativeOf.calls kj56 t414 t428 true _ A68.out).mono ?_); rintro e w124 ⟨rfl, hb⟩; refine ⟨_, rfl, ?_⟩; have n0_ := Aside0.mk (below_step (by repeat (first | (with_reducible first | exact HB.out | apply below_alloc | apply pw_below_drewN | apply below_drew1) | exact HB.out)) hb); clear HB; have HB := n0_; clear n0_; (try clear hb); (try clear hb2); (try clear hk); (try clear hi)) | ((with_reducible refine gate_callee (f := 16) rfl ?_); refine goesL_ (some 247) rfl rfl Tryz.func16 (by kernel_rfl) rfl #[.int .i64 t415] rfl (by (try simp only [List.map_toArray, List.map_cons, List.map_nil]); first | done | rfl | (simp only [List.length_drop, List.length_take]; rfl)) ?_; (with_reducible refine (impl_DerivativeOf.calls kj56 t415 t430 true _ A69.out).mono ?_); rintro e w125 ⟨rfl, hb⟩; refine ⟨_, rfl, ?_⟩; have n0_ := Aside0.mk (below_step (by repeat (first | (with_reducible first | exact HB.out | apply below_alloc | apply pw_below_drewN | apply below_drew1) | exact HB.out)) hb); clear HB; have HB := n0_; clear n0_; (try clear hb); (try clear hb2); (try clear hk); (try clear hi)) | ((with_reducible refine gate_callee (f := 16) rfl ?_); refine goesL_ (some 252) rfl rfl Tryz.func16 (by kernel_rfl) rfl #[.int .i64 t416] rfl (by (try simp only [List.map_toArray, List.map_cons, List.map_nil]); first | done | rfl | (simp only [List.length_drop, List.length_take]; rfl)) ?_; (with_reducible refine (impl_DerivativeOf.calls kj56 t416 t432 true _ A70.out).mono ?_); rintro e w126 ⟨rfl, hb⟩; refine ⟨_, rfl, ?_⟩; have n0_ := Aside0.mk (below_step (by repeat (first | (with_reducible first | exact HB.out | apply below_alloc | apply pw_below_drewN | apply below_drew1) | exact HB.out)) hb); clear HB; have HB := n0_; clear n0_; (try clear hb); (try clear hb2); (try clear hk); (try clear hi)) | ((with_reducible refine gate_callee (f := 8) rfl ?_); refine goesL_ (some 258) rfl rfl Tryz.func8 (by kernel_rfl) rfl #[.int .i64 t428, .int .i64 t415] rfl (by (try simp only [List.map_toArray, List.map_cons, List.map_nil]); first | done | rfl | (simp only [List.length_drop, List.length_take]; rfl)) ?_; (with_reducible refine (impl_TimesPoly.calls kj56 t428 t415 t434 false _ A71.out).mono ?_); rintro e w127 ⟨rfl, hb⟩; refine ⟨_, rfl, ?_⟩; have n0_ := Aside0.mk (below_step (by repeat (first | (with_reducible first | exact HB.out | apply below_alloc | apply pw_below_drewN | apply below_drew1) | exact HB.out)) hb); clear HB; have HB := n0_; clear n0_; (try clear hb); (try clear hb2); (try clear hk); (try clear hi)) | ((with_reducible refine gate_callee (f := 8) rfl ?_); refine goesL_ (some 264) rfl rfl Tryz.func8 (by kernel_rfl) rfl #[.int .i64 t414, .int .i64 t430] rfl (by (try simp only [List.map_toArray, List.map_cons, List.map_nil]); first | done | rfl | (simp only [List.length_drop, List.length_take]; rfl)) ?_; (with_reducible refine (impl_TimesPoly.calls kj56 t414 t430 t436 t437 _ A72.out).mono ?_); rintro e w128 ⟨rfl, hb⟩; refine ⟨_, rfl, ?_⟩; have n0_ := Aside0.mk (below_step (by repeat (first | (with_reducible first | exact HB.out | apply below_alloc | apply pw_below_drewN | apply below_drew1) | exact HB.out)) hb); clear HB; have HB := n0_; clear n0_; (try clear hb); (try clear hb2); (try clear hk); (try clear hi)))
                            go_ret
                            exact ⟨by first | rfl | (simp [errW_none, errW_some] <;> rfl) | (simp [*, errW_none, errW_some] <;> rfl), by repeat (first | (with_reducible first | exact HB.out | apply below_alloc | apply pw_below_drewN | apply below_drew1) | exact HB.out)⟩
                         ·replace c79 := Bool.eq_false_iff.mpr c79
                          subst c79
                          have H1 : (some false) = some r := by rw [if_neg (show ¬ (false = true) by decide)] at H; exact H
                          clear H
                          have H := H1
                          clear H1
                          as_aux_lemma =>
                           obtain rfl := Option.some.inj H
                           go_wp2_with (first | ((with_reducible refine gate_callee (f := 15) rfl ?_); refine goesL_ (some 221) rfl rfl Tryz.func15 (by kernel_rfl) rfl #[.int .i64 t414] rfl (by (try simp only [List.map_toArray, List.map_cons, List.map_nil]); first | done | rfl | (simp only [List.length_drop, List.length_take]; rfl)) ?_; (with_reducible refine (impl_ShiftPoly.calls kj56 t414 t420 true _ A64.out).mono ?_); rintro e w129 ⟨rfl, hb⟩; refine ⟨_, rfl, ?_⟩; have n0_ := Aside0.mk (below_step (by repeat (first | (with_reducible first | exact HB.out | apply below_alloc | apply pw_below_drewN | apply below_drew1) | exact HB.out)) hb); clear HB; have HB := n0_; clear n0_; (try clear hb); (try clear hb2); (try clear hk); (try clear hi)) | ((with_reducible refine gate_callee (f := 15) rfl ?_); refine goesL_ (some 226) rfl rfl Tryz.func15 (by kernel_rfl) rfl #[.int .i64 t415] rfl (by (try simp only [List.map_toArray, List.map_cons, List.map_nil]); first | done | rfl | (simp only [List.length_drop, List.length_take]; rfl)) ?_; (with_reducible refine (impl_ShiftPoly.calls kj56 t415 t422 true _ A65.out).mono ?_); rintro e w130 ⟨rfl, hb⟩; refine ⟨_, rfl, ?_⟩; have n0_ := Aside0.mk (below_step (by repeat (first | (with_reducible first | exact HB.out | apply below_alloc | apply pw_below_drewN | apply below_drew1) | exact HB.out)) hb); clear HB; have HB := n0_; clear n0_; (try clear hb); (try clear hb2); (try clear hk); (try clear hi)) | ((with_reducible refine gate_callee (f := 15) rfl ?_); refine goesL_ (some 231) rfl rfl Tryz.func15 (by kernel_rfl) rfl #[.int .i64 t416] rfl (by (try simp only [List.map_toArray, List.map_cons, List.map_nil]); first | done | rfl | (simp only [List.length_drop, List.length_take]; rfl)) ?_; (with_reducible refine (impl_ShiftPoly.calls kj56 t416 t424 true _ A66.out).mono ?_); rintro e w131 ⟨rfl, hb⟩; refine ⟨_, rfl, ?_⟩; have n0_ := Aside0.mk (below_step (by repeat (first | (with_reducible first | exact HB.out | apply below_alloc | apply pw_below_drewN | apply below_drew1) | exact HB.out)) hb); clear HB; have HB := n0_; clear n0_; (try clear hb); (try clear hb2); (try clear hk); (try clear hi)) | ((with_reducible refine gate_callee (f := 8) rfl ?_); refine goesL_ (some 237) rfl rfl Tryz.func8 (by kernel_rfl) rfl #[.int .i64 t420, .int .i64 t422] rfl (by (try simp only [List.map_toArray, List.map_cons, List.map_nil]); first | done | rfl | (simp only [List.length_drop, List.length_take]; rfl)) ?_; (with_reducible refine (impl_TimesPoly.calls kj56 t420 t422 t426 true _ A67.out).mono ?_); rintro e w132 ⟨rfl, hb⟩; refine ⟨_, rfl, ?_⟩; have n0_ := Aside0.mk (below_step (by repeat (first | (with_reducible first | exact HB.out | apply below_alloc | apply pw_below_drewN | apply below_drew1) | exact HB.out)) hb); clear HB; have HB := n0_; clear n0_; (try clear hb); (try clear hb2); (try clear hk); (try clear hi)) | ((with_reducible refine gate_callee (f := 16) rfl ?_); refine goesL_ (some 242) rfl rfl Tryz.func16 (by kernel_rfl) rfl #[.int .i64 t414] rfl (by (try simp only [List.map_toArray, List.map_cons, List.map_nil]); first | done | rfl | (simp only [List.length_drop, List.length_take]; rfl)) ?_; (with_reducible refine (impl_DerivativeOf.calls kj56 t414 t428 true _ A68.out).mono ?_); rintro e w133 ⟨rfl, hb⟩; refine ⟨_, rfl, ?_⟩; have n0_ := Aside0.mk (below_step (by repeat (first | (with_reducible first | exact HB.out | apply below_alloc | apply pw_below_drewN | apply below_drew1) | exact HB.out)) hb); clear HB; have HB := n0_; clear n0_; (try clear hb); (try clear hb2); (try clear hk); (try clear hi)) | ((with_reducible refine gate_callee (f := 16) rfl ?_); refine goesL_ (some 247) rfl rfl Tryz.func16 (by kernel_rfl) rfl #[.int .i64 t415] rfl (by (try simp only [List.map_toArray, List.map_cons, List.map_nil]); first | done | rfl | (simp only [List.length_drop, List.length_take]; rfl)) ?_; (with_reducible refine (impl_DerivativeOf.calls kj56 t415 t430 true _ A69.out).mono ?_); rintro e w134 ⟨rfl, hb⟩; refine ⟨_, rfl, ?_⟩; have n0_ := Aside0.mk (below_step (by repeat (first | (with_reducible first | exact HB.out | apply below_alloc | apply pw_below_drewN | apply below_drew1) | exact HB.out)) hb); clear HB; have HB := n0_; clear n0_; (try clear hb); (try clear hb2); (try clear hk); (try clear hi)) | ((with_reducible refine gate_callee (f := 16) rfl ?_); refine goesL_ (some 252) rfl rfl Tryz.func16 (by kernel_rfl) rfl #[.int .i64 t416] rfl (by (try simp only [List.map_toArray, List.map_cons, List.map_nil]); first | done | rfl | (simp only [List.length_drop, List.length_take]; rfl)) ?_; (with_reducible refine (impl_DerivativeOf.calls kj56 t416 t432 false _ A70.out).mono ?_); rintro e w135 ⟨rfl, hb⟩; refine ⟨_, rfl, ?_⟩; have n0_ := Aside0.mk (below_step (by repeat (first | (with_reducible first | exact HB.out | apply below_alloc | apply pw_below_drewN | apply below_drew1) | exact HB.out)) hb); clear HB; have HB := n0_; clear n0_; (try clear hb); (try clear hb2); (try clear hk); (try clear hi)) | ((with_reducible refine gate_callee (f := 8) rfl ?_); refine goesL_ (some 258) rfl rfl Tryz.func8 (by kernel_rfl) rfl #[.int .i64 t428, .int .i64 t415] rfl (by (try simp only [List.map_toArray, List.map_cons, List.map_nil]); first | done | rfl | (simp only [List.length_drop, List.length_take]; rfl)) ?_; (with_reducible refine (impl_TimesPoly.calls kj56 t428 t415 t434 t435 _ A71.out).mono ?_); rintro e w136 ⟨rfl, hb⟩; refine ⟨_, rfl, ?_⟩; have n0_ := Aside0.mk (below_step (by repeat (first | (with_reducible first | exact HB.out | apply below_alloc | apply pw_below_drewN | apply below_drew1) | exact HB.out)) hb); clear HB; have HB := n0_; clear n0_; (try clear hb); (try clear hb2); (try clear hk); (try clear hi)) | ((with_reducible refine gate_callee (f := 8) rfl ?_); refine goesL_ (some 264) rfl rfl Tryz.func8 (by kernel_rfl) rfl #[.int .i64 t414, .int .i64 t430] rfl (by (try simp only [List.map_toArray, List.map_cons, List.map_nil]); first | done | rfl | (simp only [List.length_drop, List.length_take]; rfl)) ?_; (with_reducible refine (impl_TimesPoly.calls kj56 t414 t430 t436 t437 _ A72.out).mono ?_); rintro e w137 ⟨rfl, hb⟩; refine ⟨_, rfl, ?_⟩; have n0_ := Aside0.mk (below_step (by repeat (first | (with_reducible first | exact HB.out | apply below_alloc | apply pw_below_drewN | apply below_drew1) | exact HB.out)) hb); clear HB; have HB := n0_; clear n0_; (try clear hb); (try clear hb2); (try clear hk); (try clear hi)))
                           go_ret
                           exact ⟨by first | rfl | (simp [errW_none, errW_some] <;> rfl) | (simp [*, errW_none, errW_some] <;> rfl), by repeat (first | (with_reducible first | exact HB.out | apply below_alloc | apply pw_below_drewN | apply below_drew1) | exact HB.out)⟩
                        ·replace c78 := Bool.eq_false_iff.mpr c78
                         subst c78
                         have H1 : (some false) = some r := by rw [if_neg (show ¬ (false = true) by decide)] at H; exact H
                         clear H
                         have H := H1
                         clear H1
                         as_aux_lemma =>
                          obtain rfl := Option.some.inj H
                          go_wp2_with (first | ((with_reducible refine gate_callee (f := 15) rfl ?_); refine goesL_ (some 221) rfl rfl Tryz.func15 (by kernel_rfl) rfl #[.int .i64 t414] rfl (by (try simp only [List.map_toArray, List.map_cons, List.map_nil]); first | done | rfl | (simp only [List.length_drop, List.length_take]; rfl)) ?_; (with_reducible refine (impl_ShiftPoly.calls kj56 t414 t420 true _ A64.out).mono ?_); rintro e w138 ⟨rfl, hb⟩; refine ⟨_, rfl, ?_⟩; have n0_ := Aside0.mk (below_step (by repeat (first | (with_reducible first | exact HB.out | apply below_alloc | apply pw_below_drewN | apply below_drew1) | exact HB.out)) hb); clear HB; have HB := n0_; clear n0_; (try clear hb); (try clear hb2); (try clear hk); (try clear hi)) | ((with_reducible refine gate_callee (f := 15) rfl ?_); refine goesL_ (some 226) rfl rfl Tryz.func15 (by kernel_rfl) rfl #[.int .i64 t415] rfl (by (try simp only [List.map_toArray, List.map_cons, List.map_nil]); first | done | rfl | (simp only [List.length_drop, List.length_take]; rfl)) ?_; (with_reducible refine (impl_ShiftPoly.calls kj56 t415 t422 true _ A65.out).mono ?_); rintro e w139 ⟨rfl, hb⟩; refine ⟨_, rfl, ?_⟩; have n0_ := Aside0.mk (below_step (by repeat (first | (with_reducible first | exact HB.out | apply below_alloc | apply pw_below_drewN | apply below_drew1) | exact HB.out)) hb); clear HB; have HB := n0_; clear n0_; (try clear hb); (try clear hb2); (try clear hk); (try clear hi)) | ((with_reducible refine gate_callee (f := 15) rfl ?_); refine goesL_ (some 231) rfl rfl Tryz.func15 (by kernel_rfl) rfl #[.int .i64 t416] rfl (by (try simp only [List.map_toArray, List.map_cons, List.map_nil]); first | done | rfl | (simp only [List.length_drop, List.length_take]; rfl)) ?_; (with_reducible refine (impl_ShiftPoly.calls kj56 t416 t424 true _ A66.out).mono ?_); rintro e w140 ⟨rfl, hb⟩; refine ⟨_, rfl, ?_⟩; have n0_ := Aside0.mk (below_step (by repeat (first | (with_reducible first | exact HB.out | apply below_alloc | apply pw_below_drewN | apply below_drew1) | exact HB.out)) hb); clear HB; have HB := n0_; clear n0_; (try clear hb); (try clear hb2); (try clear hk); (try clear hi)) | ((with_reducible refine gate_callee (f := 8) rfl ?_); refine goesL_ (some 237) rfl rfl Tryz.func8 (by kernel_rfl) rfl #[.int .i64 t420, .int .i64 t422] rfl (by (try simp only [List.map_toArray, List.map_cons, List.map_nil]); first | done | rfl | (simp only [List.length_drop, List.length_take]; rfl)) ?_; (with_reducible refine (impl_TimesPoly.calls kj56 t420 t422 t426 true _ A67.out).mono ?_); rintro e w141 ⟨rfl, hb⟩; refine ⟨_, rfl, ?_⟩; have n0_ := Aside0.mk (below_step (by repeat (first | (with_reducible first | exact HB.out | apply below_alloc | apply pw_below_drewN | apply below_drew1) | exact HB.out)) hb); clear HB; have HB := n0_; clear n0_; (try clear hb); (try clear hb2); (try clear hk); (try clear hi)) | ((with_reducible refine gate_callee (f := 16) rfl ?_); refine goesL_ (some 242) rfl rfl Tryz.func16 (by kernel_rfl) rfl #[.int .i64 t414] rfl (by (try simp only [List.map_toArray, List.map_cons, List.map_nil]); first | done | rfl | (simp only [List.length_drop, List.length_take]; rfl)) ?_; (with_reducible refine (impl_DerivativeOf.calls kj56 t414 t428 true _ A68.out).mono ?_); rintro e w142 ⟨rfl, hb⟩; refine ⟨_, rfl, ?_⟩; have n0_ := Aside0.mk (below_step (by repeat (first | (with_reducible first | exact HB.out | apply below_alloc | apply pw_below_drewN | apply below_drew1) | exact HB.out)) hb); clear HB; have HB := n0_; clear n0_; (try clear hb); (try clear hb2); (try clear hk); (try clear hi)) | ((with_reducible refine gate_callee (f := 16) rfl ?_); refine goesL_ (some 247) rfl rfl Tryz.func16 (by kernel_rfl) rfl #[.int .i64 t415] rfl (by (try simp only [List.map_toArray, List.map_cons, List.map_nil]); first | done | rfl | (simp only [List.length_drop, List.length_take]; rfl)) ?_; (with_reducible refine (impl_DerivativeOf.calls kj56 t415 t430 false _ A69.out).mono ?_); rintro e w143 ⟨rfl, hb⟩; refine ⟨_, rfl, ?_⟩; have n0_ := Aside0.mk (below_step (by repeat (first | (with_reducible first | exact HB.out | apply below_alloc | apply pw_below_drewN | apply below_drew1) | exact HB.out)) hb); clear HB; have HB := n0_; clear n0_; (try clear hb); (try clear hb2); (try clear hk); (try clear hi)) | ((with_reducible refine gate_callee (f := 16) rfl ?_); refine goesL_ (some 252) rfl rfl Tryz.func16 (by kernel_rfl) rfl #[.int .i64 t416] rfl (by (try simp only [List.map_toArray, List.map_cons, List.map_nil]); first | done | rfl | (simp only [List.length_drop, List.length_take]; rfl)) ?_; (with_reducible refine (impl_DerivativeOf.calls kj56 t416 t432 t433 _ A70.out).mono ?_); rintro e w144 ⟨rfl, hb⟩; refine ⟨_, rfl, ?_⟩; have n0_ := Aside0.mk (below_step (by repeat (first | (with_reducible first | exact HB.out | apply below_alloc | apply pw_below_drewN | apply below_drew1) | exact HB.out)) hb); clear HB; have HB := n0_; clear n0_; (try clear hb); (try clear hb2); (try clear hk); (try clear hi)) | ((with_reducible refine gate_callee (f := 8) rfl ?_); refine goesL_ (some 258) rfl rfl Tryz.func8 (by kernel_rfl) rfl #[.int .i64 t428, .int .i64 t415] rfl (by (try simp only [List.map_toArray, List.map_cons, List.map_nil]); first | done | rfl | (simp only [List.length_drop, List.length_take]; rfl)) ?_; (with_reducible refine (impl_TimesPoly.calls kj56 t428 t415 t434 t435 _ A71.out).mono ?_); rintro e w145 ⟨rfl, hb⟩; refine ⟨_, rfl, ?_⟩; have n0_ := Aside0.mk (below_step (by repeat (first | (with_reducible first | exact HB.out | apply below_alloc | apply pw_below_drewN | apply below_drew1) | exact HB.out)) hb); clear HB; have HB := n0_; clear n0_; (try clear hb); (try clear hb2); (try clear hk); (try clear hi)) | ((with_reducible refine gate_callee (f := 8) rfl ?_); refine goesL_ (some 264) rfl rfl Tryz.func8 (by kernel_rfl) rfl #[.int .i64 t414, .int .i64 t430] rfl (by (try simp only [List.map_toArray, List.map_cons, List.map_nil]); first | done | rfl | (simp only [List.length_drop, List.length_take]; rfl)) ?_; (with_reducible refine (impl_TimesPoly.calls kj56 t414 t430 t436 t437 _ A72.out).mono ?_); rintro e w146 ⟨rfl, hb⟩; refine ⟨_, rfl, ?_⟩; have n0_ := Aside0.mk (below_step (by repeat (first | (with_reducible first | exact HB.out | apply below_alloc | apply pw_below_drewN | apply below_drew1) | exact HB.out)) hb); clear HB; have HB := n0_; clear n0_; (try clear hb); (try clear hb2); (try clear hk); (try clear hi)))
                          go_ret
                          exact ⟨by first | rfl | (simp [errW_none, errW_some] <;> rfl) | (simp [*, errW_none, errW_some] <;> rfl), by repeat (first | (with_reducible first | exact HB.out | apply below_alloc | apply pw_below_drewN | apply below_drew1) | exact HB.out)⟩
                       ·replace c77 := Bool.eq_false_iff.mpr c77
                        subst c77
                        have H1 : (some false) = some r := by rw [if_neg (show ¬ (false = true) by decide)] at H; exact H
                        clear H
                        have H := H1
                        clear H1
                        as_aux_lemma =>
                         obtain rfl := Option.some.inj H
                         go_wp2_with (first | ((with_reducible refine gate_callee (f := 15) rfl ?_); refine goesL_ (some 221) rfl rfl Tryz.func15 (by kernel_rfl) rfl #[.int .i64 t414] rfl (by (try simp only [List.map_toArray, List.map_cons, List.map_nil]); first | done | rfl | (simp only [List.length_drop, List.length_take]; rfl)) ?_; (with_reducible refine (impl_ShiftPoly.calls kj56 t414 t420 true _ A64.out).mono ?_); rintro e w147 ⟨rfl, hb⟩; refine ⟨_, rfl, ?_⟩; have n0_ := Aside0.mk (below_step (by repeat (first | (with_reducible first | exact HB.out | apply below_alloc | apply pw_below_drewN | apply below_drew1) | exact HB.out)) hb); clear HB; have HB := n0_; clear n0_; (try clear hb); (try clear hb2); (try clear hk); (try clear hi)) | ((with_reducible refine gate_callee (f := 15) rfl ?_); refine goesL_ (some 226) rfl rfl Tryz.func15 (by kernel_rfl) rfl #[.int .i64 t415] rfl (by (try simp only [List.map_toArray, List.map_cons, List.map_nil]); first | done | rfl | (simp only [List.length_drop, List.length_take]; rfl)) ?_; (with_reducible refine (impl_ShiftPoly.calls kj56 t415 t422 true _ A65.out).mono ?_); rintro e w148 ⟨rfl, hb⟩; refine ⟨_, rfl, ?_⟩; have n0_ := Aside0.mk (below_step (by repeat (first | (with_reducible first | exact HB.out | apply below_alloc | apply pw_below_drewN | apply below_drew1) | exact HB.out)) hb); clear HB; have HB := n0_; clear n0_; (try clear hb); (try clear hb2); (try clear hk); (try clear hi)) | ((with_reducible refine gate_callee (f := 15) rfl ?_); refine goesL_ (some 231) rfl rfl Tryz.func15 (by kernel_rfl) rfl #[.int .i64 t416] rfl (by (try simp only [List.map_toArray, List.map_cons, List.map_nil]); first | done | rfl | (simp only [List.length_drop, List.length_take]; rfl)) ?_; (with_reducible refine (impl_ShiftPoly.calls kj56 t416 t424 true _ A66.out).mono ?_); rintro e w149 ⟨rfl, hb⟩; refine ⟨_, rfl, ?_⟩; have n0_ := Aside0.mk (below_step (by repeat (first | (with_reducible first | exact HB.out | apply below_alloc | apply pw_below_drewN | apply below_drew1) | exact HB.out)) hb); clear HB; have HB := n0_; clear n0_; (try clear hb); (try clear hb2); (try clear hk); (try clear hi)) | ((with_reducible refine gate_callee (f := 8) rfl ?_); refine goesL_ (some 237) rfl rfl Tryz.func8 (by kernel_rfl) rfl #[.int .i64 t420, .int .i64 t422] rfl (by (try simp only [List.map_toArray, List.map_cons, List.map_nil]); first | done | rfl | (simp only [List.length_drop, List.length_take]; rfl)) ?_; (with_reducible refine (impl_TimesPoly.calls kj56 t420 t422 t426 true _ A67.out).mono ?_); rintro e w150 ⟨rfl, hb⟩; refine ⟨_, rfl, ?_⟩; have n0_ := Aside0.mk (below_step (by repeat (first | (with_reducible first | exact HB.out | apply below_alloc | apply pw_below_drewN | apply below_drew1) | exact HB.out)) hb); clear HB; have HB := n0_; clear n0_; (try clear hb); (try clear hb2); (try clear hk); (try clear hi)) | ((with_reducible refine gate_callee (f := 16) rfl ?_); refine goesL_ (some 242) rfl rfl Tryz.func16 (by kernel_rfl) rfl #[.int .i64 t414] rfl (by (try simp only [List.map_toArray, List.map_cons, List.map_nil]); first | done | rfl | (simp only [List.length_drop, List.length_take]; rfl)) ?_; (with_reducible refine (impl_DerivativeOf.calls kj56 t414 t428 false _ A68.out).mono ?_); rintro e w151 ⟨rfl, hb⟩; refine ⟨_, rfl, ?_⟩; have n0_ := Aside0.mk (below_step (by repeat (first | (with_reducible first | exact HB.out | apply below_alloc | apply pw_below_drewN | apply below_drew1) | exact HB.out)) hb); clear HB; have HB := n0_; clear n0_; (try clear hb); (try clear hb2); (try clear hk); (try clear hi)) | ((with_reducible refine gate_callee (f := 16) rfl ?_); refine goesL_ (some 247) rfl rfl Tryz.func16 (by kernel_rfl) rfl #[.int .i64 t415] rfl (by (try simp only [List.map_toArray, List.map_cons, List.map_nil]); first | done | rfl | (simp only [List.length_drop, List.length_take]; rfl)) ?_; (with_reducible refine (impl_DerivativeOf.calls kj56 t415 t430 t431 _ A69.out).mono ?_); rintro e w152 ⟨rfl, hb⟩; refine ⟨_, rfl, ?_⟩; have n0_ := Aside0.mk (below_step (by repeat (first | (with_reducible first | exact HB.out | apply below_alloc | apply pw_below_drewN | apply below_drew1) | exact HB.out)) hb); clear HB; have HB := n0_; clear n0_; (try clear hb); (try clear hb2); (try clear hk); (try clear hi)) | ((with_reducible refine gate_callee (f := 16) rfl ?_); refine goesL_ (some 252) rfl rfl Tryz.func16 (by kernel_rfl) rfl #[.int .i64 t416] rfl (by (try simp only [List.map_toArray, List.map_cons, List.map_nil]); first | done | rfl | (simp only [List.length_drop, List.length_take]; rfl)) ?_; (with_reducible refine (impl_DerivativeOf.calls kj56 t416 t432 t433 _ A70.out).mono ?_); rintro e w153 ⟨rfl, hb⟩; refine ⟨_, rfl, ?_⟩; have n0_ := Aside0.mk (below_step (by repeat (first | (with_reducible first | exact HB.out | apply below_alloc | apply pw_below_drewN | apply below_drew1) | exact HB.out)) hb); clear HB; have HB := n0_; clear n0_; (try clear hb); (try clear hb2); (try clear hk); (try clear hi)) | ((with_reducible refine gate_callee (f := 8) rfl ?_); refine goesL_ (some 258) rfl rfl Tryz.func8 (by kernel_rfl) rfl #[.int .i64 t428, .int .i64 t415] rfl (by (try simp only [List.map_toArray, List.map_cons, List.map_nil]); first | done | rfl | (simp only [List.length_drop, List.length_take]; rfl)) ?_; (with_reducible refine (impl_TimesPoly.calls kj56 t428 t415 t434 t435 _ A71.out).mono ?_); rintro e w154 ⟨rfl, hb⟩; refine ⟨_, rfl, ?_⟩; have n0_ := Aside0.mk (below_step (by repeat (first | (with_reducible first | exact HB.out | apply below_alloc | apply pw_below_drewN | apply below_drew1) | exact HB.out)) hb); clear HB; have HB := n0_; clear n0_; (try clear hb); (try clear hb2); (try clear hk); (try clear hi)) | ((with_reducible refine gate_callee (f := 8) rfl ?_); refine goesL_ (some 264) rfl rfl Tryz.func8 (by kernel_rfl) rfl #[.int .i64 t414, .int .i64 t430] rfl (by (try simp only [List.map_toArray, List.map_cons, List.map_nil]); first | done | rfl | (simp only [List.length_drop, List.length_take]; rfl)) ?_; (with_reducible refine (impl_TimesPoly.calls kj56 t414 t430 t436 t437 _ A72.out).mono ?_); rintro e w155 ⟨rfl, hb⟩; refine ⟨_, rfl, ?_⟩; have n0_ := Aside0.mk (below_step (by repeat (first | (with_reducible first | exact HB.out | apply below_alloc | apply pw_below_drewN | apply below_drew1) | exact HB.out)) hb); clear HB; have HB := n0_; clear n0_; (try clear hb); (try clear hb2); (try clear hk); (try clear hi)))
                         go_ret
                         exact ⟨by first | rfl | (simp [errW_none, errW_some] <;> rfl) | (simp [*, errW_none, errW_some] <;> rfl), by repeat (first | (with_reducible first | exact HB.out | apply below_alloc | apply pw_below_drewN | apply below_drew1) | exact HB.out)⟩
                      ·replace c76 := Bool.eq_false_iff.mpr c76
                       subst c76
                       have H1 : (some false) = some r := by rw [if_neg (show ¬ (false = true) by decide)] at H; exact H
                       clear H
                       have H := H1
                       clear H1
                       as_aux_lemma =>
                        obtain rfl := Option.some.inj H
                        go_wp2_with (first | ((with_reducible refine gate_callee (f := 15) rfl ?_); refine goesL_ (some 221) rfl rfl Tryz.func15 (by kernel_rfl) rfl #[.int .i64 t414] rfl (by (try simp only [List.map_toArray, List.map_cons, List.map_nil]); first | done | rfl | (simp only [List.length_drop, List.length_take]; rfl)) ?_; (with_reducible refine (impl_ShiftPoly.calls kj56 t414 t420 true _ A64.out).mono ?_); rintro e w156 ⟨rfl, hb⟩; refine ⟨_, rfl, ?_⟩; have n0_ := Aside0.mk (below_step (by repeat (first | (with_reducible first | exact HB.out | apply below_alloc | apply pw_below_drewN | apply below_drew1) | exact HB.out)) hb); clear HB; have HB := n0_; clear n0_; (try clear hb); (try clear hb2); (try clear hk); (try clear hi)) | ((with_reducible refine gate_callee (f := 15) rfl ?_); refine goesL_ (some 226) rfl rfl Tryz.func15 (by kernel_rfl) rfl #[.int .i64 t415] rfl (by (try simp only [List.map_toArray, List.map_cons, List.map_nil]); first | done | rfl | (simp only [List.length_drop, List.length_take]; rfl)) ?_; (with_reducible refine (impl_ShiftPoly.calls kj56 t415 t422 true _ A65.out).mono ?_); rintro e w157 ⟨rfl, hb⟩; refine ⟨_, rfl, ?_⟩; have n0_ := Aside0.mk (below_step (by repeat (first | (with_reducible first | exact HB.out | apply below_alloc | apply pw_below_drewN | apply below_drew1) | exact HB.out)) hb); clear HB; have HB := n0_; clear n0_; (try clear hb); (try clear hb2); (try clear hk); (try clear hi)) | ((with_reducible refine gate_callee (f := 15) rfl ?_); refine goesL_ (some 231) rfl rfl Tryz.func15 (by kernel_rfl) rfl #[.int .i64 t416] rfl (by (try simp only [List.map_toArray, List.map_cons, List.map_nil]); first | done | rfl | (simp only [List.length_drop, List.length_take]; rfl)) ?_; (with_reducible refine (impl_ShiftPoly.calls kj56 t416 t424 true _ A66.out).mono ?_); rintro e w158 ⟨rfl, hb⟩; refine ⟨_, rfl, ?_⟩; have n0_ := Aside0.mk (below_step (by repeat (first | (with_reducible first | exact HB.out | apply below_alloc | apply pw_below_drewN | apply below_drew1) | exact HB.out)) hb); clear HB; have HB := n0_; clear n0_; (try clear hb); (try clear hb2); (try clear hk); (try clear hi)) | ((with_reducible refine gate_callee (f := 8) rfl ?_); refine goesL_ (some 237) rfl rfl Tryz.func8 (by kernel_rfl) rfl #[.int .i64 t420, .int .i64 t422] rfl (by (try simp only [List.map_toArray, List.map_cons, List.map_nil]); first | done | rfl | (simp only [List.length_drop, List.length_take]; rfl)) ?_; (with_reducible refine (impl_TimesPoly.calls kj56 t420 t422 t426 false _ A67.out).mono ?_); rintro e w159 ⟨rfl, hb⟩; refine ⟨_, rfl, ?_⟩; have n0_ := Aside0.mk (below_step (by repeat (first | (with_reducible first | exact HB.out | apply below_alloc | apply pw_below_drewN | apply below_drew1) | exact HB.out)) hb); clear HB; have HB := n0_; clear n0_; (try clear hb); (try clear hb2); (try clear hk); (try clear hi)) | ((with_reducible refine gate_callee (f := 16) rfl ?_); refine goesL_ (some 242) rfl rfl Tryz.func16 (by kernel_rfl) rfl #[.int .i64 t414] rfl (by (try simp only [List.map_toArray, List.map_cons, List.map_nil]); first | done | rfl | (simp only [List.length_drop, List.length_take]; rfl)) ?_; (with_reducible refine (impl_DerivativeOf.calls kj56 t414 t428 t429 _ A68.out).mono ?_); rintro e w160 ⟨rfl, hb⟩; refine ⟨_, rfl, ?_⟩; have n0_ := Aside0.mk (below_step (by repeat (first | (with_reducible first | exact HB.out | apply below_alloc | apply pw_below_drewN | apply below_drew1) | exact HB.out)) hb); clear HB; have HB := n0_; clear n0_; (try clear hb); (try clear hb2); (try clear hk); (try clear hi)) | ((with_reducible refine gate_callee (f := 16) rfl ?_); refine goesL_ (some 247) rfl rfl Tryz.func16 (by kernel_rfl) rfl #[.int .i64 t415] rfl (by (try simp only [List.map_toArray, List.map_cons, List.map_nil]); first | done | rfl | (simp only [List.length_drop, List.length_take]; rfl)) ?_; (with_reducible refine (impl_DerivativeOf.calls kj56 t415 t430 t431 _ A69.out).mono ?_); rintro e w161 ⟨rfl, hb⟩; refine ⟨_, rfl, ?_⟩; have n0_ := Aside0.mk (below_step (by repeat (first | (with_reducible first | exact HB.out | apply below_alloc | apply pw_below_drewN | apply below_drew1) | exact HB.out)) hb); clear HB; have HB := n0_; clear n0_; (try clear hb); (try clear hb2); (try clear hk); (try clear hi)) | ((with_reducible refine gate_callee (f := 16) rfl ?_); refine goesL_ (some 252) rfl rfl Tryz.func16 (by kernel_rfl) rfl #[.int .i64 t416] rfl (by (try simp only [List.map_toArray, List.map_cons, List.map_nil]); first | done | rfl | (simp only [List.length_drop, List.length_take]; rfl)) ?_; (with_reducible refine (impl_DerivativeOf.calls kj56 t416 t432 t433 _ A70.out).mono ?_); rintro e w162 ⟨rfl, hb⟩; refine ⟨_, rfl, ?_⟩; have n0_ := Aside0.mk (below_step (by repeat (first | (with_reducible first | exact HB.out | apply below_alloc | apply pw_below_drewN | apply below_drew1) | exact HB.out)) hb); clear HB; have HB := n0_; clear n0_; (try clear hb); (try clear hb2); (try clear hk); (try clear hi)) | ((with_reducible refine gate_callee (f := 8) rfl ?_); refine goesL_ (some 258) rfl rfl Tryz.func8 (by kernel_rfl) rfl #[.int .i64 t428, .int .i64 t415] rfl (by (try simp only [List.map_toArray, List.map_cons, List.map_nil]); first | done | rfl | (simp only [List.length_drop, List.length_take]; rfl)) ?_; (with_reducible refine (impl_TimesPoly.calls kj56 t428 t415 t434 t435 _ A71.out).mono ?_); rintro e w163 ⟨rfl, hb⟩; refine ⟨_, rfl, ?_⟩; have n0_ := Aside0.mk (below_step (by repeat (first | (with_reducible first | exact HB.out | apply below_alloc | apply pw_below_drewN | apply below_drew1) | exact HB.out)) hb); clear HB; have HB := n0_; clear n0_; (try clear hb); (try clear hb2); (try clear hk); (try clear hi)) | ((with_reducible refine gate_callee (f := 8) rfl ?_); refine goesL_ (some 264) rfl rfl Tryz.func8 (by kernel_rfl) rfl #[.int .i64 t414, .int .i64 t430] rfl (by (try simp only [List.map_toArray, List.map_cons, List.map_nil]); first | done | rfl | (simp only [List.length_drop, List.length_take]; rfl)) ?_; (with_reducible refine (impl_TimesPoly.calls kj56 t414 t430 t436 t437 _ A72.out).mono ?_); rintro e w164 ⟨rfl, hb⟩; refine ⟨_, rfl, ?_⟩; have n0_ := Aside0.mk (below_step (by repeat (first | (with_reducible first | exact HB.out | apply below_alloc | apply pw_below_drewN | apply below_drew1) | exact HB.out)) hb); clear HB; have HB := n0_; clear n0_; (try clear hb); (try clear hb2); (try clear hk); (try clear hi)))
                        go_ret
                        exact ⟨by first | rfl | (simp [errW_none, errW_some] <;> rfl) | (simp [*, errW_none, errW_some] <;> rfl), by repeat (first | (with_reducible first | exact HB.out | apply below_alloc | apply pw_below_drewN | apply below_drew1) | exact HB.out)⟩
                     ·replace c75 := Bool.eq_false_iff.mpr c75
                      subst c75
                      have H1 : (some false) = some r := by rw [if_neg (show ¬ (false = true) by decide)] at H; exact H
                      clear H
                      have H := H1
                      clear H1
                      as_aux_lemma =>
                       obtain rfl := Option.some.inj H
                       go_wp2_with (first | ((with_reducible refine gate_callee (f := 15) rfl ?_); refine goesL_ (some 221) rfl rfl Tryz.func15 (by kernel_rfl) rfl #[.int .i64 t414] rfl (by (try simp only [List.map_toArray, List.map_cons, List.map_nil]); first | done | rfl | (simp only [List.length_drop, List.length_take]; rfl)) ?_; (with_reducible refine (impl_ShiftPoly.calls kj56 t414 t420 true _ A64.out).mono ?_); rintro e w165 ⟨rfl, hb⟩; refine ⟨_, rfl, ?_⟩; have n0_ := Aside0.mk (below_step (by repeat (first | (with_reducible first | exact HB.out | apply below_alloc | apply pw_below_drewN | apply below_drew1) | exact HB.out)) hb); clear HB; have HB := n0_; clear n0_; (try clear hb); (try clear hb2); (try clear hk); (try clear hi)) | ((with_reducible refine gate_callee (f := 15) rfl ?_); refine goesL_ (some 226) rfl rfl Tryz.func15 (by kernel_rfl) rfl #[.int .i64 t415] rfl (by (try simp only [List.map_toArray, List.map_cons, List.map_nil]); first | done | rfl | (simp only [List.length_drop, List.length_take]; rfl)) ?_; (with_reducible refine (impl_ShiftPoly.calls kj56 t415 t422 true _ A65.out).mono ?_); rintro e w166 ⟨rfl, hb⟩; refine ⟨_, rfl, ?_⟩; have n0_ := Aside0.mk (below_step (by repeat (first | (with_reducible first | exact HB.out | apply below_alloc | apply pw_below_drewN | apply below_drew1) | exact HB.out)) hb); clear HB; have HB := n0_; clear n0_; (try clear hb); (try clear hb2); (try clear hk); (try clear hi)) | ((with_reducible refine gate_callee (f := 15) rfl ?_); refine goesL_ (some 231) rfl rfl Tryz.func15 (by kernel_rfl) rfl #[.int .i64 t416] rfl (by (try simp only [List.map_toArray, List.map_cons, List.map_nil]); first | done | rfl | (simp only [List.length_drop, List.length_take]; rfl)) ?_; (with_reducible refine (impl_ShiftPoly.calls kj56 t416 t424 false _ A66.out).mono ?_); rintro e w167 ⟨rfl, hb⟩; refine ⟨_, rfl, ?_⟩; have n0_ := Aside0.mk (below_step (by repeat (first | (with_reducible first | exact HB.out | apply below_alloc | apply pw_below_drewN | apply below_drew1) | exact HB.out)) hb); clear HB; have HB := n0_; clear n0_; (try clear hb); (try clear hb2); (try clear hk); (try clear hi)) | ((with_reducible refine gate_callee (f := 8) rfl ?_); refine goesL_ (some 237) rfl rfl Tryz.func8 (by kernel_rfl) rfl #[.int .i64 t420, .int .i64 t422] rfl (by (try simp only [List.map_toArray, List.map_cons, List.map_nil]); first | done | rfl | (simp only [List.length_drop, List.length_take]; rfl)) ?_; (with_reducible refine (impl_TimesPoly.calls kj56 t420 t422 t426 t427 _ A67.out).mono ?_); rintro e w168 ⟨rfl, hb⟩; refine ⟨_, rfl, ?_⟩; have n0_ := Aside0.mk (below_step (by repeat (first | (with_reducible first | exact HB.out | apply below_alloc | apply pw_below_drewN | apply below_drew1) | exact HB.out)) hb); clear HB; have HB := n0_; clear n0_; (try clear hb); (try clear hb2); (try clear hk); (try clear hi)) | ((with_reducible refine gate_callee (f := 16) rfl ?_); refine goesL_ (some 242) rfl rfl Tryz.func16 (by kernel_rfl) rfl #[.int .i64 t414] rfl (by (try simp only [List.map_toArray, List.map_cons, List.map_nil]); first | done | rfl | (simp only [List.length_drop, List.length_take]; rfl)) ?_; (with_reducible refine (impl_DerivativeOf.calls kj56 t414 t428 t429 _ A68.out).mono ?_); rintro e w169 ⟨rfl, hb⟩; refine ⟨_, rfl, ?_⟩; have n0_ := Aside0.mk (below_step (by repeat (first | (with_reducible first | exact HB.out | apply below_alloc | apply pw_below_drewN | apply below_drew1) | exact HB.out)) hb); clear HB; have HB := n0_; clear n0_; (try clear hb); (try clear hb2); (try clear hk); (try clear hi)) | ((with_reducible refine gate_callee (f := 16) rfl ?_); refine goesL_ (some 247) rfl rfl Tryz.func16 (by kernel_rfl) rfl #[.int .i64 t415] rfl (by (try simp only [List.map_toArray, List.map_cons, List.map_nil]); first | done | rfl | (simp only [List.length_drop, List.length_take]; rfl)) ?_; (with_reducible refine (impl_DerivativeOf.calls kj56 t415 t430 t431 _ A69.out).mono ?_); rintro e w170 ⟨rfl, hb⟩; refine ⟨_, rfl, ?_⟩; have n0_ := Aside0.mk (below_step (by repeat (first | (with_reducible first | exact HB.out | apply below_alloc | apply pw_below_drewN | apply below_drew1) | exact HB.out)) hb); clear HB; have HB := n0_; clear n0_; (try clear hb); (try clear hb2); (try clear hk); (try clear hi)) | ((with_reducible refine gate_callee (f := 16) rfl ?_); refine goesL_ (some 252) rfl rfl Tryz.func16 (by kernel_rfl) rfl #[.int .i64 t416] rfl (by (try simp only [List.map_toArray, List.map_cons, List.map_nil]); first | done | rfl | (simp only [List.length_drop, List.length_take]; rfl)) ?_; (with_reducible refine (impl_DerivativeOf.calls kj56 t416 t432 t433 _ A70.out).mono ?_); rintro e w171 ⟨rfl, hb⟩; refine ⟨_, rfl, ?_⟩; have n0_ := Aside0.mk (below_step (by repeat (first | (with_reducible first | exact HB.out | apply below_alloc | apply pw_below_drewN | apply below_drew1) | exact HB.out)) hb); clear HB; have HB := n0_; clear n0_; (try clear hb); (try clear hb2); (try clear hk); (try clear hi)) | ((with_reducible refine gate_callee (f := 8) rfl ?_); refine goesL_ (some 258) rfl rfl Tryz.func8 (by kernel_rfl) rfl #[.int .i64 t428, .int .i64 t415] rfl (by (try simp only [List.map_toArray, List.map_cons, List.map_nil]); first | done | rfl | (simp only [List.length_drop, List.length_take]; rfl)) ?_; (with_reducible refine (impl_TimesPoly.calls kj56 t428 t415 t434 t435 _ A71.out).mono ?_); rintro e w172 ⟨rfl, hb⟩; refine ⟨_, rfl, ?_⟩; have n0_ := Aside0.mk (below_step (by repeat (first | (with_reducible first | exact HB.out | apply below_alloc | apply pw_below_drewN | apply below_drew1) | exact HB.out)) hb); clear HB; have HB := n0_; clear n0_; (try clear hb); (try clear hb2); (try clear hk); (try clear hi)) | ((with_reducible refine gate_callee (f := 8) rfl ?_); refine goesL_ (some 264) rfl rfl Tryz.func8 (by kernel_rfl) rfl #[.int .i64 t414, .int .i64 t430] rfl (by (try simp only [List.map_toArray, List.map_cons, List.map_nil]); first | done | rfl | (simp only [List.length_drop, List.length_take]; rfl)) ?_; (with_reducible refine (impl_TimesPoly.calls kj56 t414 t430 t436 t437 _ A72.out).mono ?_); rintro e w173 ⟨rfl, hb⟩; refine ⟨_, rfl, ?_⟩; have n0_ := Aside0.mk (below_step (by repeat (first | (with_reducible first | exact HB.out | apply below_alloc | apply pw_below_drewN | apply below_drew1) | exact HB.out)) hb); clear HB; have HB := n0_; clear n0_; (try clear hb); (try clear hb2); (try clear hk); (try clear hi)))
                       go_ret
                       exact ⟨by first | rfl | (simp [errW_none, errW_some] <;> rfl) | (simp [*, errW_none, errW_some] <;> rfl), by repeat (first | (with_reducible first | exact HB.out | apply below_alloc | apply pw_below_drewN | apply below_drew1) | exact HB.out)⟩
                    ·replace c74 := Bool.eq_false_iff.mpr c74
                     subst c74
                     have H1 : (some false) = some r := by rw [if_neg (show ¬ (false = true) by decide)] at H; exact H
                     clear H
                     have H := H1
                     clear H1
                     as_aux_lemma =>
                      obtain rfl := Option.some.inj H
                      go_wp2_with (first | ((with_reducible refine gate_callee (f := 15) rfl ?_); refine goesL_ (some 221) rfl rfl Tryz.func15 (by kernel_rfl) rfl #[.int .i64 t414] rfl (by (try simp only [List.map_toArray, List.map_cons, List.map_nil]); first | done | rfl | (simp only [List.length_drop, List.length_take]; rfl)) ?_; (with_reducible refine (impl_ShiftPoly.calls kj56 t414 t420 true _ A64.out).mono ?_); rintro e w174 ⟨rfl, hb⟩; refine ⟨_, rfl, ?_⟩; have n0_ := Aside0.mk (below_step (by repeat (first | (with_reducible first | exact HB.out | apply below_alloc | apply pw_below_drewN | apply below_drew1) | exact HB.out)) hb); clear HB; have HB := n0_; clear n0_; (try clear hb); (try clear hb2); (try clear hk); (try clear hi)) | ((with_reducible refine gate_callee (f := 15) rfl ?_); refine goesL_ (some 226) rfl rfl Tryz.func15 (by kernel_rfl) rfl #[.int .i64 t415] rfl (by (try simp only [List.map_toArray, List.map_cons, List.map_nil]); first | done | rfl | (simp only [List.length_drop, List.length_take]; rfl)) ?_; (with_reducible refine (impl_ShiftPoly.calls kj56 t415 t422 false _ A65.out).mono ?_); rintro e w175 ⟨rfl, hb⟩; refine ⟨_, rfl, ?_⟩; have n0_ := Aside0.mk (below_step (by repeat (first | (with_reducible first | exact HB.out | apply below_alloc | apply pw_below_drewN | apply below_drew1) | exact HB.out)) hb); clear HB; have HB := n0_; clear n0_; (try clear hb); (try clear hb2); (try clear hk); (try clear hi)) | ((with_reducible refine gate_callee (f := 15) rfl ?_); refine goesL_ (some 231) rfl rfl Tryz.func15 (by kernel_rfl) rfl #[.int .i64 t416] rfl (by (try simp only [List.map_toArray, List.map_cons, List.map_nil]); first | done | rfl | (simp only [List.length_drop, List.length_take]; rfl)) ?_; (with_reducible refine (impl_ShiftPoly.calls kj56 t416 t424 t425 _ A66.out).mono ?_); rintro e w176 ⟨rfl, hb⟩; refine ⟨_, rfl, ?_⟩; have n0_ := Aside0.mk (below_step (by repeat (first | (with_reducible first | exact HB.out | apply below_alloc | apply pw_below_drewN | apply below_drew1) | exact HB.out)) hb); clear HB; have HB := n0_; clear n0_; (try clear hb); (try clear hb2); (try clear hk); (try clear hi)) | ((with_reducible refine gate_callee (f := 8) rfl ?_); refine goesL_ (some 237) rfl rfl Tryz.func8 (by kernel_rfl) rfl #[.int .i64 t420, .int .i64 t422] rfl (by (try simp only [List.map_toArray, List.map_cons, List.map_nil]); first | done | rfl | (simp only [List.length_drop, List.length_take]; rfl)) ?_; (with_reducible refine (impl_TimesPoly.calls kj56 t420 t422 t426 t427 _ A67.out).mono ?_); rintro e w177 ⟨rfl, hb⟩; refine ⟨_, rfl, ?_⟩; have n0_ := Aside0.mk (below_step (by repeat (first | (with_reducible first | exact HB.out | apply below_alloc | apply pw_below_drewN | apply below_drew1) | exact HB.out)) hb); clear HB; have HB := n0_; clear n0_; (try clear hb); (try clear hb2); (try clear hk); (try clear hi)) | ((with_reducible refine gate_callee (f := 16) rfl ?_); refine goesL_ (some 242) rfl rfl Tryz.func16 (by kernel_rfl) rfl #[.int .i64 t414] rfl (by (try simp only [List.map_toArray, List.map_cons, List.map_nil]); first | done | rfl | (simp only [List.length_drop, List.length_take]; rfl)) ?_; (with_reducible refine (impl_DerivativeOf.calls kj56 t414 t428 t429 _ A68.out).mono ?_); rintro e w178 ⟨rfl, hb⟩; refine ⟨_, rfl, ?_⟩; have n0_ := Aside0.mk (below_step (by repeat (first | (with_reducible first | exact HB.out | apply below_alloc | apply pw_below_drewN | apply below_drew1) | exact HB.out)) hb); clear HB; have HB := n0_; clear n0_; (try clear hb); (try clear hb2); (try clear hk); (try clear hi)) | ((with_reducible refine gate_callee (f := 16) rfl ?_); refine goesL_ (some 247) rfl rfl Tryz.func16 (by kernel_rfl) rfl #[.int .i64 t415] rfl (by (try simp only [List.map_toArray, List.map_cons, List.map_nil]); first | done | rfl | (simp only [List.length_drop, List.length_take]; rfl)) ?_; (with_reducible refine (impl_DerivativeOf.calls kj56 t415 t430 t431 _ A69.out).mono ?_); rintro e w179 ⟨rfl, hb⟩; refine ⟨_, rfl, ?_⟩; have n0_ := Aside0.mk (below_step (by repeat (first | (with_reducible first | exact HB.out | apply below_alloc | apply pw_below_drewN | apply below_drew1) | exact HB.out)) hb); clear HB; have HB := n0_; clear n0_; (try clear hb); (try clear hb2); (try clear hk); (try clear hi)) | ((with_reducible refine gate_callee (f := 16) rfl ?_); refine goesL_ (some 252) rfl rfl Tryz.func16 (by kernel_rfl) rfl #[.int .i64 t416] rfl (by (try simp only [List.map_toArray, List.map_cons, List.map_nil]); first | done | rfl | (simp only [List.length_drop, List.length_take]; rfl)) ?_; (with_reducible refine (impl_DerivativeOf.calls kj56 t416 t432 t433 _ A70.out).mono ?_); rintro e w180 ⟨rfl, hb⟩; refine ⟨_, rfl, ?_⟩; have n0_ := Aside0.mk (below_step (by repeat (first | (with_reducible first | exact HB.out | apply below_alloc | apply pw_below_drewN | apply below_drew1) | exact HB.out)) hb); clear HB; have HB := n0_; clear n0_; (try clear hb); (try clear hb2); (try clear hk); (try clear hi)) | ((with_reducible refine gate_callee (f := 8) rfl ?_); refine goesL_ (some 258) rfl rfl Tryz.func8 (by kernel_rfl) rfl #[.int .i64 t428, .int .i64 t415] rfl (by (try simp only [List.map_toArray, List.map_cons, List.map_nil]); first | done | rfl | (simp only [List.length_drop, List.length_take]; rfl)) ?_; (with_reducible refine (impl_TimesPoly.calls kj56 t428 t415 t434 t435 _ A71.out).mono ?_); rintro e w181 ⟨rfl, hb⟩; refine ⟨_, rfl, ?_⟩; have n0_ := Aside0.mk (below_step (by repeat (first | (with_reducible first | exact HB.out | apply below_alloc | apply pw_below_drewN | apply below_drew1) | exact HB.out)) hb); clear HB; have HB := n0_; clear n0_; (try clear hb); (try clear hb2); (try clear hk); (try clear hi)) | ((with_reducible refine gate_callee (f := 8) rfl ?_); refine goesL_ (some 264) rfl rfl Tryz.func8 (by kernel_rfl) rfl #[.int .i64 t414, .int .i64 t430] rfl (by (try simp only [List.map_toArray, List.map_cons, List.map_nil]); first | done | rfl | (simp only [List.length_drop, List.length_take]; rfl)) ?_; (with_reducible refine (impl_TimesPoly.calls kj56 t414 t430 t436 t437 _ A72.out).mono ?_); rintro e w182 ⟨rfl, hb⟩; refine ⟨_, rfl, ?_⟩; have n0_ := Aside0.mk (below_step (by repeat (first | (with_reducible first | exact HB.out | apply below_alloc | apply pw_below_drewN | apply below_drew1) | exact HB.out)) hb); clear HB; have HB := n0_; clear n0_; (try clear hb); (try clear hb2); (try clear hk); (try clear hi)))
                      go_ret
                      exact ⟨by first | rfl | (simp [errW_none, errW_some] <;> rfl) | (simp [*, errW_none, errW_some] <;> rfl), by repeat (first | (with_reducible first | exact HB.out | apply below_alloc | apply pw_below_drewN | apply below_drew1) | exact HB.out)⟩
                   ·replace c73 := Bool.eq_false_iff.mpr c73
                    subst c73
                    have H1 : (some false) = some r := by rw [if_neg (show ¬ (false = true) by decide)] at H; exact H
                    clear H
                    have H := H1
                    clear H1
                    as_aux_lemma =>
                     obtain rfl := Option.some.inj H
                     go_wp2_with (first | ((with_reducible refine gate_callee (f := 15) rfl ?_); refine goesL_ (some 221) rfl rfl Tryz.func15 (by kernel_rfl) rfl #[.int .i64 t414] rfl (by (try simp only [List.map_toArray, List.map_cons, List.map_nil]); first | done | rfl | (simp only [List.length_drop, List.length_take]; rfl)) ?_; (with_reducible refine (impl_ShiftPoly.calls kj56 t414 t420 false _ A64.out).mono ?_); rintro e w183 ⟨rfl, hb⟩; refine ⟨_, rfl, ?_⟩; have n0_ := Aside0.mk (below_step (by repeat (first | (with_reducible first | exact HB.out | apply below_alloc | apply pw_below_drewN | apply below_drew1) | exact HB.out)) hb); clear HB; have HB := n0_; clear n0_; (try clear hb); (try clear hb2); (try clear hk); (try clear hi)) | ((with_reducible refine gate_callee (f := 15) rfl ?_); refine goesL_ (some 226) rfl rfl Tryz.func15 (by kernel_rfl) rfl #[.int .i64 t415] rfl (by (try simp only [List.map_toArray, List.map_cons, List.map_nil]); first | done | rfl | (simp only [List.length_drop, List.length_take]; rfl)) ?_; (with_reducible refine (impl_ShiftPoly.calls kj56 t415 t422 t423 _ A65.out).mono ?_); rintro e w184 ⟨rfl, hb⟩; refine ⟨_, rfl, ?_⟩; have n0_ := Aside0.mk (below_step (by repeat (first | (with_reducible first | exact HB.out | apply below_alloc | apply pw_below_drewN | apply below_drew1) | exact HB.out)) hb); clear HB; have HB := n0_; clear n0_; (try clear hb); (try clear hb2); (try clear hk); (try clear hi)) | ((with_reducible refine gate_callee (f := 15) rfl ?_); refine goesL_ (some 231) rfl rfl Tryz.func15 (by kernel_rfl) rfl #[.int .i64 t416] rfl (by (try simp only [List.map_toArray, List.map_cons, List.map_nil]); first | done | rfl | (simp only [List.length_drop, List.length_take]; rfl)) ?_; (with_reducible refine (impl_ShiftPoly.calls kj56 t416 t424 t425 _ A66.out).mono ?_); rintro e w185 ⟨rfl, hb⟩; refine ⟨_, rfl, ?_⟩; have n0_ := Aside0.mk (below_step (by repeat (first | (with_reducible first | exact HB.out | apply below_alloc | apply pw_below_drewN | apply below_drew1) | exact HB.out)) hb); clear HB; have HB := n0_; clear n0_; (try clear hb); (try clear hb2); (try clear hk); (try clear hi)) | ((with_reducible refine gate_callee (f := 8) rfl ?_); refine goesL_ (some 237) rfl rfl Tryz.func8 (by kernel_rfl) rfl #[.int .i64 t420, .int .i64 t422] rfl (by (try simp only [List.map_toArray, List.map_cons, List.map_nil]); first | done | rfl | (simp only [List.length_drop, List.length_take]; rfl)) ?_; (with_reducible refine (impl_TimesPoly.calls kj56 t420 t422 t426 t427 _ A67.out).mono ?_); rintro e w186 ⟨rfl, hb⟩; refine ⟨_, rfl, ?_⟩; have n0_ := Aside0.mk (below_step (by repeat (first | (with_reducible first | exact HB.out | apply below_alloc | apply pw_below_drewN | apply below_drew1) | exact HB.out)) hb); clear HB; have HB := n0_; clear n0_; (try clear hb); (try clear hb2); (try clear hk); (try clear hi)) | ((with_reducible refine gate_callee (f := 16) rfl ?_); refine goesL_ (some 242) rfl rfl Tryz.func16 (by kernel_rfl) rfl #[.int .i64 t414] rfl (by (try simp only [List.map_toArray, List.map_cons, List.map_nil]); first | done | rfl | (simp only [List.length_drop, List.length_take]; rfl)) ?_; (with_reducible refine (impl_DerivativeOf.calls kj56 t414 t428 t429 _ A68.out).mono ?_); rintro e w187 ⟨rfl, hb⟩; refine ⟨_, rfl, ?_⟩; have n0_ := Aside0.mk (below_step (by repeat (first | (with_reducible first | exact HB.out | apply below_alloc | apply pw_below_drewN | apply below_drew1) | exact HB.out)) hb); clear HB; have HB := n0_; clear n0_; (try clear hb); (try clear hb2); (try clear hk); (try clear hi)) | ((with_reducible refine gate_callee (f := 16) rfl ?_); refine goesL_ (some 247) rfl rfl Tryz.func16 (by kernel_rfl) rfl #[.int .i64 t415] rfl (by (try simp only [List.map_toArray, List.map_cons, List.map_nil]); first | done | rfl | (simp only [List.length_drop, List.length_take]; rfl)) ?_; (with_reducible refine (impl_DerivativeOf.calls kj56 t415 t430 t431 _ A69.out).mono ?_); rintro e w188 ⟨rfl, hb⟩; refine ⟨_, rfl, ?_⟩; have n0_ := Aside0.mk (below_step (by repeat (first | (with_reducible first | exact HB.out | apply below_alloc | apply pw_below_drewN | apply below_drew1) | exact HB.out)) hb); clear HB; have HB := n0_; clear n0_; (try clear hb); (try clear hb2); (try clear hk); (try clear hi)) | ((with_reducible refine gate_callee (f := 16) rfl ?_); refine goesL_ (some 252) rfl rfl Tryz.func16 (by kernel_rfl) rfl #[.int .i64 t416] rfl (by (try simp only [List.map_toArray, List.map_cons, List.map_nil]); first | done | rfl | (simp only [List.length_drop, List.length_take]; rfl)) ?_; (with_reducible refine (impl_DerivativeOf.calls kj56 t416 t432 t433 _ A70.out).mono ?_); rintro e w189 ⟨rfl, hb⟩; refine ⟨_, rfl, ?_⟩; have n0_ := Aside0.mk (below_step (by repeat (first | (with_reducible first | exact HB.out | apply below_alloc | apply pw_below_drewN | apply below_drew1) | exact HB.out)) hb); clear HB; have HB := n0_; clear n0_; (try clear hb); (try clear hb2); (try clear hk); (try clear hi)) | ((with_reducible refine gate_callee (f := 8) rfl ?_); refine goesL_ (some 258) rfl rfl Tryz.func8 (by kernel_rfl) rfl #[.int .i64 t428, .int .i64 t415] rfl (by (try simp only [List.map_toArray, List.map_cons, List.map_nil]); first | done | rfl | (simp only [List.length_drop, List.length_take]; rfl)) ?_; (with_reducible refine (impl_TimesPoly.calls kj56 t428 t415 t434 t435 _ A71.out).mono ?_); rintro e w190 ⟨rfl, hb⟩; refine ⟨_, rfl, ?_⟩; have n0_ := Aside0.mk (below_step (by repeat (first | (with_reducible first | exact HB.out | apply below_alloc | apply pw_below_drewN | apply below_drew1) | exact HB.out)) hb); clear HB; have HB := n0_; clear n0_; (try clear hb); (try clear hb2); (try clear hk); (try clear hi)) | ((with_reducible refine gate_callee (f := 8) rfl ?_); refine goesL_ (some 264) rfl rfl Tryz.func8 (by kernel_rfl) rfl #[.int .i64 t414, .int .i64 t430] rfl (by (try simp only [List.map_toArray, List.map_cons, List.map_nil]); first | done | rfl | (simp only [List.length_drop, List.length_take]; rfl)) ?_; (with_reducible refine (impl_TimesPoly.calls kj56 t414 t430 t436 t437 _ A72.out).mono ?_); rintro e w191 ⟨rfl, hb⟩; refine ⟨_, rfl, ?_⟩; have n0_ := Aside0.mk (below_step (by repeat (first | (with_reducible first | exact HB.out | apply below_alloc | apply pw_below_drewN | apply below_drew1) | exact HB.out)) hb); clear HB; have HB := n0_; clear n0_; (try clear hb); (try clear hb2); (try clear hk); (try clear hi)))
                     go_ret
                     exact ⟨by first | rfl | (simp [errW_none, errW_some] <;> rfl) | (simp [*, errW_none, errW_some] <;> rfl), by repeat (first | (with_reducible first | exact HB.out | apply below_alloc | apply pw_below_drewN | apply below_drew1) | exact HB.out)⟩
                  ·replace c63 := Bool.eq_false_iff.mpr c63
                   subst c63
                   have H1 : (laws_FnPolynomialsDivide.j6 kj56 l0 l1) = some r := by rw [if_neg (show ¬ (false = true) by decide)] at H; exact H
                   clear H
                   have H := H1
                   clear H1
                   as_aux_lemma =>
                    have H' := Aside0.mk H
                    clear H
                    go_wp2
                    go_meet
                    case rel => exact ⟨_, H', ⟨by have := HJ7.out; have := HJ13.out; have := HJ28.out; have := HJ33.out; have := HJ35.out; have := HJ56.out; first | omega | exact Nat.le_refl _⟩, ⟨by repeat (first | (with_reducible first | exact HB.out | apply below_alloc | apply pw_below_drewN | apply below_drew1) | exact HB.out)⟩⟩
                 case rest =>
                  clear HC62;(try clear c1);(try clear c2);(try clear p2);(try clear c3);(try clear c4);(try clear c5);(try clear c6);(try clear c7);(try clear c8);(try clear c10);(try clear c11);(try clear c11b0);(try clear c11b1);(try clear c11b2);(try clear c12);(try clear c12b0);(try clear c12b1);(try clear c13);(try clear c14);(try clear c15);(try clear c16);(try clear c17);(try clear c18);(try clear c18b0);(try clear c18b1);(try clear c21);(try clear c21b0);(try clear c32);(try clear c32b0);(try clear c32b1);(try clear c32b2);(try clear c33);(try clear c35);(try clear c37);(try clear c40);(try clear c41);(try clear c42);(try clear c42b0);(try clear c42b1);(try clear c43);(try clear c43b0);(try clear c43b1);(try clear c60);(try clear c60b0);(try clear c60b1);(try clear c60b2);(try clear c61);(try clear c63);(try clear c73);(try clear c74);(try clear c75);(try clear c76);(try clear c77);(try clear c78);(try clear c79);(try clear c80);(try clear c81);(try clear c82);(try clear c82b0);(try clear c82b1);(try clear c83);(try clear c83b0);(try clear c83b1);(try clear p2)
                  obtain ⟨kq, HA, HJ61, HB⟩ := hcut
                  cases kq with
                  | zero => exact absurd HA.out (by simp [laws_FnPolynomialsDivide.j6])
                  | succ kj61 =>
                   have H := HA.out
                   clear HA
                   simp only [laws_FnPolynomialsDivide.j6] at H
                   replace H := Option.bind_eq_some_iff.mp H
                   obtain ⟨t438, A1920, H⟩ := H
                   replace H : ((impl_ShiftPoly.f kj61 t438).bind fun bt439 => ((spec_ShiftPoly.f kj61 t438).bind fun bt441 => ((impl_ReversedPoly.f kj61 t438).bind fun bt443 => ((spec_ReversedPoly.f kj61 t438).bind fun bt445 => ((impl_DegreeOf.f t438).bind fun bt447 => ((spec_DegreeOf.f kj61 t438).bind fun bt449 => (if (bt439.2 != bt441.2) = true then (laws_FnPolynomialsDivide.j7 kj61 l0 t438 bt439.1 bt439.2 bt447.1 true) else (if bt439.1 = bt441.1 then (if (bt443.2 != bt445.2) = true then (laws_FnPolynomialsDivide.j7 kj61 l0 t438 bt439.1 bt439.2 bt447.1 true) else (if bt443.1 = bt445.1 then (if (bt447.2 != bt449.2) = true then (laws_FnPolynomialsDivide.j7 kj61 l0 t438 bt439.1 bt439.2 bt447.1 true) else (if bt447.1 = bt449.1 then (laws_FnPolynomialsDivide.j7 kj61 l0 t438 bt439.1 bt439.2 bt447.1 (bt439.2 != bt447.2)) else (laws_FnPolynomialsDivide.j7 kj61 l0 t438 bt439.1 bt439.2 bt447.1 true))) else (laws_FnPolynomialsDivide.j7 kj61 l0 t438 bt439.1 bt439.2 bt447.1 true))) else (laws_FnPolynomialsDivide.j7 kj61 l0 t438 bt439.1 bt439.2 bt447.1 true))))))))) = some r := H
                   have A192 := Aside0.mk A1920
                   clear A1920
                   replace H := Option.bind_eq_some_iff.mp H
                   obtain ⟨⟨t439, t440⟩, A1930, H⟩ := H
                   replace H : ((spec_ShiftPoly.f kj61 t438).bind fun bt441 => ((impl_ReversedPoly.f kj61 t438).bind fun bt443 => ((spec_ReversedPoly.f kj61 t438).bind fun bt445 => ((impl_DegreeOf.f t438).bind fun bt447 => ((spec_DegreeOf.f kj61 t438).bind fun bt449 => (if (t440 != bt441.2) = true then (laws_FnPolynomialsDivide.j7 kj61 l0 t438 t439 t440 bt447.1 true) else (if t439 = bt441.1 then (if (bt443.2 != bt445.2) = true then (laws_FnPolynomialsDivide.j7 kj61 l0 t438 t439 t440 bt447.1 true) else (if bt443.1 = bt445.1 then (if (bt447.2 != bt449.2) = true then (laws_FnPolynomialsDivide.j7 kj61 l0 t438 t439 t440 bt447.1 true) else (if bt447.1 = bt449.1 then (laws_FnPolynomialsDivide.j7 kj61 l0 t438 t439 t440 bt447.1 (t440 != bt447.2)) else (laws_FnPolynomialsDivide.j7 kj61 l0 t438 t439 t440 bt447.1 true))) else (laws_FnPolynomialsDivide.j7 kj61 l0 t438 t439 t440 bt447.1 true))) else (laws_FnPolynomialsDivide.j7 kj61 l0 t438 t439 t440 bt447.1 true)))))))) = some r := H
                   have A193 := Aside0.mk A1930
                   clear A1930
                   replace H := Option.bind_eq_some_iff.mp H
                   obtain ⟨⟨t441, t442⟩, A1940, H⟩ := H
                   replace H : ((impl_ReversedPoly.f kj61 t438).bind fun bt443 => ((spec_ReversedPoly.f kj61 t438).bind fun bt445 => ((impl_DegreeOf.f t438).bind fun bt447 => ((spec_DegreeOf.f kj61 t438).bind fun bt449 => (if (t440 != t442) = true then (laws_FnPolynomialsDivide.j7 kj61 l0 t438 t439 t440 bt447.1 true) else (if t439 = t441 then (if (bt443.2 != bt445.2) = true then (laws_FnPolynomialsDivide.j7 kj61 l0 t438 t439 t440 bt447.1 true) else (if bt443.1 = bt445.1 then (if (bt447.2 != bt449.2) = true then (laws_FnPolynomialsDivide.j7 kj61 l0 t438 t439 t440 bt447.1 true) else (if bt447.1 = bt449.1 then (laws_FnPolynomialsDivide.j7 kj61 l0 t438 t439 t440 bt447.1 (t440 != bt447.2)) else (laws_FnPolynomialsDivide.j7 kj61 l0 t438 t439 t440 bt447.1 true))) else (laws_FnPolynomialsDivide.j7 kj61 l0 t438 t439 t440 bt447.1 true))) else (laws_FnPolynomialsDivide.j7 kj61 l0 t438 t439 t440 bt447.1 true))))))) = some r := H
                   have A194 := Aside0.mk A1940
                   clear A1940
                   replace H := Option.bind_eq_some_iff.mp H
                   obtain ⟨⟨t443, t444⟩, A1950, H⟩ := H
                   replace H : ((spec_ReversedPoly.f kj61 t438).bind fun bt445 => ((impl_DegreeOf.f t438).bind fun bt447 => ((spec_DegreeOf.f kj61 t438).bind fun bt449 => (if (t440 != t442) = true then (laws_FnPolynomialsDivide.j7 kj61 l0 t438 t439 t440 bt447.1 true) else (if t439 = t441 then (if (t444 != bt445.2) = true then (laws_FnPolynomialsDivide.j7 kj61 l0 t438 t439 t440 bt447.1 true) else (if t443 = bt445.1 then (if (bt447.2 != bt449.2) = true then (laws_FnPolynomialsDivide.j7 kj61 l0 t438 t439 t440 bt447.1 true) else (if bt447.1 = bt449.1 then (laws_FnPolynomialsDivide.j7 kj61 l0 t438 t439 t440 bt447.1 (t440 != bt447.2)) else (laws_FnPolynomialsDivide.j7 kj61 l0 t438 t439 t440 bt447.1 true))) else (laws_FnPolynomialsDivide.j7 kj61 l0 t438 t439 t440 bt447.1 true))) else (laws_FnPolynomialsDivide.j7 kj61 l0 t438 t439 t440 bt447.1 true)))))) = some r := H
                   have A195 := Aside0.mk A1950
                   clear A1950
                   replace H := Option.bind_eq_some_iff.mp H
                   obtain ⟨⟨t445, t446⟩, A1960, H⟩ := H
                   replace H : ((impl_DegreeOf.f t438).bind fun bt447 => ((spec_DegreeOf.f kj61 t438).bind fun bt449 => (if (t440 != t442) = true then (laws_FnPolynomialsDivide.j7 kj61 l0 t438 t439 t440 bt447.1 true) else (if t439 = t441 then (if (t444 != t446) = true then (laws_FnPolynomialsDivide.j7 kj61 l0 t438 t439 t440 bt447.1 true) else (if t443 = t445 then (if (bt447.2 != bt449.2) = true then (laws_FnPolynomialsDivide.j7 kj61 l0 t438 t439 t440 bt447.1 true) else (if bt447.1 = bt449.1 then (laws_FnPolynomialsDivide.j7 kj61 l0 t438 t439 t440 bt447.1 (t440 != bt447.2)) else (laws_FnPolynomialsDivide.j7 kj61 l0 t438 t439 t440 bt447.1 true))) else (laws_FnPolynomialsDivide.j7 kj61 l0 t438 t439 t440 bt447.1 true))) else (laws_FnPolynomialsDivide.j7 kj61 l0 t438 t439 t440 bt447.1 true))))) = some r := H
                   have A196 := Aside0.mk A1960
                   clear A1960
                   replace H := Option.bind_eq_some_iff.mp H
                   obtain ⟨⟨t447, t448⟩, A1970, H⟩ := H
                   replace H : ((spec_DegreeOf.f kj61 t438).bind fun bt449 => (if (t440 != t442) = true then (laws_FnPolynomialsDivide.j7 kj61 l0 t438 t439 t440 t447 true) else (if t439 = t441 then (if (t444 != t446) = true then (laws_FnPolynomialsDivide.j7 kj61 l0 t438 t439 t440 t447 true) else (if t443 = t445 then (if (t448 != bt449.2) = true then (laws_FnPolynomialsDivide.j7 kj61 l0 t438 t439 t440 t447 true) else (if t447 = bt449.1 then (laws_FnPolynomialsDivide.j7 kj61 l0 t438 t439 t440 t447 (t440 != t448)) else (laws_FnPolynomialsDivide.j7 kj61 l0 t438 t439 t440 t447 true))) else (laws_FnPolynomialsDivide.j7 kj61 l0 t438 t439 t440 t447 true))) else (laws_FnPolynomialsDivide.j7 kj61 l0 t438 t439 t440 t447 true)))) = some r := H
                   have A197 := Aside0.mk A1970
                   clear A1970
                   replace H := Option.bind_eq_some_iff.mp H
                   obtain ⟨⟨t449, t450⟩, A1980, H⟩ := H
                   replace H : (if (t440 != t442) = true then (laws_FnPolynomialsDivide.j7 kj61 l0 t438 t439 t440 t447 true) else (if t439 = t441 then (if (t444 != t446) = true then (laws_FnPolynomialsDivide.j7 kj61 l0 t438 t439 t440 t447 true) else (if t443 = t445 then (if (t448 != t450) = true then (laws_FnPolynomialsDivide.j7 kj61 l0 t438 t439 t440 t447 true) else (if t447 = t449 then (laws_FnPolynomialsDivide.j7 kj61 l0 t438 t439 t440 t447 (t440 != t448)) else (laws_FnPolynomialsDivide.j7 kj61 l0 t438 t439 t440 t447 true))) else (laws_FnPolynomialsDivide.j7 kj61 l0 t438 t439 t440 t447 true))) else (laws_FnPolynomialsDivide.j7 kj61 l0 t438 t439 t440 t447 true))) = some r := H
                   have A198 := Aside0.mk A1980
                   clear A1980
                   have HC199 := Aside0.mk H
                   clear H
                   go_upto_region 46 with (first | ((with_reducible refine gate_callee (f := 17) rfl ?_); refine goesL_ (some 314) rfl rfl Tryz.func17 (by kernel_rfl) rfl #[.slice A1 l1.length c1] rfl (by (try simp only [List.map_toArray, List.map_cons, List.map_nil]); first | done | rfl | (simp only [List.length_drop, List.length_take]; rfl)) ?_; (with_reducible refine (spec_DrawShiftPoly.calls kj61 _ _ l1 t438 _ ?side1 ?side2 A192.out).mono ?_); (case side1 => repeat (first | exact (Kd.C_below HR1.out HB.out) | (with_reducible refine Kd.C_alloc ?_ _) | (with_reducible refine Kd.C_drewN ?_ _) | (with_reducible refine Kd.C_drew ?_))); (case side2 => exact HC1.out); rintro e w200 ⟨rfl, hb⟩; refine ⟨_, rfl, ?_⟩; have n0_ := Aside0.mk (below_step (by repeat (first | (with_reducible first | exact HB.out | apply below_alloc | apply pw_below_drewN | apply below_drew1) | exact HB.out)) hb); clear HB; have HB := n0_; clear n0_; (try clear hb); (try clear hb2); (try clear hk); (try clear hi)) | ((with_reducible refine gate_callee (f := 15) rfl ?_); refine goesL_ (some 317) rfl rfl Tryz.func15 (by kernel_rfl) rfl #[.int .i64 t438] rfl (by (try simp only [List.map_toArray, List.map_cons, List.map_nil]); first | done | rfl | (simp only [List.length_drop, List.length_take]; rfl)) ?_; (with_reducible refine (impl_ShiftPoly.calls kj61 t438 t439 t440 _ A193.out).mono ?_); rintro e w201 ⟨rfl, hb⟩; refine ⟨_, rfl, ?_⟩; have n0_ := Aside0.mk (below_step (by repeat (first | (with_reducible first | exact HB.out | apply below_alloc | apply pw_below_drewN | apply below_drew1) | exact HB.out)) hb); clear HB; have HB := n0_; clear n0_; (try clear hb); (try clear hb2); (try clear hk); (try clear hi)) | ((with_reducible refine gate_callee (f := 18) rfl ?_); refine goesL_ (some 322) rfl rfl Tryz.func18 (by kernel_rfl) rfl #[.int .i64 t438] rfl (by (try simp only [List.map_toArray, List.map_cons, List.map_nil]); first | done | rfl | (simp only [List.length_drop, List.length_take]; rfl)) ?_; (with_reducible refine (spec_ShiftPoly.calls kj61 t438 t441 t442 _ A194.out).mono ?_); rintro e w' ⟨rfl, ⟨nd, rfl⟩⟩; refine ⟨_, rfl, ?_⟩) | ((with_reducible refine gate_callee (f := 19) rfl ?_); refine goesL_ (some 327) rfl rfl Tryz.func19 (by kernel_rfl) rfl #[.int .i64 t438] rfl (by (try simp only [List.map_toArray, List.map_cons, List.map_nil]); first | done | rfl | (simp only [List.length_drop, List.length_take]; rfl)) ?_; (with_reducible refine (impl_ReversedPoly.calls kj61 t438 t443 t444 _ A195.out).mono ?_); rintro e w202 ⟨rfl, hb⟩; refine ⟨_, rfl, ?_⟩; have n0_ := Aside0.mk (below_step (by repeat (first | (with_reducible first | exact HB.out | apply below_alloc | apply pw_below_drewN | apply below_drew1) | exact HB.out)) hb); clear HB; have HB := n0_; clear n0_; (try clear hb); (try clear hb2); (try clear hk); (try clear hi)) | ((with_reducible refine gate_callee (f := 20) rfl ?_); refine goesL_ (some 332) rfl rfl Tryz.func20 (by kernel_rfl) rfl #[.int .i64 t438] rfl (by (try simp only [List.map_toArray, List.map_cons, List.map_nil]); first | done | rfl | (simp only [List.length_drop, List.length_take]; rfl)) ?_; (with_reducible refine (spec_ReversedPoly.calls kj61 t438 t445 t446 _ A196.out).mono ?_); rintro e w' ⟨rfl, ⟨nd, rfl⟩⟩; refine ⟨_, rfl, ?_⟩) | ((with_reducible refine gate_callee (f := 21) rfl ?_); refine goesL_ (some 337) rfl rfl Tryz.func21 (by kernel_rfl) rfl #[.int .i64 t438] rfl (by (try simp only [List.map_toArray, List.map_cons, List.map_nil]); first | done | rfl | (simp only [List.length_drop, List.length_take]; rfl)) ?_; (with_reducible refine (impl_DegreeOf.calls t438 t447 t448 _ A197.out).mono ?_); rintro e w203 ⟨rfl, hb⟩; refine ⟨_, rfl, ?_⟩; have n0_ := Aside0.mk (below_step (by repeat (first | (with_reducible first | exact HB.out | apply below_alloc | apply pw_below_drewN | apply below_drew1) | exact HB.out)) hb); clear HB; have HB := n0_; clear n0_; (try clear hb); (try clear hb2); (try clear hk); (try clear hi)) | ((with_reducible refine gate_callee (f := 22) rfl ?_); refine goesL_ (some 342) rfl rfl Tryz.func22 (by kernel_rfl) rfl #[.int .i64 t438] rfl (by (try simp only [List.map_toArray, List.map_cons, List.map_nil]); first | done | rfl | (simp only [List.length_drop, List.length_take]; rfl)) ?_; (with_reducible refine (spec_DegreeOf.calls kj61 t438 t449 t450 _ A198.out).mono ?_); rintro e w' ⟨rfl, ⟨nd, rfl⟩⟩; refine ⟨_, rfl, ?_⟩))
                   (try simp only [Act.put, List.setIfInBounds_toArray, List.set_cons_zero, List.set_cons_succ])
                   go_cut [377] from 313 to 377 (fun v377 wc => ∃ (kq : Nat) (x377_198 : Bool), v377 = .bool x377_198 ∧ Aside0 (laws_FnPolynomialsDivide.j7 kq l0 t438 t439 t440 t447 x377_198 = some r) ∧ Aside0 (kq ≤ kj61) ∧ Aside0 (Below w.heap.size w wc))
                   case first =>
                    have H := HC199.out
                    clear HC199
                    by_cases c204 : (t440 != t442) = true
                    ·rw [if_pos c204] at H
                     have c204b0 : (t440 != t442) = true := c204
                     (try (have c204b1 : decide (t440 = t442) = false := by simpa using c204))
                     (try (have c204b2 : (t440 == t442) = false := by simpa using c204))
                     (try (have c204b3 : ¬ (t440 = t442) := by simpa using c204))
                     clear c204
                     (first | rw [c204b0] | (simp only [i64_w, i32_w]; rw [c204b0]) | skip)
                     as_aux_lemma =>
                      have H' := Aside0.mk H
                      clear H
                      go_wp2
                      go_meet
                      case rel => exact ⟨_, (true), (by first | rfl | (simp; done) | (simp [*]; done)), H', ⟨by have := HJ7.out; have := HJ13.out; have := HJ28.out; have := HJ33.out; have := HJ35.out; have := HJ56.out; have := HJ61.out; first | omega | exact Nat.le_refl _⟩, ⟨by repeat (first | (with_reducible first | exact HB.out | apply below_alloc | apply pw_below_drewN | apply below_drew1) | exact HB.out)⟩⟩
                    ·rw [if_neg c204] at H
                     have c204b0 : (t440 != t442) = false := by simpa using c204
                     (try (have c204b1 : decide (t440 = t442) = true := by simpa using c204))
                     (try (have c204b2 : (t440 == t442) = true := by simpa using c204))
                     clear c204
                     (first | rw [c204b0] | (simp only [i64_w, i32_w]; rw [c204b0]) | skip)
                     by_cases c205 : t439 = t441
                     ·rw [if_pos c205] at H
                      have c205b0 : (t439 == t441) = true := beq_iff_eq.mpr c205
                      have c205b1 : (t439 != t441) = false := bne_eq_false_iff_eq.mpr c205
                      clear c205
                      by_cases c206 : (t444 != t446) = true
                      ·rw [if_pos c206] at H
                       have c206b0 : (t444 != t446) = true := c206
                       (try (have c206b1 : decide (t444 = t446) = false := by simpa using c206))
                       (try (have c206b2 : (t444 == t446) = false := by simpa using c206))
                       (try (have c206b3 : ¬ (t444 = t446) := by simpa using c206))
                       clear c206
                       as_aux_lemma =>
                        have H' := Aside0.mk H
                        clear H
                        go_wp2
                        go_meet
                        case rel => exact ⟨_, (true), (by first | rfl | (simp; done) | (simp [*]; done)), H', ⟨by have := HJ7.out; have := HJ13.out; have := HJ28.out; have := HJ33.out; have := HJ35.out; have := HJ56.out; have := HJ61.out; first | omega | exact Nat.le_refl _⟩, ⟨by repeat (first | (with_reducible first | exact HB.out | apply below_alloc | apply pw_below_drewN | apply below_drew1) | exact HB.out)⟩⟩
                      ·rw [if_neg c206] at H
                       have c206b0 : (t444 != t446) = false := by simpa using c206
                       (try (have c206b1 : decide (t444 = t446) = true := by simpa using c206))
                       (try (have c206b2 : (t444 == t446) = true := by simpa using c206))
                       clear c206
                       by_cases c207 : t443 = t445
                       ·rw [if_pos c207] at H
                        have c207b0 : (t443 == t445) = true := beq_iff_eq.mpr c207
                        have c207b1 : (t443 != t445) = false := bne_eq_false_iff_eq.mpr c207
                        clear c207
                        by_cases c208 : (t448 != t450) = true
                        ·rw [if_pos c208] at H
                         have c208b0 : (t448 != t450) = true := c208
                         (try (have c208b1 : decide (t448 = t450) = false := by simpa using c208))
                         (try (have c208b2 : (t448 == t450) = false := by simpa using c208))
                         (try (have c208b3 : ¬ (t448 = t450) := by simpa using c208))
                         clear c208
                         as_aux_lemma =>
                          have H' := Aside0.mk H
                          clear H
                          go_wp2
                          go_meet
                          case rel => exact ⟨_, (true), (by first | rfl | (simp; done) | (simp [*]; done)), H', ⟨by have := HJ7.out; have := HJ13.out; have := HJ28.out; have := HJ33.out; have := HJ35.out; have := HJ56.out; have := HJ61.out; first | omega | exact Nat.le_refl _⟩, ⟨by repeat (first | (with_reducible first | exact HB.out | apply below_alloc | apply pw_below_drewN | apply below_drew1) | exact HB.out)⟩⟩
                        ·rw [if_neg c208] at H
                         have c208b0 : (t448 != t450) = false := by simpa using c208
                         (try (have c208b1 : decide (t448 = t450) = true := by simpa using c208))
                         (try (have c208b2 : (t448 == t450) = true := by simpa using c208))
                         clear c208
                         by_cases c209 : t447 = t449
                         ·rw [if_pos c209] at H
                          have c209b0 : (t447 == t449) = true := beq_iff_eq.mpr c209
                          have c209b1 : (t447 != t449) = false := bne_eq_false_iff_eq.mpr c209
                          clear c209
                          as_aux_lemma =>
                           have H' := Aside0.mk H
                           clear H
                           go_wp2
                           go_meet
                           case rel => exact ⟨_, ((t440 != t448)), (by first | rfl | (simp; done) | (simp [*]; done)), H', ⟨by have := HJ7.out; have := HJ13.out; have := HJ28.out; have := HJ33.out; have := HJ35.out; have := HJ56.out; have := HJ61.out; first | omega | exact Nat.le_refl _⟩, ⟨by repeat (first | (with_reducible first | exact HB.out | apply below_alloc | apply pw_below_drewN | apply below_drew1) | exact HB.out)⟩⟩
                         ·rw [if_neg c209] at H
                          have c209b0 : (t447 == t449) = false := beq_eq_false_iff_ne.mpr c209
                          have c209b1 : (t447 != t449) = true := bne_iff_ne.mpr c209
                          as_aux_lemma =>
                           have H' := Aside0.mk H
                           clear H
                           go_wp2
                           go_meet
                           case rel => exact ⟨_, (true), (by first | rfl | (simp; done) | (simp [*]; done)), H', ⟨by have := HJ7.out; have := HJ13.out; have := HJ28.out; have := HJ33.out; have := HJ35.out; have := HJ56.out; have := HJ61.out; first | omega | exact Nat.le_refl _⟩, ⟨by repeat (first | (with_reducible first | exact HB.out | apply below_alloc | apply pw_below_drewN | apply below_drew1) | exact HB.out)⟩⟩
                       ·rw [if_neg c207] at H
                        have c207b0 : (t443 == t445) = false := beq_eq_false_iff_ne.mpr c207
                        have c207b1 : (t443 != t445) = true := bne_iff_ne.mpr c207
                        as_aux_lemma =>
                         have H' := Aside0.mk H
                         clear H
                         go_wp2
                         go_meet
                         case rel => exact ⟨_, (true), (by first | rfl | (simp; done) | (simp [*]; done)), H', ⟨by have := HJ7.out; have := HJ13.out; have := HJ28.out; have := HJ33.out; have := HJ35.out; have := HJ56.out; have := HJ61.out; first | omega | exact Nat.le_refl _⟩, ⟨by repeat (first | (with_reducible first | exact HB.out | apply below_alloc | apply pw_below_drewN | apply below_drew1) | exact HB.out)⟩⟩
                     ·rw [if_neg c205] at H
                      have c205b0 : (t439 == t441) = false := beq_eq_false_iff_ne.mpr c205
                      have c205b1 : (t439 != t441) = true := bne_iff_ne.mpr c205
                      as_aux_lemma =>
                       have H' := Aside0.mk H
                       clear H
                       go_wp2
                       go_meet
                       case rel => exact ⟨_, (true), (by first | rfl | (simp; done) | (simp [*]; done)), H', ⟨by have := HJ7.out; have := HJ13.out; have := HJ28.out; have := HJ33.out; have := HJ35.out; have := HJ56.out; have := HJ61.out; first | omega | exact Nat.le_refl _⟩, ⟨by repeat (first | (with_reducible first | exact HB.out | apply below_alloc | apply pw_below_drewN | apply below_drew1) | exact HB.out)⟩⟩
                   case rest =>
                    clear HC199;(try clear c1);(try clear c2);(try clear p2);(try clear c3);(try clear c4);(try clear c5);(try clear c6);(try clear c7);(try clear c8);(try clear c10);(try clear c11);(try clear c11b0);(try clear c11b1);(try clear c11b2);(try clear c12);(try clear c12b0);(try clear c12b1);(try clear c13);(try clear c14);(try clear c15);(try clear c16);(try clear c17);(try clear c18);(try clear c18b0);(try clear c18b1);(try clear c19);(try clear c20);(try clear c21);(try clear c21b0);(try clear c22);(try clear c32);(try clear c32b0);(try clear c32b1);(try clear c32b2);(try clear c33);(try clear c35);(try clear c37);(try clear c40);(try clear c41);(try clear c42);(try clear c42b0);(try clear c42b1);(try clear c43);(try clear c43b0);(try clear c43b1);(try clear c60);(try clear c60b0);(try clear c60b1);(try clear c60b2);(try clear c61);(try clear c63);(try clear c73);(try clear c74);(try clear c75);(try clear c76);(try clear c77);(try clear c78);(try clear c79);(try clear c80);(try clear c81);(try clear c82);(try clear c82b0);(try clear c82b1);(try clear c83);(try clear c83b0);(try clear c83b1);(try clear c204);(try clear c204b0);(try clear c204b1);(try clear c204b2);(try clear c205);(try clear c205b0);(try clear c205b1);(try clear c206);(try clear c206b0);(try clear c206b1);(try clear c206b2);(try clear c207);(try clear c207b0);(try clear c207b1);(try clear c208);(try clear c208b0);(try clear c208b1);(try clear c208b2);(try clear c209);(try clear c209b0);(try clear c209b1);(try clear p2)
                    obtain ⟨kq, x377_198, rfl, HA, HJ198, HB⟩ := hcut
                    cases kq with
                    | zero => exact absurd HA.out (by simp [laws_FnPolynomialsDivide.j7])
                    | succ kj198 =>
                     have H := HA.out
                     clear HA
                     simp only [laws_FnPolynomialsDivide.j7] at H
                     by_cases c210 : x377_198 = true
                     ·subst c210
                      have H1 : (some false) = some r := by rw [if_pos rfl] at H; exact H
                      clear H
                      have H := H1
                      clear H1
                      as_aux_lemma =>
                       obtain rfl := Option.some.inj H
                       go_wp2
                       go_ret
                       exact ⟨by first | rfl | (simp [errW_none, errW_some] <;> rfl) | (simp [*, errW_none, errW_some] <;> rfl), by repeat (first | (with_reducible first | exact HB.out | apply below_alloc | apply pw_below_drewN | apply below_drew1) | exact HB.out)⟩
                     ·replace c210 := Bool.eq_false_iff.mpr c210
                      subst c210
                      have H1 : (if t440 = true then ((impl_ShiftPoly.f kj198 t439).bind fun bt451 => ((impl_PolyText.f kj198 t438).bind fun bt453 => ((impl_ParsePoly.f kj198 bt453.1).bind fun bt455 => (if bt451.2 = true then (if bt451.1 = t438 then ((laws_vTop.f kj198 t438).bind fun t457 => (if t447 = t457 then (if bt453.2 = true then (if bt455.2 = true then (if bt455.1 = t438 then (laws_FnPolynomialsDivide.j8 kj198 l0) else (some false)) else (some false)) else (some false)) else (some false))) else (some false)) else (some false))))) else (laws_FnPolynomialsDivide.j8 kj198 l0)) = some r := by rw [if_neg (show ¬ (false = true) by decide)] at H; exact H
                      clear H
                      have H := H1
                      clear H1
                      have HC211 := Aside0.mk H
                      clear H
                      go_upto_if 378 with (fail)
                      go_cut [] from 378 to 419 (fun wc => ∃ (kq : Nat), Aside0 (laws_FnPolynomialsDivide.j8 kq l0 = some r) ∧ Aside0 (kq ≤ kj198) ∧ Aside0 (Below w.heap.size w wc))
                      case first =>
                       have H := HC211.out
                       clear HC211
                       by_cases c212 : t440 = true
                       ·subst c212
                        have H1 : ((impl_ShiftPoly.f kj198 t439).bind fun bt451 => ((impl_PolyText.f kj198 t438).bind fun bt453 => ((impl_ParsePoly.f kj198 bt453.1).bind fun bt455 => (if bt451.2 = true then (if bt451.1 = t438 then ((laws_vTop.f kj198 t438).bind fun t457 => (if t447 = t457 then (if bt453.2 = true then (if bt455.2 = true then (if bt455.1 = t438 then (laws_FnPolynomialsDivide.j8 kj198 l0) else (some false)) else (some false)) else (some false)) else (some false))) else (some false)) else (some false))))) = some r := by rw [if_pos rfl] at H; exact H
                        clear H
                        have H := H1
                        clear H1
                        replace H := Option.bind_eq_some_iff.mp H
                        obtain ⟨⟨t451, t452⟩, A2130, H⟩ := H
                        replace H : ((impl_PolyText.f kj198 t438).bind fun bt453 => ((impl_ParsePoly.f kj198 bt453.1).bind fun bt455 => (if t452 = true then (if t451 = t438 then ((laws_vTop.f kj198 t438).bind fun t457 => (if t447 = t457 then (if bt453.2 = true then (if bt455.2 = true then (if bt455.1 = t438 then (laws_FnPolynomialsDivide.j8 kj198 l0) else (some false)) else (some false)) else (some false)) else (some false))) else (some false)) else (some false)))) = some r := H
                        have A213 := Aside0.mk A2130
                        clear A2130
                        replace H := Option.bind_eq_some_iff.mp H
                        obtain ⟨⟨t453, t454⟩, A2140, H⟩ := H
                        replace H : ((impl_ParsePoly.f kj198 t453).bind fun bt455 => (if t452 = true then (if t451 = t438 then ((laws_vTop.f kj198 t438).bind fun t457 => (if t447 = t457 then (if t454 = true then (if bt455.2 = true then (if bt455.1 = t438 then (laws_FnPolynomialsDivide.j8 kj198 l0) else (some false)) else (some false)) else (some false)) else (some false))) else (some false)) else (some false))) = some r := H
                        have A214 := Aside0.mk A2140
                        clear A2140
                        replace H := Option.bind_eq_some_iff.mp H
                        obtain ⟨⟨t455, t456⟩, A2150, H⟩ := H
                        replace H : (if t452 = true then (if t451 = t438 then ((laws_vTop.f kj198 t438).bind fun t457 => (if t447 = t457 then (if t454 = true then (if t456 = true then (if t455 = t438 then (laws_FnPolynomialsDivide.j8 kj198 l0) else (some false)) else (some false)) else (some false)) else (some false))) else (some false)) else (some false)) = some r := H
                        have A215 := Aside0.mk A2150
                        clear A2150
                        by_cases c216 : t452 = true
                        ·subst c216
                         have H1 : (if t451 = t438 then ((laws_vTop.f kj198 t438).bind fun t457 => (if t447 = t457 then (if t454 = true then (if t456 = true then (if t455 = t438 then (laws_FnPolynomialsDivide.j8 kj198 l0) else (some false)) else (some false)) else (some false)) else (some false))) else (some false)) = some r := by rw [if_pos rfl] at H; exact H
                         clear H
                         have H := H1
                         clear H1
                         by_cases c217 : t451 = t438
                         ·rw [if_pos c217] at H
                          have c217b0 : (t451 == t438) = true := beq_iff_eq.mpr c217
                          have c217b1 : (t451 != t438) = false := bne_eq_false_iff_eq.mpr c217
                          clear c217
                          (first | rw [c217b0] | (simp only [i64_w, i32_w]; rw [c217b0]) | skip)
                          replace H := Option.bind_eq_some_iff.mp H
                          obtain ⟨t457, A2180, H⟩ := H
                          replace H : (if t447 = t457 then (if t454 = true then (if t456 = true then (if t455 = t438 then (laws_FnPolynomialsDivide.j8 kj198 l0) else (some false)) else (some false)) else (some false)) else (some false)) = some r := H
                          have A218 := Aside0.mk A2180
                          clear A2180
                          by_cases c219 : t447 = t457
                          ·rw [if_pos c219] at H
                           have c219b0 : (t447 == t457) = true := beq_iff_eq.mpr c219
                           have c219b1 : (t447 != t457) = false := bne_eq_false_iff_eq.mpr c219
                           clear c219
                           by_cases c220 : t454 = true
                           ·subst c220
                            have H1 : (if t456 = true then (if t455 = t438 then (laws_FnPolynomialsDivide.j8 kj198 l0) else (some false)) else (some false)) = some r := by rw [if_pos rfl] at H; exact H
                            clear H
                            have H := H1
                            clear H1
                            by_cases c221 : t456 = true
                            ·subst c221
                             have H1 : (if t455 = t438 then (laws_FnPolynomialsDivide.j8 kj198 l0) else (some false)) = some r := by rw [if_pos rfl] at H; exact H
                             clear H
                             have H := H1
                             clear H1
                             by_cases c222 : t455 = t438
                             ·rw [if_pos c222] at H
                              have c222b0 : (t455 == t438) = true := beq_iff_eq.mpr c222
                              have c222b1 : (t455 != t438) = false := bne_eq_false_iff_eq.mpr c222
                              clear c222
                              as_aux_lemma =>
                               have H' := Aside0.mk H
                               clear H
                               go_wp2_with (first | ((with_reducible refine gate_callee (f := 15) rfl ?_); refine goesL_ (some 381) rfl rfl Tryz.func15 (by kernel_rfl) rfl #[.int .i64 t439] rfl (by (try simp only [List.map_toArray, List.map_cons, List.map_nil]); first | done | rfl | (simp only [List.length_drop, List.length_take]; rfl)) ?_; (with_reducible refine (impl_ShiftPoly.calls kj198 t439 t451 true _ A213.out).mono ?_); rintro e w223 ⟨rfl, hb⟩; refine ⟨_, rfl, ?_⟩; have n0_ := Aside0.mk (below_step (by repeat (first | (with_reducible first | exact HB.out | apply below_alloc | apply pw_below_drewN | apply below_drew1) | exact HB.out)) hb); clear HB; have HB := n0_; clear n0_; (try clear hb); (try clear hb2); (try clear hk); (try clear hi)) | ((with_reducible refine gate_callee (f := 23) rfl ?_); refine goesL_ (some 386) rfl rfl Tryz.func23 (by kernel_rfl) rfl #[.int .i64 t438] rfl (by (try simp only [List.map_toArray, List.map_cons, List.map_nil]); first | done | rfl | (simp only [List.length_drop, List.length_take]; rfl)) ?_; (with_reducible refine (impl_PolyText.calls kj198 t438 t453 true _ A214.out).mono ?_); rintro e w224 ⟨rfl, hb⟩; refine ⟨_, rfl, ?_⟩; have n0_ := Aside0.mk (below_step (by repeat (first | (with_reducible first | exact HB.out | apply below_alloc | apply pw_below_drewN | apply below_drew1) | exact HB.out)) hb); clear HB; have HB := n0_; clear n0_; (try clear hb); (try clear hb2); (try clear hk); (try clear hi)) | ((with_reducible refine gate_callee (f := 24) rfl ?_); refine goesL_ (some 391) rfl rfl Tryz.func24 (by kernel_rfl) rfl #[.string t453] rfl (by (try simp only [List.map_toArray, List.map_cons, List.map_nil]); first | done | rfl | (simp only [List.length_drop, List.length_take]; rfl)) ?_; (with_reducible refine (impl_ParsePoly.calls kj198 t453 t455 true _ (HL3.out.below (by repeat (first | (with_reducible first | exact HB.out | apply below_alloc | apply pw_below_drewN | apply below_drew1) | exact HB.out))) A215.out).mono ?_); rintro e w225 ⟨rfl, hb⟩; refine ⟨_, rfl, ?_⟩; have n0_ := Aside0.mk (below_step (by repeat (first | (with_reducible first | exact HB.out | apply below_alloc | apply pw_below_drewN | apply below_drew1) | exact HB.out)) hb); clear HB; have HB := n0_; clear n0_; (try clear hb); (try clear hb2); (try clear hk); (try clear hi)) | (go_at_call 9; (with_reducible refine (laws_vTop.calls kj198 t438 t457 _ A218.out).mono ?_); rintro e w' ⟨rfl, ⟨nd, rfl⟩⟩))
                               go_meet
                               case rel => exact ⟨_, H', ⟨by have := HJ7.out; have := HJ13.out; have := HJ28.out; have := HJ33.out; have := HJ35.out; have := HJ56.out; have := HJ61.out; have := HJ198.out; first | omega | exact Nat.le_refl _⟩, ⟨by repeat (first | (with_reducible first | exact HB.out | apply below_alloc | apply pw_below_drewN | apply below_drew1) | exact HB.out)⟩⟩
                             ·rw [if_neg c222] at H
                              have c222b0 : (t455 == t438) = false := beq_eq_false_iff_ne.mpr c222
                              have c222b1 : (t455 != t438) = true := bne_iff_ne.mpr c222
                              as_aux_lemma =>
                               obtain rfl := Option.some.inj H
                               go_wp2_with (first | ((with_reducible refine gate_callee (f := 15) rfl ?_); refine goesL_ (some 381) rfl rfl Tryz.func15 (by kernel_rfl) rfl #[.int .i64 t439] rfl (by (try simp only [List.map_toArray, List.map_cons, List.map_nil]); first | done | rfl | (simp only [List.length_drop, List.length_take]; rfl)) ?_; (with_reducible refine (impl_ShiftPoly.calls kj198 t439 t451 true _ A213.out).mono ?_); rintro e w226 ⟨rfl, hb⟩; refine ⟨_, rfl, ?_⟩; have n0_ := Aside0.mk (below_step (by repeat (first | (with_reducible first | exact HB.out | apply below_alloc | apply pw_below_drewN | apply below_drew1) | exact HB.out)) hb); clear HB; have HB := n0_; clear n0_; (try clear hb); (try clear hb2); (try clear hk); (try clear hi)) | ((with_reducible refine gate_callee (f := 23) rfl ?_); refine goesL_ (some 386) rfl rfl Tryz.func23 (by kernel_rfl) rfl #[.int .i64 t438] rfl (by (try simp only [List.map_toArray, List.map_cons, List.map_nil]); first | done | rfl | (simp only [List.length_drop, List.length_take]; rfl)) ?_; (with_reducible refine (impl_PolyText.calls kj198 t438 t453 true _ A214.out).mono ?_); rintro e w227 ⟨rfl, hb⟩; refine ⟨_, rfl, ?_⟩; have n0_ := Aside0.mk (below_step (by repeat (first | (with_reducible first | exact HB.out | apply below_alloc | apply pw_below_drewN | apply below_drew1) | exact HB.out)) hb); clear HB; have HB := n0_; clear n0_; (try clear hb); (try clear hb2); (try clear hk); (try clear hi)) | ((with_reducible refine gate_callee (f := 24) rfl ?_); refine goesL_ (some 391) rfl rfl Tryz.func24 (by kernel_rfl) rfl #[.string t453] rfl (by (try simp only [List.map_toArray, List.map_cons, List.map_nil]); first | done | rfl | (simp only [List.length_drop, List.length_take]; rfl)) ?_; (with_reducible refine (impl_ParsePoly.calls kj198 t453 t455 true _ (HL3.out.below (by repeat (first | (with_reducible first | exact HB.out | apply below_alloc | apply pw_below_drewN | apply below_drew1) | exact HB.out))) A215.out).mono ?_); rintro e w228 ⟨rfl, hb⟩; refine ⟨_, rfl, ?_⟩; have n0_ := Aside0.mk (below_step (by repeat (first | (with_reducible first | exact HB.out | apply below_alloc | apply pw_below_drewN | apply below_drew1) | exact HB.out)) hb); clear HB; have HB := n0_; clear n0_; (try clear hb); (try clear hb2); (try clear hk); (try clear hi)) | (go_at_call 9; (with_reducible refine (laws_vTop.calls kj198 t438 t457 _ A218.out).mono ?_); rintro e w' ⟨rfl, ⟨nd, rfl⟩⟩))
                               go_ret
                               exact ⟨by first | rfl | (simp [errW_none, errW_some] <;> rfl) | (simp [*, errW_none, errW_some] <;> rfl), by repeat (first | (with_reducible first | exact HB.out | apply below_alloc | apply pw_below_drewN | apply below_drew1) | exact HB.out)⟩
                            ·replace c221 := Bool.eq_false_iff.mpr c221
                             subst c221
                             have H1 : (some false) = some r := by rw [if_neg (show ¬ (false = true) by decide)] at H; exact H
                             clear H
                             have H := H1
                             clear H1
                             as_aux_lemma =>
                              obtain rfl := Option.some.inj H
                              go_wp2_with (first | ((with_reducible refine gate_callee (f := 15) rfl ?_); refine goesL_ (some 381) rfl rfl Tryz.func15 (by kernel_rfl) rfl #[.int .i64 t439] rfl (by (try simp only [List.map_toArray, List.map_cons, List.map_nil]); first | done | rfl | (simp only [List.length_drop, List.length_take]; rfl)) ?_; (with_reducible refine (impl_ShiftPoly.calls kj198 t439 t451 true _ A213.out).mono ?_); rintro e w229 ⟨rfl, hb⟩; refine ⟨_, rfl, ?_⟩; have n0_ := Aside0.mk (below_step (by repeat (first | (with_reducible first | exact HB.out | apply below_alloc | apply pw_below_drewN | apply below_drew1) | exact HB.out)) hb); clear HB; have HB := n0_; clear n0_; (try clear hb); (try clear hb2); (try clear hk); (try clear hi)) | ((with_reducible refine gate_callee (f := 23) rfl ?_); refine goesL_ (some 386) rfl rfl Tryz.func23 (by kernel_rfl) rfl #[.int .i64 t438] rfl (by (try simp only [List.map_toArray, List.map_cons, List.map_nil]); first | done | rfl | (simp only [List.length_drop, List.length_take]; rfl)) ?_; (with_reducible refine (impl_PolyText.calls kj198 t438 t453 true _ A214.out).mono ?_); rintro e w230 ⟨rfl, hb⟩; refine ⟨_, rfl, ?_⟩; have n0_ := Aside0.mk (below_step (by repeat (first | (with_reducible first | exact HB.out | apply below_alloc | apply pw_below_drewN | apply below_drew1) | exact HB.out)) hb); clear HB; have HB := n0_; clear n0_; (try clear hb); (try clear hb2); (try clear hk); (try clear hi)) | ((with_reducible refine gate_callee (f := 24) rfl ?_); refine goesL_ (some 391) rfl rfl Tryz.func24 (by kernel_rfl) rfl #[.string t453] rfl (by (try simp only [List.map_toArray, List.map_cons, List.map_nil]); first | done | rfl | (simp only [List.length_drop, List.length_take]; rfl)) ?_; (with_reducible refine (impl_ParsePoly.calls kj198 t453 t455 false _ (HL3.out.below (by repeat (first | (with_reducible first | exact HB.out | apply below_alloc | apply pw_below_drewN | apply below_drew1) | exact HB.out))) A215.out).mono ?_); rintro e w231 ⟨rfl, hb⟩; refine ⟨_, rfl, ?_⟩; have n0_ := Aside0.mk (below_step (by repeat (first | (with_reducible first | exact HB.out | apply below_alloc | apply pw_below_drewN | apply below_drew1) | exact HB.out)) hb); clear HB; have HB := n0_; clear n0_; (try clear hb); (try clear hb2); (try clear hk); (try clear hi)) | (go_at_call 9; (with_reducible refine (laws_vTop.calls kj198 t438 t457 _ A218.out).mono ?_); rintro e w' ⟨rfl, ⟨nd, rfl⟩⟩))
                              go_ret
                              exact ⟨by first | rfl | (simp [errW_none, errW_some] <;> rfl) | (simp [*, errW_none, errW_some] <;> rfl), by repeat (first | (with_reducible first | exact HB.out | apply below_alloc | apply pw_below_drewN | apply below_drew1) | exact HB.out)⟩
                           ·replace c220 := Bool.eq_false_iff.mpr c220
                            subst c220
                            have H1 : (some false) = some r := by rw [if_neg (show ¬ (false = true) by decide)] at H; exact H
                            clear H
                            have H := H1
                            clear H1
                            as_aux_lemma =>
                             obtain rfl := Option.some.inj H
                             go_wp2_with (first | ((with_reducible refine gate_callee (f := 15) rfl ?_); refine goesL_ (some 381) rfl rfl Tryz.func15 (by kernel_rfl) rfl #[.int .i64 t439] rfl (by (try simp only [List.map_toArray, List.map_cons, List.map_nil]); first | done | rfl | (simp only [List.length_drop, List.length_take]; rfl)) ?_; (with_reducible refine (impl_ShiftPoly.calls kj198 t439 t451 true _ A213.out).mono ?_); rintro e w232 ⟨rfl, hb⟩; refine ⟨_, rfl, ?_⟩; have n0_ := Aside0.mk (below_step (by repeat (first | (with_reducible first | exact HB.out | apply below_alloc | apply pw_below_drewN | apply below_drew1) | exact HB.out)) hb); clear HB; have HB := n0_; clear n0_; (try clear hb); (try clear hb2); (try clear hk); (try clear hi)) | ((with_reducible refine gate_callee (f := 23) rfl ?_); refine goesL_ (some 386) rfl rfl Tryz.func23 (by kernel_rfl) rfl #[.int .i64 t438] rfl (by (try simp only [List.map_toArray, List.map_cons, List.map_nil]); first | done | rfl | (simp only [List.length_drop, List.length_take]; rfl)) ?_; (with_reducible refine (impl_PolyText.calls kj198 t438 t453 false _ A214.out).mono ?_); rintro e w233 ⟨rfl, hb⟩; refine ⟨_, rfl, ?_⟩; have n0_ := Aside0.mk (below_step (by repeat (first | (with_reducible first | exact HB.out | apply below_alloc | apply pw_below_drewN | apply below_drew1) | exact HB.out)) hb); clear HB; have HB := n0_; clear n0_; (try clear hb); (try clear hb2); (try clear hk); (try clear hi)) | ((with_reducible refine gate_callee (f := 24) rfl ?_); refine goesL_ (some 391) rfl rfl Tryz.func24 (by kernel_rfl) rfl #[.string t453] rfl (by (try simp only [List.map_toArray, List.map_cons, List.map_nil]); first | done | rfl | (simp only [List.length_drop, List.length_take]; rfl)) ?_; (with_reducible refine (impl_ParsePoly.calls kj198 t453 t455 t456 _ (HL3.out.below (by repeat (first | (with_reducible first | exact HB.out | apply below_alloc | apply pw_below_drewN | apply below_drew1) | exact HB.out))) A215.out).mono ?_); rintro e w234 ⟨rfl, hb⟩; refine ⟨_, rfl, ?_⟩; have n0_ := Aside0.mk (below_step (by repeat (first | (with_reducible first | exact HB.out | apply below_alloc | apply pw_below_drewN | apply below_drew1) | exact HB.out)) hb); clear HB; have HB := n0_; clear n0_; (try clear hb); (try clear hb2); (try clear hk); (try clear hi)) | (go_at_call 9; (with_reducible refine (laws_vTop.calls kj198 t438 t457 _ A218.out).mono ?_); rintro e w' ⟨rfl, ⟨nd, rfl⟩⟩))
                             go_ret
                             exact ⟨by first | rfl | (simp [errW_none, errW_some] <;> rfl) | (simp [*, errW_none, errW_some] <;> rfl), by repeat (first | (with_reducible first | exact HB.out | apply below_alloc | apply pw_below_drewN | apply below_drew1) | exact HB.out)⟩
                          ·rw [if_neg c219] at H
                           have c219b0 : (t447 == t457) = false := beq_eq_false_iff_ne.mpr c219
                           have c219b1 : (t447 != t457) = true := bne_iff_ne.mpr c219
                           as_aux_lemma =>
                            obtain rfl := Option.some.inj H
                            go_wp2_with (first | ((with_reducible refine gate_callee (f := 15) rfl ?_); refine goesL_ (some 381) rfl rfl Tryz.func15 (by kernel_rfl) rfl #[.int .i64 t439] rfl (by (try simp only [List.map_toArray, List.map_cons, List.map_nil]); first | done | rfl | (simp only [List.length_drop, List.length_take]; rfl)) ?_; (with_reducible refine (impl_ShiftPoly.calls kj198 t439 t451 true _ A213.out).mono ?_); rintro e w235 ⟨rfl, hb⟩; refine ⟨_, rfl, ?_⟩; have n0_ := Aside0.mk (below_step (by repeat (first | (with_reducible first | exact HB.out | apply below_alloc | apply pw_below_drewN | apply below_drew1) | exact HB.out)) hb); clear HB; have HB := n0_; clear n0_; (try clear hb); (try clear hb2); (try clear hk); (try clear hi)) | ((with_reducible refine gate_callee (f := 23) rfl ?_); refine goesL_ (some 386) rfl rfl Tryz.func23 (by kernel_rfl) rfl #[.int .i64 t438] rfl (by (try simp only [List.map_toArray, List.map_cons, List.map_nil]); first | done | rfl | (simp only [List.length_drop, List.length_take]; rfl)) ?_; (with_reducible refine (impl_PolyText.calls kj198 t438 t453 t454 _ A214.out).mono ?_); rintro e w236 ⟨rfl, hb⟩; refine ⟨_, rfl, ?_⟩; have n0_ := Aside0.mk (below_step (by repeat (first | (with_reducible first | exact HB.out | apply below_alloc | apply pw_below_drewN | apply below_drew1) | exact HB.out)) hb); clear HB; have HB := n0_; clear n0_; (try clear hb); (try clear hb2); (try clear hk); (try clear hi)) | ((with_reducible refine gate_callee (f := 24) rfl ?_); refine goesL_ (some 391) rfl rfl Tryz.func24 (by kernel_rfl) rfl #[.string t453] rfl (by (try simp only [List.map_toArray, List.map_cons, List.map_nil]); first | done | rfl | (simp only [List.length_drop, List.length_take]; rfl)) ?_; (with_reducible refine (impl_ParsePoly.calls kj198 t453 t455 t456 _ (HL3.out.below (by repeat (first | (with_reducible first | exact HB.out | apply below_alloc | apply pw_below_drewN | apply below_drew1) | exact HB.out))) A215.out).mono ?_); rintro e w237 ⟨rfl, hb⟩; refine ⟨_, rfl, ?_⟩; have n0_ := Aside0.mk (below_step (by repeat (first | (with_reducible first | exact HB.out | apply below_alloc | apply pw_below_drewN | apply below_drew1) | exact HB.out)) hb); clear HB; have HB := n0_; clear n0_; (try clear hb); (try clear hb2); (try clear hk); (try clear hi)) | (go_at_call 9; (with_reducible refine (laws_vTop.calls kj198 t438 t457 _ A218.out).mono ?_); rintro e w' ⟨rfl, ⟨nd, rfl⟩⟩))
                            go_ret
                            exact ⟨by first | rfl | (simp [errW_none, errW_some] <;> rfl) | (simp [*, errW_none, errW_some] <;> rfl), by repeat (first | (with_reducible first | exact HB.out | apply below_alloc | apply pw_below_drewN | apply below_drew1) | exact HB.out)⟩
                         ·rw [if_neg c217] at H
                          have c217b0 : (t451 == t438) = false := beq_eq_false_iff_ne.mpr c217
                          have c217b1 : (t451 != t438) = true := bne_iff_ne.mpr c217
                          (first | rw [c217b0] | (simp only [i64_w, i32_w]; rw [c217b0]) | skip)
                          as_aux_lemma =>
                           obtain rfl := Option.some.inj H
                           go_wp2_with (first | ((with_reducible refine gate_callee (f := 15) rfl ?_); refine goesL_ (some 381) rfl rfl Tryz.func15 (by kernel_rfl) rfl #[.int .i64 t439] rfl (by (try simp only [List.map_toArray, List.map_cons, List.map_nil]); first | done | rfl | (simp only [List.length_drop, List.length_take]; rfl)) ?_; (with_reducible refine (impl_ShiftPoly.calls kj198 t439 t451 true _ A213.out).mono ?_); rintro e w238 ⟨rfl, hb⟩; refine ⟨_, rfl, ?_⟩; have n0_ := Aside0.mk (below_step (by repeat (first | (with_reducible first | exact HB.out | apply below_alloc | apply pw_below_drewN | apply below_drew1) | exact HB.out)) hb); clear HB; have HB := n0_; clear n0_; (try clear hb); (try clear hb2); (try clear hk); (try clear hi)) | ((with_reducible refine gate_callee (f := 23) rfl ?_); refine goesL_ (some 386) rfl rfl Tryz.func23 (by kernel_rfl) rfl #[.int .i64 t438] rfl (by (try simp only [List.map_toArray, List.map_cons, List.map_nil]); first | done | rfl | (simp only [List.length_drop, List.length_take]; rfl)) ?_; (with_reducible refine (impl_PolyText.calls kj198 t438 t453 t454 _ A214.out).mono ?_); rintro e w239 ⟨rfl, hb⟩; refine ⟨_, rfl, ?_⟩; have n0_ := Aside0.mk (below_step (by repeat (first | (with_reducible first | exact HB.out | apply below_alloc | apply pw_below_drewN | apply below_drew1) | exact HB.out)) hb); clear HB; have HB := n0_; clear n0_; (try clear hb); (try clear hb2); (try clear hk); (try clear hi)) | ((with_reducible refine gate_callee (f := 24) rfl ?_); refine goesL_ (some 391) rfl rfl Tryz.func24 (by kernel_rfl) rfl #[.string t453] rfl (by (try simp only [List.map_toArray, List.map_cons, List.map_nil]); first | done | rfl | (simp only [List.length_drop, List.length_take]; rfl)) ?_; (with_reducible refine (impl_ParsePoly.calls kj198 t453 t455 t456 _ (HL3.out.below (by repeat (first | (with_reducible first | exact HB.out | apply below_alloc | apply pw_below_drewN | apply below_drew1) | exact HB.out))) A215.out).mono ?_); rintro e w240 ⟨rfl, hb⟩; refine ⟨_, rfl, ?_⟩; have n0_ := Aside0.mk (below_step (by repeat (first | (with_reducible first | exact HB.out | apply below_alloc | apply pw_below_drewN | apply below_drew1) | exact HB.out)) hb); clear HB; have HB := n0_; clear n0_; (try clear hb); (try clear hb2); (try clear hk); (try clear hi)))
                           go_ret
                           exact ⟨by first | rfl | (simp [errW_none, errW_some] <;> rfl) | (simp [*, errW_none, errW_some] <;> rfl), by repeat (first | (with_reducible first | exact HB.out | apply below_alloc | apply pw_below_drewN | apply below_drew1) | exact HB.out)⟩
                        ·replace c216 := Bool.eq_false_iff.mpr c216
                         subst c216
                         have H1 : (some false) = some r := by rw [if_neg (show ¬ (false = true) by decide)] at H; exact H
                         clear H
                         have H := H1
                         clear H1
                         as_aux_lemma =>
                          obtain rfl := Option.some.inj H
                          go_wp2_with (first | ((with_reducible refine gate_callee (f := 15) rfl ?_); refine goesL_ (some 381) rfl rfl Tryz.func15 (by kernel_rfl) rfl #[.int .i64 t439] rfl (by (try simp only [List.map_toArray, List.map_cons, List.map_nil]); first | done | rfl | (simp only [List.length_drop, List.length_take]; rfl)) ?_; (with_reducible refine (impl_ShiftPoly.calls kj198 t439 t451 false _ A213.out).mono ?_); rintro e w241 ⟨rfl, hb⟩; refine ⟨_, rfl, ?_⟩; have n0_ := Aside0.mk (below_step (by repeat (first | (with_reducible first | exact HB.out | apply below_alloc | apply pw_below_drewN | apply below_drew1) | exact HB.out)) hb); clear HB; have HB := n0_; clear n0_; (try clear hb); (try clear hb2); (try clear hk); (try clear hi)) | ((with_reducible refine gate_callee (f := 23) rfl ?_); refine goesL_ (some 386) rfl rfl Tryz.func23 (by kernel_rfl) rfl #[.int .i64 t438] rfl (by (try simp only [List.map_toArray, List.map_cons, List.map_nil]); first | done | rfl | (simp only [List.length_drop, List.length_take]; rfl)) ?_; (with_reducible refine (impl_PolyText.calls kj198 t438 t453 t454 _ A214.out).mono ?_); rintro e w242 ⟨rfl, hb⟩; refine ⟨_, rfl, ?_⟩; have n0_ := Aside0.mk (below_step (by repeat (first | (with_reducible first | exact HB.out | apply below_alloc | apply pw_below_drewN | apply below_drew1) | exact HB.out)) hb); clear HB; have HB := n0_; clear n0_; (try clear hb); (try clear hb2); (try clear hk); (try clear hi)) | ((with_reducible refine gate_callee (f := 24) rfl ?_); refine goesL_ (some 391) rfl rfl Tryz.func24 (by kernel_rfl) rfl #[.string t453] rfl (by (try simp only [List.map_toArray, List.map_cons, List.map_nil]); first | done | rfl | (simp only [List.length_drop, List.length_take]; rfl)) ?_; (with_reducible refine (impl_ParsePoly.calls kj198 t453 t455 t456 _ (HL3.out.below (by repeat (first | (with_reducible first | exact HB.out | apply below_alloc | apply pw_below_drewN | apply below_drew1) | exact HB.out))) A215.out).mono ?_); rintro e w243 ⟨rfl, hb⟩; refine ⟨_, rfl, ?_⟩; have n0_ := Aside0.mk (below_step (by repeat (first | (with_reducible first | exact HB.out | apply below_alloc | apply pw_below_drewN | apply below_drew1) | exact HB.out)) hb); clear HB; have HB := n0_; clear n0_; (try clear hb); (try clear hb2); (try clear hk); (try clear hi)))
                          go_ret
                          exact ⟨by first | rfl | (simp [errW_none, errW_some] <;> rfl) | (simp [*, errW_none, errW_some] <;> rfl), by repeat (first | (with_reducible first | exact HB.out | apply below_alloc | apply pw_below_drewN | apply below_drew1) | exact HB.out)⟩
                       ·replace c212 := Bool.eq_false_iff.mpr c212
                        subst c212
                        have H1 : (laws_FnPolynomialsDivide.j8 kj198 l0) = some r := by rw [if_neg (show ¬ (false = true) by decide)] at H; exact H
                        clear H
                        have H := H1
                        clear H1
                        as_aux_lemma =>
                         have H' := Aside0.mk H
                         clear H
                         go_wp2
                         go_meet
                         case rel => exact ⟨_, H', ⟨by have := HJ7.out; have := HJ13.out; have := HJ28.out; have := HJ33.out; have := HJ35.out; have := HJ56.out; have := HJ61.out; have := HJ198.out; first | omega | exact Nat.le_refl _⟩, ⟨by repeat (first | (with_reducible first | exact HB.out | apply below_alloc | apply pw_below_drewN | apply below_drew1) | exact HB.out)⟩⟩
                      case rest =>
                       clear HC211;(try clear c1);(try clear c2);(try clear p2);(try clear c3);(try clear c4);(try clear c5);(try clear c6);(try clear c7);(try clear c8);(try clear c10);(try clear c11);(try clear c11b0);(try clear c11b1);(try clear c11b2);(try clear c12);(try clear c12b0);(try clear c12b1);(try clear c13);(try clear c14);(try clear c15);(try clear c16);(try clear c17);(try clear c18);(try clear c18b0);(try clear c18b1);(try clear c19);(try clear c20);(try clear c21);(try clear c21b0);(try clear c22);(try clear c23);(try clear c24);(try clear c32);(try clear c32b0);(try clear c32b1);(try clear c32b2);(try clear c33);(try clear c35);(try clear c37);(try clear c40);(try clear c41);(try clear c42);(try clear c42b0);(try clear c42b1);(try clear c43);(try clear c43b0);(try clear c43b1);(try clear c60);(try clear c60b0);(try clear c60b1);(try clear c60b2);(try clear c61);(try clear c63);(try clear c73);(try clear c74);(try clear c75);(try clear c76);(try clear c77);(try clear c78);(try clear c79);(try clear c80);(try clear c81);(try clear c82);(try clear c82b0);(try clear c82b1);(try clear c83);(try clear c83b0);(try clear c83b1);(try clear c204);(try clear c204b0);(try clear c204b1);(try clear c204b2);(try clear c205);(try clear c205b0);(try clear c205b1);(try clear c206);(try clear c206b0);(try clear c206b1);(try clear c206b2);(try clear c207);(try clear c207b0);(try clear c207b1);(try clear c208);(try clear c208b0);(try clear c208b1);(try clear c208b2);(try clear c209);(try clear c209b0);(try clear c209b1);(try clear c210);(try clear c212);(try clear c216);(try clear c217);(try clear c217b0);(try clear c217b1);(try clear c219);(try clear c219b0);(try clear c219b1);(try clear c220);(try clear c221);(try clear c222);(try clear c222b0);(try clear c222b1);(try clear p2)
                       obtain ⟨kq, HA, HJ210, HB⟩ := hcut
                       cases kq with
                       | zero => exact absurd HA.out (by simp [laws_FnPolynomialsDivide.j8])
                       | succ kj210 =>
                        have H := HA.out
                        clear HA
                        simp only [laws_FnPolynomialsDivide.j8] at H
                        replace H := Option.bind_eq_some_iff.mp H
                        obtain ⟨t458, A2440, H⟩ := H
                        replace H : ((impl_ParsePoly.f kj210 t458).bind fun bt459 => ((spec_ParsePoly.f kj210 t458).bind fun bt461 => (if (bt459.2 != bt461.2) = true then (laws_FnPolynomialsDivide.j9 kj210 t458 bt459.1 bt459.2 true) else (laws_FnPolynomialsDivide.j9 kj210 t458 bt459.1 bt459.2 (bt459.1 != bt461.1))))) = some r := H
                        have A244 := Aside0.mk A2440
                        clear A2440
                        replace H := Option.bind_eq_some_iff.mp H
                        obtain ⟨⟨t459, t460⟩, A2450, H⟩ := H
                        replace H : ((spec_ParsePoly.f kj210 t458).bind fun bt461 => (if (t460 != bt461.2) = true then (laws_FnPolynomialsDivide.j9 kj210 t458 t459 t460 true) else (laws_FnPolynomialsDivide.j9 kj210 t458 t459 t460 (t459 != bt461.1)))) = some r := H
                        have A245 := Aside0.mk A2450
                        clear A2450
                        replace H := Option.bind_eq_some_iff.mp H
                        obtain ⟨⟨t461, t462⟩, A2460, H⟩ := H
                        replace H : (if (t460 != t462) = true then (laws_FnPolynomialsDivide.j9 kj210 t458 t459 t460 true) else (laws_FnPolynomialsDivide.j9 kj210 t458 t459 t460 (t459 != t461))) = some r := H
                        have A246 := Aside0.mk A2460
                        clear A2460
                        have HC247 := Aside0.mk H
                        clear H
                        go_upto_region 57 with (first | ((with_reducible refine gate_callee (f := 25) rfl ?_); refine goesL_ (some 421) rfl rfl Tryz.func25 (by kernel_rfl) rfl #[.slice A0 l0.length c0] rfl (by (try simp only [List.map_toArray, List.map_cons, List.map_nil]); first | done | rfl | (simp only [List.length_drop, List.length_take]; rfl)) ?_; (with_reducible refine (spec_DrawParsePoly.calls kj210 _ _ l0 t458 _ ?side1 ?side2 A244.out).mono ?_); (case side1 => repeat (first | exact (Kd.C_below HR0.out HB.out) | (with_reducible refine Kd.C_alloc ?_ _) | (with_reducible refine Kd.C_drewN ?_ _) | (with_reducible refine Kd.C_drew ?_))); (case side2 => exact HC0.out); rintro e w248 ⟨rfl, hb⟩; refine ⟨_, rfl, ?_⟩; have n0_ := Aside0.mk (below_step (by repeat (first | (with_reducible first | exact HB.out | apply below_alloc | apply pw_below_drewN | apply below_drew1) | exact HB.out)) hb); clear HB; have HB := n0_; clear n0_; (try clear hb); (try clear hb2); (try clear hk); (try clear hi)) | ((with_reducible refine gate_callee (f := 24) rfl ?_); refine goesL_ (some 424) rfl rfl Tryz.func24 (by kernel_rfl) rfl #[.string t458] rfl (by (try simp only [List.map_toArray, List.map_cons, List.map_nil]); first | done | rfl | (simp only [List.length_drop, List.length_take]; rfl)) ?_; (with_reducible refine (impl_ParsePoly.calls kj210 t458 t459 t460 _ (HL3.out.below (by repeat (first | (with_reducible first | exact HB.out | apply below_alloc | apply pw_below_drewN | apply below_drew1) | exact HB.out))) A245.out).mono ?_); rintro e w249 ⟨rfl, hb⟩; refine ⟨_, rfl, ?_⟩; have n0_ := Aside0.mk (below_step (by repeat (first | (with_reducible first | exact HB.out | apply below_alloc | apply pw_below_drewN | apply below_drew1) | exact HB.out)) hb); clear HB; have HB := n0_; clear n0_; (try clear hb); (try clear hb2); (try clear hk); (try clear hi)) | ((with_reducible refine gate_callee (f := 26) rfl ?_); refine goesL_ (some 429) rfl rfl Tryz.func26 (by kernel_rfl) rfl #[.string t458] rfl (by (try simp only [List.map_toArray, List.map_cons, List.map_nil]); first | done | rfl | (simp only [List.length_drop, List.length_take]; rfl)) ?_; (with_reducible refine (spec_ParsePoly.calls kj210 t458 t461 t462 _ A246.out).mono ?_); rintro e w250 ⟨rfl, hb⟩; refine ⟨_, rfl, ?_⟩; have n0_ := Aside0.mk (below_step (by repeat (first | (with_reducible first | exact HB.out | apply below_alloc | apply pw_below_drewN | apply below_drew1) | exact HB.out)) hb); clear HB; have HB := n0_; clear n0_; (try clear hb); (try clear hb2); (try clear hk); (try clear hi)))
                        (try simp only [Act.put, List.setIfInBounds_toArray, List.set_cons_zero, List.set_cons_succ])
                        go_cut [439] from 420 to 439 (fun v439 wc => ∃ (kq : Nat) (x439_246 : Bool), v439 = .bool x439_246 ∧ Aside0 (laws_FnPolynomialsDivide.j9 kq t458 t459 t460 x439_246 = some r) ∧ Aside0 (kq ≤ kj210) ∧ Aside0 (Below w.heap.size w wc))
                        case first =>
                         have H := HC247.out
                         clear HC247
                         by_cases c251 : (t460 != t462) = true
                         ·rw [if_pos c251] at H
                          have c251b0 : (t460 != t462) = true := c251
                          (try (have c251b1 : decide (t460 = t462) = false := by simpa using c251))
                          (try (have c251b2 : (t460 == t462) = false := by simpa using c251))
                          (try (have c251b3 : ¬ (t460 = t462) := by simpa using c251))
                          clear c251
                          (first | rw [c251b0] | (simp only [i64_w, i32_w]; rw [c251b0]) | skip)
                          as_aux_lemma =>
                           have H' := Aside0.mk H
                           clear H
                           go_wp2
                           go_meet
                           case rel => exact ⟨_, (true), (by first | rfl | (simp; done) | (simp [*]; done)), H', ⟨by have := HJ7.out; have := HJ13.out; have := HJ28.out; have := HJ33.out; have := HJ35.out; have := HJ56.out; have := HJ61.out; have := HJ198.out; have := HJ210.out; first | omega | exact Nat.le_refl _⟩, ⟨by repeat (first | (with_reducible first | exact HB.out | apply below_alloc | apply pw_below_drewN | apply below_drew1) | exact HB.out)⟩⟩
                         ·rw [if_neg c251] at H
                          have c251b0 : (t460 != t462) = false := by simpa using c251
                          (try (have c251b1 : decide (t460 = t462) = true := by simpa using c251))
                          (try (have c251b2 : (t460 == t462) = true := by simpa using c251))
                          clear c251
                          (first | rw [c251b0] | (simp only [i64_w, i32_w]; rw [c251b0]) | skip)
                          as_aux_lemma =>
                           have H' := Aside0.mk H
                           clear H
                           go_wp2
                           go_meet
                           case rel => exact ⟨_, ((t459 != t461)), (by first | rfl | (simp; done) | (simp [*]; done)), H', ⟨by have := HJ7.out; have := HJ13.out; have := HJ28.out; have := HJ33.out; have := HJ35.out; have := HJ56.out; have := HJ61.out; have := HJ198.out; have := HJ210.out; first | omega | exact Nat.le_refl _⟩, ⟨by repeat (first | (with_reducible first | exact HB.out | apply below_alloc | apply pw_below_drewN | apply below_drew1) | exact HB.out)⟩⟩
                        case rest =>
                         clear HC247;(try clear c1);(try clear c2);(try clear p2);(try clear c3);(try clear c4);(try clear c5);(try clear c6);(try clear c7);(try clear c8);(try clear c10);(try clear c11);(try clear c11b0);(try clear c11b1);(try clear c11b2);(try clear c12);(try clear c12b0);(try clear c12b1);(try clear c13);(try clear c14);(try clear c15);(try clear c16);(try clear c17);(try clear c18);(try clear c18b0);(try clear c18b1);(try clear c19);(try clear c20);(try clear c21);(try clear c21b0);(try clear c22);(try clear c23);(try clear c24);(try clear c25);(try clear c26);(try clear c32);(try clear c32b0);(try clear c32b1);(try clear c32b2);(try clear c33);(try clear c35);(try clear c37);(try clear c40);(try clear c41);(try clear c42);(try clear c42b0);(try clear c42b1);(try clear c43);(try clear c43b0);(try clear c43b1);(try clear c60);(try clear c60b0);(try clear c60b1);(try clear c60b2);(try clear c61);(try clear c63);(try clear c73);(try clear c74);(try clear c75);(try clear c76);(try clear c77);(try clear c78);(try clear c79);(try clear c80);(try clear c81);(try clear c82);(try clear c82b0);(try clear c82b1);(try clear c83);(try clear c83b0);(try clear c83b1);(try clear c204);(try clear c204b0);(try clear c204b1);(try clear c204b2);(try clear c205);(try clear c205b0);(try clear c205b1);(try clear c206);(try clear c206b0);(try clear c206b1);(try clear c206b2);(try clear c207);(try clear c207b0);(try clear c207b1);(try clear c208);(try clear c208b0);(try clear c208b1);(try clear c208b2);(try clear c209);(try clear c209b0);(try clear c209b1);(try clear c210);(try clear c212);(try clear c216);(try clear c217);(try clear c217b0);(try clear c217b1);(try clear c219);(try clear c219b0);(try clear c219b1);(try clear c220);(try clear c221);(try clear c222);(try clear c222b0);(try clear c222b1);(try clear c251);(try clear c251b0);(try clear c251b1);(try clear c251b2);(try clear p2)
                         obtain ⟨kq, x439_246, rfl, HA, HJ246, HB⟩ := hcut
                         cases kq with
                         | zero => exact absurd HA.out (by simp [laws_FnPolynomialsDivide.j9])
                         | succ kj246 =>
                          have H := HA.out
                          clear HA
                          simp only [laws_FnPolynomialsDivide.j9] at H
                          by_cases c252 : x439_246 = true
                          ·subst c252
                           have H1 : (some false) = some r := by rw [if_pos rfl] at H; exact H
                           clear H
                           have H := H1
                           clear H1
                           as_aux_lemma =>
                            obtain rfl := Option.some.inj H
                            go_wp2
                            go_ret
                            exact ⟨by first | rfl | (simp [errW_none, errW_some] <;> rfl) | (simp [*, errW_none, errW_some] <;> rfl), by repeat (first | (with_reducible first | exact HB.out | apply below_alloc | apply pw_below_drewN | apply below_drew1) | exact HB.out)⟩
                          ·replace c252 := Bool.eq_false_iff.mpr c252
                           subst c252
                           have H1 : (if t460 = true then ((impl_PolyText.f kj246 t459).bind fun bt463 => (if bt463.2 = true then (some (bt463.1.toList == t458.toList)) else (some false))) else (some true)) = some r := by rw [if_neg (show ¬ (false = true) by decide)] at H; exact H
                           clear H
                           have H := H1
                           clear H1
                           by_cases c253 : t460 = true
                           ·subst c253
                            have H1 : ((impl_PolyText.f kj246 t459).bind fun bt463 => (if bt463.2 = true then (some (bt463.1.toList == t458.toList)) else (some false))) = some r := by rw [if_pos rfl] at H; exact H
                            clear H
                            have H := H1
                            clear H1
                            replace H := Option.bind_eq_some_iff.mp H
                            obtain ⟨⟨t463, t464⟩, A2540, H⟩ := H
                            replace H : (if t464 = true then (some (t463.toList == t458.toList)) else (some false)) = some r := H
                            have A254 := Aside0.mk A2540
                            clear A2540
                            by_cases c255 : t464 = true
                            ·subst c255
                             have H1 : (some (t463.toList == t458.toList)) = some r := by rw [if_pos rfl] at H; exact H
                             clear H
                             have H := H1
                             clear H1
                             as_aux_lemma =>
                              obtain rfl := Option.some.inj H
                              go_wp2_with (first | ((with_reducible refine gate_callee (f := 23) rfl ?_); refine goesL_ (some 444) rfl rfl Tryz.func23 (by kernel_rfl) rfl #[.int .i64 t459] rfl (by (try simp only [List.map_toArray, List.map_cons, List.map_nil]); first | done | rfl | (simp only [List.length_drop, List.length_take]; rfl)) ?_; (with_reducible refine (impl_PolyText.calls kj246 t459 t463 true _ A254.out).mono ?_); rintro e w256 ⟨rfl, hb⟩; refine ⟨_, rfl, ?_⟩; have n0_ := Aside0.mk (below_step (by repeat (first | (with_reducible first | exact HB.out | apply below_alloc | apply pw_below_drewN | apply below_drew1) | exact HB.out)) hb); clear HB; have HB := n0_; clear n0_; (try clear hb); (try clear hb2); (try clear hk); (try clear hi)))
                              go_ret
                              exact ⟨by first | rfl | (simp [errW_none, errW_some] <;> rfl) | (simp [*, errW_none, errW_some] <;> rfl), by repeat (first | (with_reducible first | exact HB.out | apply below_alloc | apply pw_below_drewN | apply below_drew1) | exact HB.out)⟩
                            ·replace c255 := Bool.eq_false_iff.mpr c255
                             subst c255
                             have H1 : (some false) = some r := by rw [if_neg (show ¬ (false = true) by decide)] at H; exact H
                             clear H
                             have H := H1
                             clear H1
                             as_aux_lemma =>
                              obtain rfl := Option.some.inj H
                              go_wp2_with (first | ((with_reducible refine gate_callee (f := 23) rfl ?_); refine goesL_ (some 444) rfl rfl Tryz.func23 (by kernel_rfl) rfl #[.int .i64 t459] rfl (by (try simp only [List.map_toArray, List.map_cons, List.map_nil]); first | done | rfl | (simp only [List.length_drop, List.length_take]; rfl)) ?_; (with_reducible refine (impl_PolyText.calls kj246 t459 t463 false _ A254.out).mono ?_); rintro e w257 ⟨rfl, hb⟩; refine ⟨_, rfl, ?_⟩; have n0_ := Aside0.mk (below_step (by repeat (first | (with_reducible first | exact HB.out | apply below_alloc | apply pw_below_drewN | apply below_drew1) | exact HB.out)) hb); clear HB; have HB := n0_; clear n0_; (try clear hb); (try clear hb2); (try clear hk); (try clear hi)))
                              go_ret
                              exact ⟨by first | rfl | (simp [errW_none, errW_some] <;> rfl) | (simp [*, errW_none, errW_some] <;> rfl), by repeat (first | (with_reducible first | exact HB.out | apply below_alloc | apply pw_below_drewN | apply below_drew1) | exact HB.out)⟩
                           ·replace c253 := Bool.eq_false_iff.mpr c253
                            subst c253
                            have H1 : (some true) = some r := by rw [if_neg (show ¬ (false = true) by decide)] at H; exact H
                            clear H
                            have H := H1
                            clear H1
                            as_aux_lemma =>
                             obtain rfl := Option.some.inj H
                             go_wp2
                             go_ret
                             exact ⟨by first | rfl | (simp [errW_none, errW_some] <;> rfl) | (simp [*, errW_none, errW_some] <;> rfl), by repeat (first | (with_reducible first | exact HB.out | apply below_alloc | apply pw_below_drewN | apply below_drew1) | exact HB.out)⟩

/-- THE ONE PURE STATEMENT of laws_FnPolynomialsDivide: yours. -/
def laws_FnPolynomialsDivide.Pure : Prop := ∀ (l0 : List Int) (l1 : List Int), l0.length ≤ maxLen → l0.length * 1 ≤ 140737488351232 → (∀ x ∈ l0, (Lit.int .u8 x).wf = true) → l1.length ≤ maxLen → l1.length * 1 ≤ 140737488351232 → (∀ x ∈ l1, (Lit.int .u8 x).wf = true) → ∃ k, laws_FnPolynomialsDivide.f k l0 l1 = some true
theorem laws_FnPolynomialsDivide.walk (P : laws_FnPolynomialsDivide.Pure) (a0 : Option Addr) (len0 cap0 : Nat) (z0 : List Int) (a1 : Option Addr) (len1 cap1 : Nat) (z1 : List Int) (w : World) (hL3 : Lib3 w) (w0 : (a0 = none ∧ len0 = 0 ∧ cap0 = 0 ∧ z0 = []) ∨ ∃ x, a0 = some x ∧ len0 ≤ cap0 ∧ cap0 ≤ maxLen ∧ z0.length = cap0 ∧ (∀ i, i < z0.length → w.cell? (x.add i) = some (.int .u8 (z0.getD i 0))) ∧ ∀ n ∈ z0, (Lit.int .u8 n).wf = true) (y0 : len0 * 1 ≤ 140737488351232) (w1 : (a1 = none ∧ len1 = 0 ∧ cap1 = 0 ∧ z1 = []) ∨ ∃ x, a1 = some x ∧ len1 ≤ cap1 ∧ cap1 ≤ maxLen ∧ z1.length = cap1 ∧ (∀ i, i < z1.length → w.cell? (x.add i) = some (.int .u8 (z1.getD i 0))) ∧ ∀ n ∈ z1, (Lit.int .u8 n).wf = true) (y1 : len1 * 1 ≤ 140737488351232) :
  Calls Tryz.prog 3 #[.slice a0 len0 cap0, .slice a1 len1 cap1] w fun e w' => e = .returned (.bool true) ∧ Below w.heap.size w w' := by
 obtain ⟨l0, rfl, hr0, hm0, hw0, hc0⟩ := ReadsInt.ofRowC w0
 obtain ⟨l1, rfl, hr1, hm1, hw1, hc1⟩ := ReadsInt.ofRowC w1
 obtain ⟨k, h⟩ := P l0 l1 hm0 y0 hw0 hm1 y1 hw1
 refine (laws_FnPolynomialsDivide.calls k _ _ l0 _ _ l1 true w hL3 (Kd.C_of_reads (d := (0 : Int)) (h1 := fun _ => rfl) hr0) hc0 (Kd.C_of_reads (d := (0 : Int)) (h1 := fun _ => rfl) hr1) hc1 h).mono ?_
 rintro e w' ⟨rfl, hd⟩
 exact ⟨rfl, hd⟩

end Go.Proofs.YtigkmdlbijdoaaaGreatDoor.P
