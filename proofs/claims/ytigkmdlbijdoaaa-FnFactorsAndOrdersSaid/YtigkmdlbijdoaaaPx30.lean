-- Written by a program of this session (wip/mp.py), which runs the kit's print with contracts of the session's own.
import Derived.Test.YtigkmdlbijdoaaaPx0
import Derived.Test.YtigkmdlbijdoaaaPx10
import Derived.Test.YtigkmdlbijdoaaaPx15
import Derived.Test.YtigkmdlbijdoaaaPx23
import Derived.Test.YtigkmdlbijdoaaaPx27
import Derived.Test.YtigkmdlbijdoaaaPx29
namespace Go.Proofs.Ytigkmdlbijdoaaa.P
open Go.RowKit Go.Proofs.YtigkmdlbijdoaaaW.PrintWords Go.Proofs.YtigkmdlbijdoaaaW.PrintLast Go.Proofs.YtigkmdlbijdoaaaW.PrintMore
attribute [local go_sem] max2_int min2_int max_two min_two max_three min_three max_four min_four   -- for this text's walks alone
set_option linter.unusedVariables false
set_option linter.unusedSimpArgs false

/-! ### laws_FnFactorsAndOrders: function 8 -/
mutual
def laws_FnFactorsAndOrders.j0 : Nat → List Int → Int → List Int → Bool → Bool → Option (Bool)
 | 0, _, _, _, _, _ => none
 | k + 1, x1, x5, x6, x7, x66 => if x66 = true then (some false) else (if x7 = true then (laws_FnFactorsAndOrders.l0 k x1 x5 x6 1 x6 (x6.length : Int) 0) else (laws_FnFactorsAndOrders.j2 k x1))
def laws_FnFactorsAndOrders.j2 : Nat → List Int → Option (Bool)
 | 0, _ => none
 | k + 1, x1 => (spec_DrawOrderOfPoly.f k x1).bind fun t639 => ((impl_OrderOfPoly.f k t639).bind fun bt640 => ((spec_OrderOfPoly.f k t639).bind fun bt642 => (if (bt640.2 != bt642.2) = true then (laws_FnFactorsAndOrders.j3 k x1 t639 bt640.1 bt640.2 true) else (laws_FnFactorsAndOrders.j3 k x1 t639 bt640.1 bt640.2 (bt640.1 != bt642.1)))))
def laws_FnFactorsAndOrders.j3 : Nat → List Int → Int → Int → Bool → Bool → Option (Bool)
 | 0, _, _, _, _, _ => none
 | k + 1, x1, x19, x20, x21, x149 => if x149 = true then (some false) else (if x21 = true then ((impl_PowerModulo.f k 1 1 x19).bind fun bt644 => ((impl_PowerModulo.f k 2 x20 x19).bind fun bt646 => (if bt644.2 = true then (if bt646.2 = true then (laws_FnFactorsAndOrders.j4 k x1 x19 x20 bt644.1 (bt646.1 != bt644.1)) else (laws_FnFactorsAndOrders.j4 k x1 x19 x20 bt644.1 true)) else (laws_FnFactorsAndOrders.j4 k x1 x19 x20 bt644.1 true)))) else (laws_FnFactorsAndOrders.j6 k x1))
def laws_FnFactorsAndOrders.j6 : Nat → List Int → Option (Bool)
 | 0, _ => none
 | k + 1, x1 => (spec_DrawPowerModulo.f k x1).bind fun bt650 => ((impl_PowerModulo.f k bt650.1 bt650.2.1 bt650.2.2).bind fun bt653 => ((spec_PowerModulo.f k bt650.1 bt650.2.1 bt650.2.2).bind fun bt655 => ((spec_DrawIsIrreducible.f k x1).bind fun t657 => ((impl_IsIrreducible.f k t657).bind fun bt658 => ((spec_IsIrreducible.f k t657).bind fun bt660 => (if (bt653.2 == bt655.2) = true then (if bt653.1 = bt655.1 then (if (bt658.2 == bt660.2) = true then (some (bt658.1 == bt660.1)) else (some false)) else (some false)) else (some false)))))))
def laws_FnFactorsAndOrders.j4 : Nat → List Int → Int → Int → Int → Bool → Option (Bool)
 | 0, _, _, _, _, _ => none
 | k + 1, x1, x19, x20, x24, x172 => if x172 = true then (some false) else (laws_FnFactorsAndOrders.l1 k x1 x19 x20 x24 1)
def laws_FnFactorsAndOrders.l1 : Nat → List Int → Int → Int → Int → Int → Option (Bool)
 | 0, _, _, _, _, _ => none
 | k + 1, x1, x19, x20, x24, x28 => if x28 < x20 then (if x28 = 0 then (none) else (if (Int.tmod x20 x28) = 0 then ((impl_PowerModulo.f k 2 x28 x19).bind fun bt648 => (if bt648.2 = true then (if bt648.1 = x24 then (some false) else (laws_FnFactorsAndOrders.l1 k x1 x19 x20 x24 (wrap64 (x28 + 1)))) else (some false))) else (laws_FnFactorsAndOrders.l1 k x1 x19 x20 x24 (wrap64 (x28 + 1))))) else (laws_FnFactorsAndOrders.j6 k x1)
def laws_FnFactorsAndOrders.l0 : Nat → List Int → Int → List Int → Int → List Int → Int → Int → Option (Bool)
 | 0, _, _, _, _, _, _, _ => none
 | k + 1, x1, x5, x6, x10, x68, x69, x70 => if x70 < x69 then (if 0 ≤ x70 then (if x70 < (x68.length : Int) then ((impl_IsIrreducible.f k (rd x68 x70)).bind fun bt634 => ((impl_TimesPoly.f k x10 (rd x68 x70)).bind fun bt636 => (if bt634.2 = true then (if bt634.1 = true then (if bt636.2 = true then (if x70 > 0 then (if 0 ≤ (wrap64 (x70 - 1)) then (if (wrap64 (x70 - 1)) < (x6.length : Int) then (if (rd x6 (wrap64 (x70 - 1))) > (rd x68 x70) then (some false) else (laws_FnFactorsAndOrders.l0 k x1 x5 x6 bt636.1 x68 x69 (wrap64 (x70 + 1)))) else (none)) else (none)) else (laws_FnFactorsAndOrders.l0 k x1 x5 x6 bt636.1 x68 x69 (wrap64 (x70 + 1)))) else (some false)) else (some false)) else (some false)))) else (none)) else (none)) else ((impl_IsIrreducible.f k x5).bind fun bt631 => (if x10 = x5 then (if bt631.2 = true then (if (bt631.1 != ((x6.length : Int) == 1)) = true then (some false) else (laws_FnFactorsAndOrders.j2 k x1)) else (some false)) else (some false)))
end
def laws_FnFactorsAndOrders.f (k : Nat) (l0 : List Int) (l1 : List Int) : Option (Bool) := (laws_big.f l0 l1).bind fun t620 => (if t620 = true then (some true) else ((spec_DrawFactorsOf.f k l0).bind fun t621 => ((impl_FactorsOf.f k t621).bind fun bt622 => ((spec_FactorsOf.f k t621).bind fun bt626 => (if (bt622.2 != bt626.2) = true then (laws_FnFactorsAndOrders.j0 k l1 t621 bt622.1 bt622.2 true) else ((laws_vSame.f k bt622.1 bt626.1).bind fun t630 => (laws_FnFactorsAndOrders.j0 k l1 t621 bt622.1 bt622.2 (!t630))))))))
theorem laws_FnFactorsAndOrders.mono_l : ∀ k, (∀ y0 y1 y2 y3 y4, LeO (laws_FnFactorsAndOrders.j0 k y0 y1 y2 y3 y4) (laws_FnFactorsAndOrders.j0 (k + 1) y0 y1 y2 y3 y4)) ∧ (∀ y0, LeO (laws_FnFactorsAndOrders.j2 k y0) (laws_FnFactorsAndOrders.j2 (k + 1) y0)) ∧ (∀ y0 y1 y2 y3 y4, LeO (laws_FnFactorsAndOrders.j3 k y0 y1 y2 y3 y4) (laws_FnFactorsAndOrders.j3 (k + 1) y0 y1 y2 y3 y4)) ∧ (∀ y0, LeO (laws_FnFactorsAndOrders.j6 k y0) (laws_FnFactorsAndOrders.j6 (k + 1) y0)) ∧ (∀ y0 y1 y2 y3 y4, LeO (laws_FnFactorsAndOrders.j4 k y0 y1 y2 y3 y4) (laws_FnFactorsAndOrders.j4 (k + 1) y0 y1 y2 y3 y4)) ∧ (∀ y0 y1 y2 y3 y4, LeO (laws_FnFactorsAndOrders.l1 k y0 y1 y2 y3 y4) (laws_FnFactorsAndOrders.l1 (k + 1) y0 y1 y2 y3 y4)) ∧ (∀ y0 y1 y2 y3 y4 y5 y6, LeO (laws_FnFactorsAndOrders.l0 k y0 y1 y2 y3 y4 y5 y6) (laws_FnFactorsAndOrders.l0 (k + 1) y0 y1 y2 y3 y4 y5 y6))
 | 0 => ⟨fun _ _ _ _ _ r h => by simp [laws_FnFactorsAndOrders.j0] at h, fun _ r h => by simp [laws_FnFactorsAndOrders.j2] at h, fun _ _ _ _ _ r h => by simp [laws_FnFactorsAndOrders.j3] at h, fun _ r h => by simp [laws_FnFactorsAndOrders.j6] at h, fun _ _ _ _ _ r h => by simp [laws_FnFactorsAndOrders.j4] at h, fun _ _ _ _ _ r h => by simp [laws_FnFactorsAndOrders.l1] at h, fun _ _ _ _ _ _ _ r h => by simp [laws_FnFactorsAndOrders.l0] at h⟩
 | k + 1 => by
  obtain ⟨ih0, ih1, ih2, ih3, ih4, ih5, ih6⟩ := laws_FnFactorsAndOrders.mono_l k
  refine ⟨?_, ?_, ?_, ?_, ?_, ?_, ?_⟩
  ·intro y0 y1 y2 y3 y4
   unfold laws_FnFactorsAndOrders.j0
   repeat' first
   | (with_reducible exact ih0 _ _ _ _ _)
   | (with_reducible exact ih1 _)
   | (with_reducible exact ih2 _ _ _ _ _)
   | (with_reducible exact ih3 _)
   | (with_reducible exact ih4 _ _ _ _ _)
   | (with_reducible exact ih5 _ _ _ _ _)
   | (with_reducible exact ih6 _ _ _ _ _ _ _)
   | (with_reducible exact impl_FactorsOf.mono _ _)
   | (with_reducible exact impl_IsIrreducible.mono _ _)
   | (with_reducible exact impl_OrderOfPoly.mono _ _)
   | (with_reducible exact impl_PowerModulo.mono _ _ _ _)
   | (with_reducible exact impl_TimesPoly.mono _ _ _)
   | (with_reducible exact laws_vSame.mono _ _ _)
   | (with_reducible exact spec_DrawFactorsOf.mono _ _)
   | (with_reducible exact spec_DrawIsIrreducible.mono _ _)
   | (with_reducible exact spec_DrawOrderOfPoly.mono _ _)
   | (with_reducible exact spec_DrawPowerModulo.mono _ _)
   | (with_reducible exact spec_FactorsOf.mono _ _)
   | (with_reducible exact spec_IsIrreducible.mono _ _)
   | (with_reducible exact spec_OrderOfPoly.mono _ _)
   | (with_reducible exact spec_PowerModulo.mono _ _ _ _)
   | (with_reducible exact LeO.refl _)
   | (with_reducible exact LeO.none _)
   | (with_reducible refine LeO.ite ?_ ?_)
   | (with_reducible refine LeO.bind ?_ (fun _ => ?_))
   | exact ih0 _ _ _ _ _
   | exact ih1 _
   | exact ih2 _ _ _ _ _
   | exact ih3 _
   | exact ih4 _ _ _ _ _
   | exact ih5 _ _ _ _ _
   | exact ih6 _ _ _ _ _ _ _
   | exact impl_FactorsOf.mono _ _
   | exact impl_IsIrreducible.mono _ _
   | exact impl_OrderOfPoly.mono _ _
   | exact impl_PowerModulo.mono _ _ _ _
   | exact impl_TimesPoly.mono _ _ _
   | exact laws_vSame.mono _ _ _
   | exact spec_DrawFactorsOf.mono _ _
   | exact spec_DrawIsIrreducible.mono _ _
   | exact spec_DrawOrderOfPoly.mono _ _
   | exact spec_DrawPowerModulo.mono _ _
   | exact spec_FactorsOf.mono _ _
   | exact spec_IsIrreducible.mono _ _
   | exact spec_OrderOfPoly.mono _ _
   | exact spec_PowerModulo.mono _ _ _ _
   | exact LeO.none _
   | refine LeO.ite ?_ ?_
   | refine LeO.bind ?_ (fun _ => ?_)
  ·intro y0
   unfold laws_FnFactorsAndOrders.j2
   repeat' first
   | (with_reducible exact ih0 _ _ _ _ _)
   | (with_reducible exact ih1 _)
   | (with_reducible exact ih2 _ _ _ _ _)
   | (with_reducible exact ih3 _)
   | (with_reducible exact ih4 _ _ _ _ _)
   | (with_reducible exact ih5 _ _ _ _ _)
   | (with_reducible exact ih6 _ _ _ _ _ _ _)
   | (with_reducible exact impl_FactorsOf.mono _ _)
   | (with_reducible exact impl_IsIrreducible.mono _ _)
   | (with_reducible exact impl_OrderOfPoly.mono _ _)
   | (with_reducible exact impl_PowerModulo.mono _ _ _ _)
   | (with_reducible exact impl_TimesPoly.mono _ _ _)
   | (with_reducible exact laws_vSame.mono _ _ _)
   | (with_reducible exact spec_DrawFactorsOf.mono _ _)
   | (with_reducible exact spec_DrawIsIrreducible.mono _ _)
   | (with_reducible exact spec_DrawOrderOfPoly.mono _ _)
   | (with_reducible exact spec_DrawPowerModulo.mono _ _)
   | (with_reducible exact spec_FactorsOf.mono _ _)
   | (with_reducible exact spec_IsIrreducible.mono _ _)
   | (with_reducible exact spec_OrderOfPoly.mono _ _)
   | (with_reducible exact spec_PowerModulo.mono _ _ _ _)
   | (with_reducible exact LeO.refl _)
   | (with_reducible exact LeO.none _)
   | (with_reducible refine LeO.ite ?_ ?_)
   | (with_reducible refine LeO.bind ?_ (fun _ => ?_))
   | exact ih0 _ _ _ _ _
   | exact ih1 _
   | exact ih2 _ _ _ _ _
   | exact ih3 _
   | exact ih4 _ _ _ _ _
   | exact ih5 _ _ _ _ _
   | exact ih6 _ _ _ _ _ _ _
   | exact impl_FactorsOf.mono _ _
   | exact impl_IsIrreducible.mono _ _
   | exact impl_OrderOfPoly.mono _ _
   | exact impl_PowerModulo.mono _ _ _ _
   | exact impl_TimesPoly.mono _ _ _
   | exact laws_vSame.mono _ _ _
   | exact spec_DrawFactorsOf.mono _ _
   | exact spec_DrawIsIrreducible.mono _ _
   | exact spec_DrawOrderOfPoly.mono _ _
   | exact spec_DrawPowerModulo.mono _ _
   | exact spec_FactorsOf.mono _ _
   | exact spec_IsIrreducible.mono _ _
   | exact spec_OrderOfPoly.mono _ _
   | exact spec_PowerModulo.mono _ _ _ _
   | exact LeO.none _
   | refine LeO.ite ?_ ?_
   | refine LeO.bind ?_ (fun _ => ?_)
  ·intro y0 y1 y2 y3 y4
   unfold laws_FnFactorsAndOrders.j3
   repeat' first
   | (with_reducible exact ih0 _ _ _ _ _)
   | (with_reducible exact ih1 _)
   | (with_reducible exact ih2 _ _ _ _ _)
   | (with_reducible exact ih3 _)
   | (with_reducible exact ih4 _ _ _ _ _)
   | (with_reducible exact ih5 _ _ _ _ _)
   | (with_reducible exact ih6 _ _ _ _ _ _ _)
   | (with_reducible exact impl_FactorsOf.mono _ _)
   | (with_reducible exact impl_IsIrreducible.mono _ _)
   | (with_reducible exact impl_OrderOfPoly.mono _ _)
   | (with_reducible exact impl_PowerModulo.mono _ _ _ _)
   | (with_reducible exact impl_TimesPoly.mono _ _ _)
   | (with_reducible exact laws_vSame.mono _ _ _)
   | (with_reducible exact spec_DrawFactorsOf.mono _ _)
   | (with_reducible exact spec_DrawIsIrreducible.mono _ _)
   | (with_reducible exact spec_DrawOrderOfPoly.mono _ _)
   | (with_reducible exact spec_DrawPowerModulo.mono _ _)
   | (with_reducible exact spec_FactorsOf.mono _ _)
   | (with_reducible exact spec_IsIrreducible.mono _ _)
   | (with_reducible exact spec_OrderOfPoly.mono _ _)
   | (with_reducible exact spec_PowerModulo.mono _ _ _ _)
   | (with_reducible exact LeO.refl _)
   | (with_reducible exact LeO.none _)
   | (with_reducible refine LeO.ite ?_ ?_)
   | (with_reducible refine LeO.bind ?_ (fun _ => ?_))
   | exact ih0 _ _ _ _ _
   | exact ih1 _
   | exact ih2 _ _ _ _ _
   | exact ih3 _
   | exact ih4 _ _ _ _ _
   | exact ih5 _ _ _ _ _
   | exact ih6 _ _ _ _ _ _ _
   | exact impl_FactorsOf.mono _ _
   | exact impl_IsIrreducible.mono _ _
   | exact impl_OrderOfPoly.mono _ _
   | exact impl_PowerModulo.mono _ _ _ _
   | exact impl_TimesPoly.mono _ _ _
   | exact laws_vSame.mono _ _ _
   | exact spec_DrawFactorsOf.mono _ _
   | exact spec_DrawIsIrreducible.mono _ _
   | exact spec_DrawOrderOfPoly.mono _ _
   | exact spec_DrawPowerModulo.mono _ _
   | exact spec_FactorsOf.mono _ _
   | exact spec_IsIrreducible.mono _ _
   | exact spec_OrderOfPoly.mono _ _
   | exact spec_PowerModulo.mono _ _ _ _
   | exact LeO.none _
   | refine LeO.ite ?_ ?_
   | refine LeO.bind ?_ (fun _ => ?_)
  ·intro y0
   unfold laws_FnFactorsAndOrders.j6
   repeat' first
   | (with_reducible exact ih0 _ _ _ _ _)
   | (with_reducible exact ih1 _)
   | (with_reducible exact ih2 _ _ _ _ _)
   | (with_reducible exact ih3 _)
   | (with_reducible exact ih4 _ _ _ _ _)
   | (with_reducible exact ih5 _ _ _ _ _)
   | (with_reducible exact ih6 _ _ _ _ _ _ _)
   | (with_reducible exact impl_FactorsOf.mono _ _)
   | (with_reducible exact impl_IsIrreducible.mono _ _)
   | (with_reducible exact impl_OrderOfPoly.mono _ _)
   | (with_reducible exact impl_PowerModulo.mono _ _ _ _)
   | (with_reducible exact impl_TimesPoly.mono _ _ _)
   | (with_reducible exact laws_vSame.mono _ _ _)
   | (with_reducible exact spec_DrawFactorsOf.mono _ _)
   | (with_reducible exact spec_DrawIsIrreducible.mono _ _)
   | (with_reducible exact spec_DrawOrderOfPoly.mono _ _)
   | (with_reducible exact spec_DrawPowerModulo.mono _ _)
   | (with_reducible exact spec_FactorsOf.mono _ _)
   | (with_reducible exact spec_IsIrreducible.mono _ _)
   | (with_reducible exact spec_OrderOfPoly.mono _ _)
   | (with_reducible exact spec_PowerModulo.mono _ _ _ _)
   | (with_reducible exact LeO.refl _)
   | (with_reducible exact LeO.none _)
   | (with_reducible refine LeO.ite ?_ ?_)
   | (with_reducible refine LeO.bind ?_ (fun _ => ?_))
   | exact ih0 _ _ _ _ _
   | exact ih1 _
   | exact ih2 _ _ _ _ _
   | exact ih3 _
   | exact ih4 _ _ _ _ _
   | exact ih5 _ _ _ _ _
   | exact ih6 _ _ _ _ _ _ _
   | exact impl_FactorsOf.mono _ _
   | exact impl_IsIrreducible.mono _ _
   | exact impl_OrderOfPoly.mono _ _
   | exact impl_PowerModulo.mono _ _ _ _
   | exact impl_TimesPoly.mono _ _ _
   | exact laws_vSame.mono _ _ _
   | exact spec_DrawFactorsOf.mono _ _
   | exact spec_DrawIsIrreducible.mono _ _
   | exact spec_DrawOrderOfPoly.mono _ _
   | exact spec_DrawPowerModulo.mono _ _
   | exact spec_FactorsOf.mono _ _
   | exact spec_IsIrreducible.mono _ _
   | exact spec_OrderOfPoly.mono _ _
   | exact spec_PowerModulo.mono _ _ _ _
   | exact LeO.none _
   | refine LeO.ite ?_ ?_
   | refine LeO.bind ?_ (fun _ => ?_)
  ·intro y0 y1 y2 y3 y4
   unfold laws_FnFactorsAndOrders.j4
   repeat' first
   | (with_reducible exact ih0 _ _ _ _ _)
   | (with_reducible exact ih1 _)
   | (with_reducible exact ih2 _ _ _ _ _)
   | (with_reducible exact ih3 _)
   | (with_reducible exact ih4 _ _ _ _ _)
   | (with_reducible exact ih5 _ _ _ _ _)
   | (with_reducible exact ih6 _ _ _ _ _ _ _)
   | (with_reducible exact impl_FactorsOf.mono _ _)
   | (with_reducible exact impl_IsIrreducible.mono _ _)
   | (with_reducible exact impl_OrderOfPoly.mono _ _)
   | (with_reducible exact impl_PowerModulo.mono _ _ _ _)
   | (with_reducible exact impl_TimesPoly.mono _ _ _)
   | (with_reducible exact laws_vSame.mono _ _ _)
   | (with_reducible exact spec_DrawFactorsOf.mono _ _)
   | (with_reducible exact spec_DrawIsIrreducible.mono _ _)
   | (with_reducible exact spec_DrawOrderOfPoly.mono _ _)
   | (with_reducible exact spec_DrawPowerModulo.mono _ _)
   | (with_reducible exact spec_FactorsOf.mono _ _)
   | (with_reducible exact spec_IsIrreducible.mono _ _)
   | (with_reducible exact spec_OrderOfPoly.mono _ _)
   | (with_reducible exact spec_PowerModulo.mono _ _ _ _)
   | (with_reducible exact LeO.refl _)
   | (with_reducible exact LeO.none _)
   | (with_reducible refine LeO.ite ?_ ?_)
   | (with_reducible refine LeO.bind ?_ (fun _ => ?_))
   | exact ih0 _ _ _ _ _
   | exact ih1 _
   | exact ih2 _ _ _ _ _
   | exact ih3 _
   | exact ih4 _ _ _ _ _
   | exact ih5 _ _ _ _ _
   | exact ih6 _ _ _ _ _ _ _
   | exact impl_FactorsOf.mono _ _
   | exact impl_IsIrreducible.mono _ _
   | exact impl_OrderOfPoly.mono _ _
   | exact impl_PowerModulo.mono _ _ _ _
   | exact impl_TimesPoly.mono _ _ _
   | exact laws_vSame.mono _ _ _
   | exact spec_DrawFactorsOf.mono _ _
   | exact spec_DrawIsIrreducible.mono _ _
   | exact spec_DrawOrderOfPoly.mono _ _
   | exact spec_DrawPowerModulo.mono _ _
   | exact spec_FactorsOf.mono _ _
   | exact spec_IsIrreducible.mono _ _
   | exact spec_OrderOfPoly.mono _ _
   | exact spec_PowerModulo.mono _ _ _ _
   | exact LeO.none _
   | refine LeO.ite ?_ ?_
   | refine LeO.bind ?_ (fun _ => ?_)
  ·intro y0 y1 y2 y3 y4
   unfold laws_FnFactorsAndOrders.l1
   repeat' first
   | (with_reducible exact ih0 _ _ _ _ _)
   | (with_reducible exact ih1 _)
   | (with_reducible exact ih2 _ _ _ _ _)
   | (with_reducible exact ih3 _)
   | (with_reducible exact ih4 _ _ _ _ _)
   | (with_reducible exact ih5 _ _ _ _ _)
   | (with_reducible exact ih6 _ _ _ _ _ _ _)
   | (with_reducible exact impl_FactorsOf.mono _ _)
   | (with_reducible exact impl_IsIrreducible.mono _ _)
   | (with_reducible exact impl_OrderOfPoly.mono _ _)
   | (with_reducible exact impl_PowerModulo.mono _ _ _ _)
   | (with_reducible exact impl_TimesPoly.mono _ _ _)
   | (with_reducible exact laws_vSame.mono _ _ _)
   | (with_reducible exact spec_DrawFactorsOf.mono _ _)
   | (with_reducible exact spec_DrawIsIrreducible.mono _ _)
   | (with_reducible exact spec_DrawOrderOfPoly.mono _ _)
   | (with_reducible exact spec_DrawPowerModulo.mono _ _)
   | (with_reducible exact spec_FactorsOf.mono _ _)
   | (with_reducible exact spec_IsIrreducible.mono _ _)
   | (with_reducible exact spec_OrderOfPoly.mono _ _)
   | (with_reducible exact spec_PowerModulo.mono _ _ _ _)
   | (with_reducible exact LeO.refl _)
   | (with_reducible exact LeO.none _)
   | (with_reducible refine LeO.ite ?_ ?_)
   | (with_reducible refine LeO.bind ?_ (fun _ => ?_))
   | exact ih0 _ _ _ _ _
   | exact ih1 _
   | exact ih2 _ _ _ _ _
   | exact ih3 _
   | exact ih4 _ _ _ _ _
   | exact ih5 _ _ _ _ _
   | exact ih6 _ _ _ _ _ _ _
   | exact impl_FactorsOf.mono _ _
   | exact impl_IsIrreducible.mono _ _
   | exact impl_OrderOfPoly.mono _ _
   | exact impl_PowerModulo.mono _ _ _ _
   | exact impl_TimesPoly.mono _ _ _
   | exact laws_vSame.mono _ _ _
   | exact spec_DrawFactorsOf.mono _ _
   | exact spec_DrawIsIrreducible.mono _ _
   | exact spec_DrawOrderOfPoly.mono _ _
   | exact spec_DrawPowerModulo.mono _ _
   | exact spec_FactorsOf.mono _ _
   | exact spec_IsIrreducible.mono _ _
   | exact spec_OrderOfPoly.mono _ _
   | exact spec_PowerModulo.mono _ _ _ _
   | exact LeO.none _
   | refine LeO.ite ?_ ?_
   | refine LeO.bind ?_ (fun _ => ?_)
  ·intro y0 y1 y2 y3 y4 y5 y6
   unfold laws_FnFactorsAndOrders.l0
   repeat' first
   | (with_reducible exact ih0 _ _ _ _ _)
   | (with_reducible exact ih1 _)
   | (with_reducible exact ih2 _ _ _ _ _)
   | (with_reducible exact ih3 _)
   | (with_reducible exact ih4 _ _ _ _ _)
   | (with_reducible exact ih5 _ _ _ _ _)
   | (with_reducible exact ih6 _ _ _ _ _ _ _)
   | (with_reducible exact impl_FactorsOf.mono _ _)
   | (with_reducible exact impl_IsIrreducible.mono _ _)
   | (with_reducible exact impl_OrderOfPoly.mono _ _)
   | (with_reducible exact impl_PowerModulo.mono _ _ _ _)
   | (with_reducible exact impl_TimesPoly.mono _ _ _)
   | (with_reducible exact laws_vSame.mono _ _ _)
   | (with_reducible exact spec_DrawFactorsOf.mono _ _)
   | (with_reducible exact spec_DrawIsIrreducible.mono _ _)
   | (with_reducible exact spec_DrawOrderOfPoly.mono _ _)
   | (with_reducible exact spec_DrawPowerModulo.mono _ _)
   | (with_reducible exact spec_FactorsOf.mono _ _)
   | (with_reducible exact spec_IsIrreducible.mono _ _)
   | (with_reducible exact spec_OrderOfPoly.mono _ _)
   | (with_reducible exact spec_PowerModulo.mono _ _ _ _)
   | (with_reducible exact LeO.refl _)
   | (with_reducible exact LeO.none _)
   | (with_reducible refine LeO.ite ?_ ?_)
   | (with_reducible refine LeO.bind ?_ (fun _ => ?_))
   | exact ih0 _ _ _ _ _
   | exact ih1 _
   | exact ih2 _ _ _ _ _
   | exact ih3 _
   | exact ih4 _ _ _ _ _
   | exact ih5 _ _ _ _ _
   | exact ih6 _ _ _ _ _ _ _
   | exact impl_FactorsOf.mono _ _
   | exact impl_IsIrreducible.mono _ _
   | exact impl_OrderOfPoly.mono _ _
   | exact impl_PowerModulo.mono _ _ _ _
   | exact impl_TimesPoly.mono _ _ _
   | exact laws_vSame.mono _ _ _
   | exact spec_DrawFactorsOf.mono _ _
   | exact spec_DrawIsIrreducible.mono _ _
   | exact spec_DrawOrderOfPoly.mono _ _
   | exact spec_DrawPowerModulo.mono _ _
   | exact spec_FactorsOf.mono _ _
   | exact spec_IsIrreducible.mono _ _
   | exact spec_OrderOfPoly.mono _ _
   | exact spec_PowerModulo.mono _ _ _ _
   | exact LeO.none _
   | refine LeO.ite ?_ ?_
   | refine LeO.bind ?_ (fun _ => ?_)
theorem laws_FnFactorsAndOrders.mono : ∀ a0 a1 k, LeO (laws_FnFactorsAndOrders.f k a0 a1) (laws_FnFactorsAndOrders.f (k + 1) a0 a1) := by
 intro a0 a1 k
 obtain ⟨ih0, ih1, ih2, ih3, ih4, ih5, ih6⟩ := laws_FnFactorsAndOrders.mono_l k
 unfold laws_FnFactorsAndOrders.f
 repeat' first
   | (with_reducible exact ih0 _ _ _ _ _)
   | (with_reducible exact ih1 _)
   | (with_reducible exact ih2 _ _ _ _ _)
   | (with_reducible exact ih3 _)
   | (with_reducible exact ih4 _ _ _ _ _)
   | (with_reducible exact ih5 _ _ _ _ _)
   | (with_reducible exact ih6 _ _ _ _ _ _ _)
   | (with_reducible exact impl_FactorsOf.mono _ _)
   | (with_reducible exact impl_IsIrreducible.mono _ _)
   | (with_reducible exact impl_OrderOfPoly.mono _ _)
   | (with_reducible exact impl_PowerModulo.mono _ _ _ _)
   | (with_reducible exact impl_TimesPoly.mono _ _ _)
   | (with_reducible exact laws_vSame.mono _ _ _)
   | (with_reducible exact spec_DrawFactorsOf.mono _ _)
   | (with_reducible exact spec_DrawIsIrreducible.mono _ _)
   | (with_reducible exact spec_DrawOrderOfPoly.mono _ _)
   | (with_reducible exact spec_DrawPowerModulo.mono _ _)
   | (with_reducible exact spec_FactorsOf.mono _ _)
   | (with_reducible exact spec_IsIrreducible.mono _ _)
   | (with_reducible exact spec_OrderOfPoly.mono _ _)
   | (with_reducible exact spec_PowerModulo.mono _ _ _ _)
   | (with_reducible exact LeO.refl _)
   | (with_reducible exact LeO.none _)
   | (with_reducible refine LeO.ite ?_ ?_)
   | (with_reducible refine LeO.bind ?_ (fun _ => ?_))
   | exact ih0 _ _ _ _ _
   | exact ih1 _
   | exact ih2 _ _ _ _ _
   | exact ih3 _
   | exact ih4 _ _ _ _ _
   | exact ih5 _ _ _ _ _
   | exact ih6 _ _ _ _ _ _ _
   | exact impl_FactorsOf.mono _ _
   | exact impl_IsIrreducible.mono _ _
   | exact impl_OrderOfPoly.mono _ _
   | exact impl_PowerModulo.mono _ _ _ _
   | exact impl_TimesPoly.mono _ _ _
   | exact laws_vSame.mono _ _ _
   | exact spec_DrawFactorsOf.mono _ _
   | exact spec_DrawIsIrreducible.mono _ _
   | exact spec_DrawOrderOfPoly.mono _ _
   | exact spec_DrawPowerModulo.mono _ _
   | exact spec_FactorsOf.mono _ _
   | exact spec_IsIrreducible.mono _ _
   | exact spec_OrderOfPoly.mono _ _
   | exact spec_PowerModulo.mono _ _ _ _
   | exact LeO.none _
   | refine LeO.ite ?_ ?_
   | refine LeO.bind ?_ (fun _ => ?_)
set_option maxHeartbeats 8000000 in
set_option maxRecDepth 100000 in
theorem laws_FnFactorsAndOrders.calls (k : Nat) (A0 : Option Addr) (c0 : Nat) (l0 : List Int) (A1 : Option Addr) (c1 : Nat) (l1 : List Int) (r : Bool) (w : World) (hr0 : Kd.C (Kd.int .u8) w A0 l0.length l0) (hc0 : l0.length ≤ c0) (hr1 : Kd.C (Kd.int .u8) w A1 l1.length l1) (hc1 : l1.length ≤ c1) (h : laws_FnFactorsAndOrders.f k l0 l1 = some r) :
  Calls Try.prog 8 #[.slice A0 l0.length c0, .slice A1 l1.length c1] w fun e w' => e = .returned (.bool r) ∧ Below w.heap.size w w' := by
 have HR0 := Aside0.mk hr0
 have HC0 := Aside0.mk hc0
 clear hr0 hc0
 have HR1 := Aside0.mk hr1
 have HC1 := Aside0.mk hc1
 clear hr1 hc1
 have HB := Aside0.mk (Below.refl w.heap.size w)
 have H : ((laws_big.f l0 l1).bind fun t620 => (if t620 = true then (some true) else ((spec_DrawFactorsOf.f k l0).bind fun t621 => ((impl_FactorsOf.f k t621).bind fun bt622 => ((spec_FactorsOf.f k t621).bind fun bt626 => (if (bt622.2 != bt626.2) = true then (laws_FnFactorsAndOrders.j0 k l1 t621 bt622.1 bt622.2 true) else ((laws_vSame.f k bt622.1 bt626.1).bind fun t630 => (laws_FnFactorsAndOrders.j0 k l1 t621 bt622.1 bt622.2 (!t630))))))))) = some r := h
 clear h
 replace H := Option.bind_eq_some_iff.mp H
 obtain ⟨t620, A30, H⟩ := H
 replace H : (if t620 = true then (some true) else ((spec_DrawFactorsOf.f k l0).bind fun t621 => ((impl_FactorsOf.f k t621).bind fun bt622 => ((spec_FactorsOf.f k t621).bind fun bt626 => (if (bt622.2 != bt626.2) = true then (laws_FnFactorsAndOrders.j0 k l1 t621 bt622.1 bt622.2 true) else ((laws_vSame.f k bt622.1 bt626.1).bind fun t630 => (laws_FnFactorsAndOrders.j0 k l1 t621 bt622.1 bt622.2 (!t630)))))))) = some r := H
 have A3 := Aside0.mk A30
 clear A30
 by_cases c4 : t620 = true
 ·subst c4
  have H1 : (some true) = some r := by rw [if_pos rfl] at H; exact H
  clear H
  have H := H1
  clear H1
  as_aux_lemma =>
   obtain rfl := Option.some.inj H
   go_enter Try.func8, Try.ntmps8
   go_wp2_with (first | ((with_reducible refine gate_callee (f := 13) rfl ?_); refine goesL_ (some 45) rfl rfl Try.func13 (by kernel_rfl) rfl #[.slice A0 l0.length c0, .slice A1 l1.length c1] rfl (by (try simp only [List.map_toArray, List.map_cons, List.map_nil]); first | done | rfl | (simp only [List.length_drop, List.length_take]; rfl)) ?_; (with_reducible refine (laws_big.calls _ _ l0 _ _ l1 true _ ?side1 ?side2 ?side3 ?side4 A3.out).mono ?_); (case side1 => repeat (first | exact HR0.out | (with_reducible refine Kd.C_alloc ?_ _) | (with_reducible refine Kd.C_drewN ?_ _) | (with_reducible refine Kd.C_drew ?_))); (case side2 => exact HC0.out); (case side3 => repeat (first | exact HR1.out | (with_reducible refine Kd.C_alloc ?_ _) | (with_reducible refine Kd.C_drewN ?_ _) | (with_reducible refine Kd.C_drew ?_))); (case side4 => exact HC1.out); rintro e w' ⟨rfl, ⟨nd, rfl⟩⟩; refine ⟨_, rfl, ?_⟩))
   go_ret
   exact ⟨by first | rfl | (simp [errW_none, errW_some] <;> rfl) | (simp [*, errW_none, errW_some] <;> rfl), by repeat (first | (with_reducible first | exact HB.out | apply below_alloc | apply pw_below_drewN | apply below_drew1) | exact HB.out)⟩
 ·replace c4 := Bool.eq_false_iff.mpr c4
  subst c4
  have H1 : ((spec_DrawFactorsOf.f k l0).bind fun t621 => ((impl_FactorsOf.f k t621).bind fun bt622 => ((spec_FactorsOf.f k t621).bind fun bt626 => (if (bt622.2 != bt626.2) = true then (laws_FnFactorsAndOrders.j0 k l1 t621 bt622.1 bt622.2 true) else ((laws_vSame.f k bt622.1 bt626.1).bind fun t630 => (laws_FnFactorsAndOrders.j0 k l1 t621 bt622.1 bt622.2 (!t630))))))) = some r := by rw [if_neg (show ¬ (false = true) by decide)] at H; exact H
  clear H
  have H := H1
  clear H1
  replace H := Option.bind_eq_some_iff.mp H
  obtain ⟨t621, A50, H⟩ := H
  replace H : ((impl_FactorsOf.f k t621).bind fun bt622 => ((spec_FactorsOf.f k t621).bind fun bt626 => (if (bt622.2 != bt626.2) = true then (laws_FnFactorsAndOrders.j0 k l1 t621 bt622.1 bt622.2 true) else ((laws_vSame.f k bt622.1 bt626.1).bind fun t630 => (laws_FnFactorsAndOrders.j0 k l1 t621 bt622.1 bt622.2 (!t630)))))) = some r := H
  have A5 := Aside0.mk A50
  clear A50
  replace H := Option.bind_eq_some_iff.mp H
  obtain ⟨⟨t622, t623⟩, A60, H⟩ := H
  replace H : ((spec_FactorsOf.f k t621).bind fun bt626 => (if (t623 != bt626.2) = true then (laws_FnFactorsAndOrders.j0 k l1 t621 t622 t623 true) else ((laws_vSame.f k t622 bt626.1).bind fun t630 => (laws_FnFactorsAndOrders.j0 k l1 t621 t622 t623 (!t630))))) = some r := H
  have A6 := Aside0.mk A60
  clear A60
  replace H := Option.bind_eq_some_iff.mp H
  obtain ⟨⟨t626, t627⟩, A70, H⟩ := H
  replace H : (if (t623 != t627) = true then (laws_FnFactorsAndOrders.j0 k l1 t621 t622 t623 true) else ((laws_vSame.f k t622 t626).bind fun t630 => (laws_FnFactorsAndOrders.j0 k l1 t621 t622 t623 (!t630)))) = some r := H
  have A7 := Aside0.mk A70
  clear A70
  have HC8 := Aside0.mk H
  clear H
  go_enter Try.func8, Try.ntmps8
  go_upto_region 6 with (first | ((with_reducible refine gate_callee (f := 13) rfl ?_); refine goesL_ (some 45) rfl rfl Try.func13 (by kernel_rfl) rfl #[.slice A0 l0.length c0, .slice A1 l1.length c1] rfl (by (try simp only [List.map_toArray, List.map_cons, List.map_nil]); first | done | rfl | (simp only [List.length_drop, List.length_take]; rfl)) ?_; (with_reducible refine (laws_big.calls _ _ l0 _ _ l1 false _ ?side1 ?side2 ?side3 ?side4 A3.out).mono ?_); (case side1 => repeat (first | exact HR0.out | (with_reducible refine Kd.C_alloc ?_ _) | (with_reducible refine Kd.C_drewN ?_ _) | (with_reducible refine Kd.C_drew ?_))); (case side2 => exact HC0.out); (case side3 => repeat (first | exact HR1.out | (with_reducible refine Kd.C_alloc ?_ _) | (with_reducible refine Kd.C_drewN ?_ _) | (with_reducible refine Kd.C_drew ?_))); (case side4 => exact HC1.out); rintro e w' ⟨rfl, ⟨nd, rfl⟩⟩; refine ⟨_, rfl, ?_⟩) | ((with_reducible refine gate_callee (f := 32) rfl ?_); refine goesL_ (some 47) rfl rfl Try.func32 (by kernel_rfl) rfl #[.slice A0 l0.length c0] rfl (by (try simp only [List.map_toArray, List.map_cons, List.map_nil]); first | done | rfl | (simp only [List.length_drop, List.length_take]; rfl)) ?_; (with_reducible refine (spec_DrawFactorsOf.calls k _ _ l0 t621 _ ?side1 ?side2 A5.out).mono ?_); (case side1 => repeat (first | exact HR0.out | (with_reducible refine Kd.C_alloc ?_ _) | (with_reducible refine Kd.C_drewN ?_ _) | (with_reducible refine Kd.C_drew ?_))); (case side2 => exact HC0.out); rintro e w9 ⟨rfl, hb⟩; refine ⟨_, rfl, ?_⟩; have n0_ := Aside0.mk (below_step (by repeat (first | (with_reducible first | exact HB.out | apply below_alloc | apply pw_below_drewN | apply below_drew1) | exact HB.out)) hb); clear HB; have HB := n0_; clear n0_; (try clear hb); (try clear hb2); (try clear hk); (try clear hi)) | ((with_reducible refine gate_callee (f := 28) rfl ?_); refine goesL_ (some 50) rfl rfl Try.func28 (by kernel_rfl) rfl #[.int .i64 t621] rfl (by (try simp only [List.map_toArray, List.map_cons, List.map_nil]); first | done | rfl | (simp only [List.length_drop, List.length_take]; rfl)) ?_; (with_reducible refine (impl_FactorsOf.calls k t621 t622 t623 _ A6.out).mono ?_); rintro e w10 ⟨v624, rfl, ho0, hb⟩; refine ⟨_, rfl, ?_⟩; have n0_ := Aside0.mk (Kd.R_lower ho0 (below_size (by repeat (first | (with_reducible first | exact HB.out | apply below_alloc | apply pw_below_drewN | apply below_drew1) | exact HB.out)))); have n1_ := Aside0.mk (below_step (by repeat (first | (with_reducible first | exact HB.out | apply below_alloc | apply pw_below_drewN | apply below_drew1) | exact HB.out)) hb); clear HB; have HO625 := n0_; have HB := n1_; clear n0_ n1_; (try clear hb); (try clear hb2); (try clear hk); (try clear hi); (try clear ho0)) | ((with_reducible refine gate_callee (f := 27) rfl ?_); refine goesL_ (some 55) rfl rfl Try.func27 (by kernel_rfl) rfl #[.int .i64 t621] rfl (by (try simp only [List.map_toArray, List.map_cons, List.map_nil]); first | done | rfl | (simp only [List.length_drop, List.length_take]; rfl)) ?_; (with_reducible refine (spec_FactorsOf.calls k t621 t626 t627 _ A7.out).mono ?_); rintro e w11 ⟨v628, rfl, ho0, hb⟩; refine ⟨_, rfl, ?_⟩; have n0_ := Aside0.mk (Kd.R_elder' (by (with_reducible repeat (first | apply Kd.R_alloc | apply Kd.R_drewN | apply Kd.R_drew)); exact HO625.out) (Kd.R_base ho0) hb); have n1_ := Aside0.mk (Kd.R_lower (Kd.R_new' ho0 (Kd.R_lt (by (with_reducible repeat (first | apply Kd.R_alloc | apply Kd.R_drewN | apply Kd.R_drew)); exact HO625.out))) (below_size (by repeat (first | (with_reducible first | exact HB.out | apply below_alloc | apply pw_below_drewN | apply below_drew1) | exact HB.out)))); have n2_ := Aside0.mk (below_step (by repeat (first | (with_reducible first | exact HB.out | apply below_alloc | apply pw_below_drewN | apply below_drew1) | exact HB.out)) hb); clear HO625; clear HB; have HO625 := n0_; have HO629 := n1_; have HB := n2_; clear n0_ n1_ n2_; (try clear hb); (try clear hb2); (try clear hk); (try clear hi); (try clear ho0)))
  (try simp only [Act.put, List.setIfInBounds_toArray, List.set_cons_zero, List.set_cons_succ])
  go_cut [66] (fun v66 wc => ∃ (kq : Nat) (x66_7 : Bool), v66 = .bool x66_7 ∧ Aside0 (laws_FnFactorsAndOrders.j0 kq l1 t621 t622 t623 x66_7 = some r) ∧ Aside0 (kq ≤ k) ∧ Aside0 (Kd.R (Kd.int .i64) 3 wc w.heap.size (fun _ => True) v624 t622) ∧ Aside0 (Below w.heap.size w wc))
  case first =>
   have H := HC8.out
   clear HC8
   by_cases c12 : (t623 != t627) = true
   ·rw [if_pos c12] at H
    have c12b0 : (t623 != t627) = true := c12
    (try (have c12b1 : decide (t623 = t627) = false := by simpa using c12))
    (try (have c12b2 : (t623 == t627) = false := by simpa using c12))
    (try (have c12b3 : ¬ (t623 = t627) := by simpa using c12))
    clear c12
    (first | rw [c12b0] | (simp only [i64_w, i32_w]; rw [c12b0]) | skip)
    as_aux_lemma =>
     have H' := Aside0.mk H
     clear H
     go_wp2
     go_meet
     case rel => exact ⟨_, (true), (by first | rfl | (simp; done) | (simp [*]; done)), H', ⟨by first | omega | exact Nat.le_refl _⟩, ⟨by (with_reducible repeat (first | apply Kd.R_alloc | apply Kd.R_drewN | apply Kd.R_drew)); exact Kd.R_mono HO625.out (fun _ hk => trivial)⟩, ⟨by repeat (first | (with_reducible first | exact HB.out | apply below_alloc | apply pw_below_drewN | apply below_drew1) | exact HB.out)⟩⟩
   ·rw [if_neg c12] at H
    have c12b0 : (t623 != t627) = false := by simpa using c12
    (try (have c12b1 : decide (t623 = t627) = true := by simpa using c12))
    (try (have c12b2 : (t623 == t627) = true := by simpa using c12))
    clear c12
    (first | rw [c12b0] | (simp only [i64_w, i32_w]; rw [c12b0]) | skip)
    replace H := Option.bind_eq_some_iff.mp H
    obtain ⟨t630, A130, H⟩ := H
    replace H : (laws_FnFactorsAndOrders.j0 k l1 t621 t622 t623 (!t630)) = some r := H
    have A13 := Aside0.mk A130
    clear A130
    as_aux_lemma =>
     have H' := Aside0.mk H
     clear H
     obtain ⟨Ao14, co14, eo14⟩ := Kd.R_slice HO625.out
     subst eo14
     obtain ⟨Ao15, co15, eo15⟩ := Kd.R_slice HO629.out
     subst eo15
     go_wp2_with (first | (go_at_call 33; (with_reducible refine (laws_vSame.calls k _ _ t622 _ _ t626 t630 _ ?side1 ?side2 ?side3 ?side4 A13.out).mono ?_); (case side1 => repeat (first | exact (Kd.R_reads' HO625.out).2.2 | (with_reducible refine Kd.C_alloc ?_ _) | (with_reducible refine Kd.C_drewN ?_ _) | (with_reducible refine Kd.C_drew ?_))); (case side2 => exact (Kd.R_reads' HO625.out).2.1); (case side3 => repeat (first | exact (Kd.R_reads' HO629.out).2.2 | (with_reducible refine Kd.C_alloc ?_ _) | (with_reducible refine Kd.C_drewN ?_ _) | (with_reducible refine Kd.C_drew ?_))); (case side4 => exact (Kd.R_reads' HO629.out).2.1); rintro e w' ⟨rfl, ⟨nd, rfl⟩⟩))
     go_meet
     case rel => exact ⟨_, (!t630), (by first | rfl | (simp; done) | (simp [*]; done)), H', ⟨by first | omega | exact Nat.le_refl _⟩, ⟨by (with_reducible repeat (first | apply Kd.R_alloc | apply Kd.R_drewN | apply Kd.R_drew)); exact Kd.R_mono HO625.out (fun _ hk => trivial)⟩, ⟨by repeat (first | (with_reducible first | exact HB.out | apply below_alloc | apply pw_below_drewN | apply below_drew1) | exact HB.out)⟩⟩
  case rest =>
   clear HC8;(try clear c1);(try clear c2);(try clear p2);(try clear c3);(try clear c4);(try clear c8);(try clear c12);(try clear c12b0);(try clear c12b1);(try clear c12b2);(try clear c13)
   obtain ⟨kq, x66_7, rfl, HA, HJ7, HO_6, HB⟩ := hcut
   cases kq with
   | zero => exact absurd HA.out (by simp [laws_FnFactorsAndOrders.j0])
   | succ kj7 =>
    have H := HA.out
    clear HA
    simp only [laws_FnFactorsAndOrders.j0] at H
    by_cases c16 : x66_7 = true
    ·subst c16
     have H1 : (some false) = some r := by rw [if_pos rfl] at H; exact H
     clear H
     have H := H1
     clear H1
     as_aux_lemma =>
      obtain rfl := Option.some.inj H
      go_wp2
      go_ret
      exact ⟨by first | rfl | (simp [errW_none, errW_some] <;> rfl) | (simp [*, errW_none, errW_some] <;> rfl), by repeat (first | (with_reducible first | exact HB.out | apply below_alloc | apply pw_below_drewN | apply below_drew1) | exact HB.out)⟩
    ·replace c16 := Bool.eq_false_iff.mpr c16
     subst c16
     have H1 : (if t623 = true then (laws_FnFactorsAndOrders.l0 kj7 l1 t621 t622 1 t622 (t622.length : Int) 0) else (laws_FnFactorsAndOrders.j2 kj7 l1)) = some r := by rw [if_neg (show ¬ (false = true) by decide)] at H; exact H
     clear H
     have H := H1
     clear H1
     have HC17 := Aside0.mk H
     clear H
     go_upto_if 67 with (fail)
     go_cut [] (fun wc => ∃ (kq : Nat), Aside0 (laws_FnFactorsAndOrders.j2 kq l1 = some r) ∧ Aside0 (kq ≤ kj7) ∧ Aside0 (Below w.heap.size w wc))
     case first =>
      have H := HC17.out
      clear HC17
      by_cases c18 : t623 = true
      ·subst c18
       have H1 : (laws_FnFactorsAndOrders.l0 kj7 l1 t621 t622 1 t622 (t622.length : Int) 0) = some r := by rw [if_pos rfl] at H; exact H
       clear H
       have H := H1
       clear H1
       have H' := Aside0.mk H
       clear H
       obtain ⟨Ao19, co19, eo19⟩ := Kd.R_slice HO_6.out
       subst eo19
       go_wp2
       go_loopg [10, 70] kj7 (fun kq v10 v70 w' => ∃ (x10_2 : Int) (x70_2 : Int), v10 = .int .i64 x10_2 ∧ v70 = .int .i64 x70_2 ∧ Aside0 (laws_FnFactorsAndOrders.l0 kq l1 t621 t622 x10_2 t622 (t622.length : Int) x70_2 = some r) ∧ Aside0 (kq ≤ kj7) ∧ Aside0 (Kd.R (Kd.int .i64) 3 w' w.heap.size (fun _ => True) (.slice Ao19 t622.length co19) t622) ∧ Aside0 (Kd.R (Kd.int .i64) 3 w' w.heap.size (fun _ => True) (.slice Ao19 t622.length co19) t622) ∧ Aside0 (Below w.heap.size w w'))
       case atStart => exact ⟨(1), (0), (by first | rfl | (simp; done) | (simp [*]; done)), (by first | rfl | (simp; done) | (simp [*]; done)), H', ⟨Nat.le_refl _⟩, ⟨by (with_reducible repeat (first | apply Kd.R_alloc | apply Kd.R_drewN | apply Kd.R_drew)); exact HO_6.out⟩, ⟨by (with_reducible repeat (first | apply Kd.R_alloc | apply Kd.R_drewN | apply Kd.R_drew)); exact HO_6.out⟩, ⟨by repeat (first | (with_reducible first | exact HB.out | apply below_alloc | apply pw_below_drewN | apply below_drew1) | exact HB.out)⟩⟩
       case round =>
        clear H'
        (try clear c1);(try clear c2);(try clear p2);(try clear c3);(try clear c4);(try clear c8);(try clear c12);(try clear c12b0);(try clear c12b1);(try clear c12b2);(try clear c13);(try clear c16);(try clear c18);(try clear p2)
        obtain ⟨x10_2, x70_2, rfl, rfl, HA, HK2, HO_6, HO_68, HB⟩ := hrel
        cases gk with
        | zero => exact absurd HA.out (by simp [laws_FnFactorsAndOrders.l0])
        | succ k2 =>
         have H := HA.out
         clear HA
         simp only [laws_FnFactorsAndOrders.l0] at H
         by_cases c20 : x70_2 < (t622.length : Int)
         ·rw [if_pos c20] at H
          have c20b0 : decide (x70_2 < (t622.length : Int)) = true := decide_eq_true c20
          clear c20
          (first | rw [c20b0] | (simp only [i64_w, i32_w]; rw [c20b0]) | skip)
          by_cases c21 : 0 ≤ x70_2
          ·rw [if_pos c21] at H
           have c21b0 : decide (0 ≤ x70_2) = true := decide_eq_true c21
           clear c21
           by_cases c22 : x70_2 < (t622.length : Int)
           ·rw [if_pos c22] at H
            have c22b0 : decide (x70_2 < (t622.length : Int)) = true := decide_eq_true c22
            clear c22
            replace H := Option.bind_eq_some_iff.mp H
            obtain ⟨⟨t634, t635⟩, A230, H⟩ := H
            replace H : ((impl_TimesPoly.f k2 x10_2 (rd t622 x70_2)).bind fun bt636 => (if t635 = true then (if t634 = true then (if bt636.2 = true then (if x70_2 > 0 then (if 0 ≤ (wrap64 (x70_2 - 1)) then (if (wrap64 (x70_2 - 1)) < (t622.length : Int) then (if (rd t622 (wrap64 (x70_2 - 1))) > (rd t622 x70_2) then (some false) else (laws_FnFactorsAndOrders.l0 k2 l1 t621 t622 bt636.1 t622 (t622.length : Int) (wrap64 (x70_2 + 1)))) else (none)) else (none)) else (laws_FnFactorsAndOrders.l0 k2 l1 t621 t622 bt636.1 t622 (t622.length : Int) (wrap64 (x70_2 + 1)))) else (some false)) else (some false)) else (some false))) = some r := H
            have A23 := Aside0.mk A230
            clear A230
            replace H := Option.bind_eq_some_iff.mp H
            obtain ⟨⟨t636, t637⟩, A240, H⟩ := H
            replace H : (if t635 = true then (if t634 = true then (if t637 = true then (if x70_2 > 0 then (if 0 ≤ (wrap64 (x70_2 - 1)) then (if (wrap64 (x70_2 - 1)) < (t622.length : Int) then (if (rd t622 (wrap64 (x70_2 - 1))) > (rd t622 x70_2) then (some false) else (laws_FnFactorsAndOrders.l0 k2 l1 t621 t622 t636 t622 (t622.length : Int) (wrap64 (x70_2 + 1)))) else (none)) else (none)) else (laws_FnFactorsAndOrders.l0 k2 l1 t621 t622 t636 t622 (t622.length : Int) (wrap64 (x70_2 + 1)))) else (some false)) else (some false)) else (some false)) = some r := H
            have A24 := Aside0.mk A240
            clear A240
            by_cases c25 : t635 = true
            ·subst c25
             have H1 : (if t634 = true then (if t637 = true then (if x70_2 > 0 then (if 0 ≤ (wrap64 (x70_2 - 1)) then (if (wrap64 (x70_2 - 1)) < (t622.length : Int) then (if (rd t622 (wrap64 (x70_2 - 1))) > (rd t622 x70_2) then (some false) else (laws_FnFactorsAndOrders.l0 k2 l1 t621 t622 t636 t622 (t622.length : Int) (wrap64 (x70_2 + 1)))) else (none)) else (none)) else (laws_FnFactorsAndOrders.l0 k2 l1 t621 t622 t636 t622 (t622.length : Int) (wrap64 (x70_2 + 1)))) else (some false)) else (some false)) = some r := by rw [if_pos rfl] at H; exact H
             clear H
             have H := H1
             clear H1
             by_cases c26 : t634 = true
             ·subst c26
              have H1 : (if t637 = true then (if x70_2 > 0 then (if 0 ≤ (wrap64 (x70_2 - 1)) then (if (wrap64 (x70_2 - 1)) < (t622.length : Int) then (if (rd t622 (wrap64 (x70_2 - 1))) > (rd t622 x70_2) then (some false) else (laws_FnFactorsAndOrders.l0 k2 l1 t621 t622 t636 t622 (t622.length : Int) (wrap64 (x70_2 + 1)))) else (none)) else (none)) else (laws_FnFactorsAndOrders.l0 k2 l1 t621 t622 t636 t622 (t622.length : Int) (wrap64 (x70_2 + 1)))) else (some false)) = some r := by rw [if_pos rfl] at H; exact H
              clear H
              have H := H1
              clear H1
              by_cases c27 : t637 = true
              ·subst c27
               have H1 : (if x70_2 > 0 then (if 0 ≤ (wrap64 (x70_2 - 1)) then (if (wrap64 (x70_2 - 1)) < (t622.length : Int) then (if (rd t622 (wrap64 (x70_2 - 1))) > (rd t622 x70_2) then (some false) else (laws_FnFactorsAndOrders.l0 k2 l1 t621 t622 t636 t622 (t622.length : Int) (wrap64 (x70_2 + 1)))) else (none)) else (none)) else (laws_FnFactorsAndOrders.l0 k2 l1 t621 t622 t636 t622 (t622.length : Int) (wrap64 (x70_2 + 1)))) = some r := by rw [if_pos rfl] at H; exact H
               clear H
               have H := H1
               clear H1
               by_cases c28 : x70_2 > 0
               ·rw [if_pos c28] at H
                have c28b0 : decide (0 < x70_2) = true := decide_eq_true c28
                clear c28
                obtain ⟨ji29, hji29⟩ : ∃ j_ : Int, (wrap64 (x70_2 - 1)) = j_ := ⟨_, rfl⟩
                replace H : (if 0 ≤ (ji29) then (if (ji29) < (t622.length : Int) then (if (rd t622 (ji29)) > (rd t622 x70_2) then (some false) else (laws_FnFactorsAndOrders.l0 k2 l1 t621 t622 t636 t622 (t622.length : Int) (wrap64 (x70_2 + 1)))) else (none)) else (none)) = some r := by first | (rw [hji29] at H; exact H) | (simp only [hji29] at H ⊢; exact H)
                (try rw [hji29] at A23)
                (try rw [hji29] at A24)
                have hji29w : (IntKind.i64.wrap (x70_2 - 1)) = ji29 := (i64_w _).trans hji29
                by_cases c30 : 0 ≤ (ji29)
                ·rw [if_pos c30] at H
                 have c30b0 : decide (0 ≤ (ji29)) = true := decide_eq_true c30
                 clear c30
                 by_cases c31 : (ji29) < (t622.length : Int)
                 ·rw [if_pos c31] at H
                  have c31b0 : decide ((ji29) < (t622.length : Int)) = true := decide_eq_true c31
                  clear c31
                  by_cases c32 : (rd t622 (ji29)) > (rd t622 x70_2)
                  ·rw [if_pos c32] at H
                   have c32b0 : decide ((rd t622 x70_2) < (rd t622 (ji29))) = true := decide_eq_true c32
                   clear c32
                   as_aux_lemma =>
                    obtain rfl := Option.some.inj H
                    have p633 : 0 ≤ (x70_2 : Int) := of_decide_eq_true (by first | (with_reducible assumption) | assumption)
                    have q633 : x70_2 < (t622.length : Int) := of_decide_eq_true (by first | (with_reducible assumption) | assumption)
                    obtain ⟨ad633, e633, hx633_0⟩ := Kd.at_int (Kd.R_reads' HO_68.out).2.2 x70_2 p633 q633
                    cases e633
                    replace p633 := eq_true p633
                    replace q633 := eq_true q633
                    go_wp2_with (first | ((with_reducible refine gate_callee (f := 26) rfl ?_); refine goesL_ (some 77) rfl rfl Try.func26 (by kernel_rfl) rfl #[.int .i64 (rd t622 x70_2)] rfl (by (try simp only [List.map_toArray, List.map_cons, List.map_nil]); first | done | rfl | (simp only [List.length_drop, List.length_take]; rfl)) ?_; (with_reducible refine (impl_IsIrreducible.calls k2 (rd t622 x70_2) true true _ A23.out).mono ?_); rintro e w33 ⟨rfl, hb⟩; refine ⟨_, rfl, ?_⟩; have n0_ := Aside0.mk (Kd.R_below (by (with_reducible repeat (first | apply Kd.R_alloc | apply Kd.R_drewN | apply Kd.R_drew)); exact HO_6.out) hb); have n1_ := Aside0.mk (Kd.R_below (by (with_reducible repeat (first | apply Kd.R_alloc | apply Kd.R_drewN | apply Kd.R_drew)); exact HO_68.out) hb); have n2_ := Aside0.mk (below_step (by repeat (first | (with_reducible first | exact HB.out | apply below_alloc | apply pw_below_drewN | apply below_drew1) | exact HB.out)) hb); clear HO_6; clear HO_68; clear HB; have HO_6 := n0_; have HO_68 := n1_; have HB := n2_; clear n0_ n1_ n2_; (try clear hb); (try clear hb2); (try clear hk); (try clear hi)) | ((with_reducible refine gate_callee (f := 20) rfl ?_); refine goesL_ (some 83) rfl rfl Try.func20 (by kernel_rfl) rfl #[.int .i64 x10_2, .int .i64 (rd t622 x70_2)] rfl (by (try simp only [List.map_toArray, List.map_cons, List.map_nil]); first | done | rfl | (simp only [List.length_drop, List.length_take]; rfl)) ?_; (with_reducible refine (impl_TimesPoly.calls k2 x10_2 (rd t622 x70_2) t636 true _ A24.out).mono ?_); rintro e w34 ⟨rfl, hb⟩; refine ⟨_, rfl, ?_⟩; have n0_ := Aside0.mk (Kd.R_below (by (with_reducible repeat (first | apply Kd.R_alloc | apply Kd.R_drewN | apply Kd.R_drew)); exact HO_6.out) hb); have n1_ := Aside0.mk (Kd.R_below (by (with_reducible repeat (first | apply Kd.R_alloc | apply Kd.R_drewN | apply Kd.R_drew)); exact HO_68.out) hb); have n2_ := Aside0.mk (below_step (by repeat (first | (with_reducible first | exact HB.out | apply below_alloc | apply pw_below_drewN | apply below_drew1) | exact HB.out)) hb); clear HO_6; clear HO_68; clear HB; have HO_6 := n0_; have HO_68 := n1_; have HB := n2_; clear n0_ n1_ n2_; (try clear hb); (try clear hb2); (try clear hk); (try clear hi); have p638 : 0 ≤ ((ji29) : Int) := of_decide_eq_true (by first | (with_reducible assumption) | assumption); have q638 : (ji29) < (t622.length : Int) := of_decide_eq_true (by first | (with_reducible assumption) | assumption); obtain ⟨ad638, e638, hx638_0⟩ := Kd.at_int (Kd.R_reads' HO_6.out).2.2 (ji29) p638 q638; obtain rfl : ad633 = ad638 := (by injection e638); replace p638 := eq_true p638; replace q638 := eq_true q638))
                    go_ret
                    exact ⟨by first | rfl | (simp [errW_none, errW_some] <;> rfl) | (simp only [← hji29]; first | rfl | (simp [errW_none, errW_some] <;> rfl)) | (simp [*, errW_none, errW_some] <;> rfl), by repeat (first | (with_reducible first | exact HB.out | apply below_alloc | apply pw_below_drewN | apply below_drew1) | exact HB.out)⟩
                  ·rw [if_neg c32] at H
                   have c32b0 : decide ((rd t622 x70_2) < (rd t622 (ji29))) = false := decide_eq_false c32
                   clear c32
                   as_aux_lemma =>
                    have H' := Aside0.mk H
                    clear H
                    have p633 : 0 ≤ (x70_2 : Int) := of_decide_eq_true (by first | (with_reducible assumption) | assumption)
                    have q633 : x70_2 < (t622.length : Int) := of_decide_eq_true (by first | (with_reducible assumption) | assumption)
                    obtain ⟨ad633, e633, hx633_0⟩ := Kd.at_int (Kd.R_reads' HO_68.out).2.2 x70_2 p633 q633
                    cases e633
                    replace p633 := eq_true p633
                    replace q633 := eq_true q633
                    go_wp2_with (first | ((with_reducible refine gate_callee (f := 26) rfl ?_); refine goesL_ (some 77) rfl rfl Try.func26 (by kernel_rfl) rfl #[.int .i64 (rd t622 x70_2)] rfl (by (try simp only [List.map_toArray, List.map_cons, List.map_nil]); first | done | rfl | (simp only [List.length_drop, List.length_take]; rfl)) ?_; (with_reducible refine (impl_IsIrreducible.calls k2 (rd t622 x70_2) true true _ A23.out).mono ?_); rintro e w35 ⟨rfl, hb⟩; refine ⟨_, rfl, ?_⟩; have n0_ := Aside0.mk (Kd.R_below (by (with_reducible repeat (first | apply Kd.R_alloc | apply Kd.R_drewN | apply Kd.R_drew)); exact HO_6.out) hb); have n1_ := Aside0.mk (Kd.R_below (by (with_reducible repeat (first | apply Kd.R_alloc | apply Kd.R_drewN | apply Kd.R_drew)); exact HO_68.out) hb); have n2_ := Aside0.mk (below_step (by repeat (first | (with_reducible first | exact HB.out | apply below_alloc | apply pw_below_drewN | apply below_drew1) | exact HB.out)) hb); clear HO_6; clear HO_68; clear HB; have HO_6 := n0_; have HO_68 := n1_; have HB := n2_; clear n0_ n1_ n2_; (try clear hb); (try clear hb2); (try clear hk); (try clear hi)) | ((with_reducible refine gate_callee (f := 20) rfl ?_); refine goesL_ (some 83) rfl rfl Try.func20 (by kernel_rfl) rfl #[.int .i64 x10_2, .int .i64 (rd t622 x70_2)] rfl (by (try simp only [List.map_toArray, List.map_cons, List.map_nil]); first | done | rfl | (simp only [List.length_drop, List.length_take]; rfl)) ?_; (with_reducible refine (impl_TimesPoly.calls k2 x10_2 (rd t622 x70_2) t636 true _ A24.out).mono ?_); rintro e w36 ⟨rfl, hb⟩; refine ⟨_, rfl, ?_⟩; have n0_ := Aside0.mk (Kd.R_below (by (with_reducible repeat (first | apply Kd.R_alloc | apply Kd.R_drewN | apply Kd.R_drew)); exact HO_6.out) hb); have n1_ := Aside0.mk (Kd.R_below (by (with_reducible repeat (first | apply Kd.R_alloc | apply Kd.R_drewN | apply Kd.R_drew)); exact HO_68.out) hb); have n2_ := Aside0.mk (below_step (by repeat (first | (with_reducible first | exact HB.out | apply below_alloc | apply pw_below_drewN | apply below_drew1) | exact HB.out)) hb); clear HO_6; clear HO_68; clear HB; have HO_6 := n0_; have HO_68 := n1_; have HB := n2_; clear n0_ n1_ n2_; (try clear hb); (try clear hb2); (try clear hk); (try clear hi); have p638 : 0 ≤ ((ji29) : Int) := of_decide_eq_true (by first | (with_reducible assumption) | assumption); have q638 : (ji29) < (t622.length : Int) := of_decide_eq_true (by first | (with_reducible assumption) | assumption); obtain ⟨ad638, e638, hx638_0⟩ := Kd.at_int (Kd.R_reads' HO_6.out).2.2 (ji29) p638 q638; obtain rfl : ad633 = ad638 := (by injection e638); replace p638 := eq_true p638; replace q638 := eq_true q638))
                    go_roundg k2
                    case measure => have := HJ7.out; have := HK2.out; omega
                    case rel => exact ⟨(t636), (wrap64 (x70_2 + 1)), (by first | rfl | (simp; done) | (simp [*]; done)), (by first | rfl | (simp; done) | (simp [*]; done)), H', ⟨by have := HJ7.out; have := HK2.out; omega⟩, ⟨by (with_reducible repeat (first | apply Kd.R_alloc | apply Kd.R_drewN | apply Kd.R_drew)); exact HO_6.out⟩, ⟨by (with_reducible repeat (first | apply Kd.R_alloc | apply Kd.R_drewN | apply Kd.R_drew)); exact HO_68.out⟩, ⟨by repeat (first | (with_reducible first | exact HB.out | apply below_alloc | apply pw_below_drewN | apply below_drew1) | exact HB.out)⟩⟩
                 ·rw [if_neg c31] at H
                  exact absurd H (by simp)
                ·rw [if_neg c30] at H
                 exact absurd H (by simp)
               ·rw [if_neg c28] at H
                have c28b0 : decide (0 < x70_2) = false := decide_eq_false c28
                clear c28
                as_aux_lemma =>
                 have H' := Aside0.mk H
                 clear H
                 have p633 : 0 ≤ (x70_2 : Int) := of_decide_eq_true (by first | (with_reducible assumption) | assumption)
                 have q633 : x70_2 < (t622.length : Int) := of_decide_eq_true (by first | (with_reducible assumption) | assumption)
                 obtain ⟨ad633, e633, hx633_0⟩ := Kd.at_int (Kd.R_reads' HO_68.out).2.2 x70_2 p633 q633
                 cases e633
                 replace p633 := eq_true p633
                 replace q633 := eq_true q633
                 go_wp2_with (first | ((with_reducible refine gate_callee (f := 26) rfl ?_); refine goesL_ (some 77) rfl rfl Try.func26 (by kernel_rfl) rfl #[.int .i64 (rd t622 x70_2)] rfl (by (try simp only [List.map_toArray, List.map_cons, List.map_nil]); first | done | rfl | (simp only [List.length_drop, List.length_take]; rfl)) ?_; (with_reducible refine (impl_IsIrreducible.calls k2 (rd t622 x70_2) true true _ A23.out).mono ?_); rintro e w37 ⟨rfl, hb⟩; refine ⟨_, rfl, ?_⟩; have n0_ := Aside0.mk (Kd.R_below (by (with_reducible repeat (first | apply Kd.R_alloc | apply Kd.R_drewN | apply Kd.R_drew)); exact HO_6.out) hb); have n1_ := Aside0.mk (Kd.R_below (by (with_reducible repeat (first | apply Kd.R_alloc | apply Kd.R_drewN | apply Kd.R_drew)); exact HO_68.out) hb); have n2_ := Aside0.mk (below_step (by repeat (first | (with_reducible first | exact HB.out | apply below_alloc | apply pw_below_drewN | apply below_drew1) | exact HB.out)) hb); clear HO_6; clear HO_68; clear HB; have HO_6 := n0_; have HO_68 := n1_; have HB := n2_; clear n0_ n1_ n2_; (try clear hb); (try clear hb2); (try clear hk); (try clear hi)) | ((with_reducible refine gate_callee (f := 20) rfl ?_); refine goesL_ (some 83) rfl rfl Try.func20 (by kernel_rfl) rfl #[.int .i64 x10_2, .int .i64 (rd t622 x70_2)] rfl (by (try simp only [List.map_toArray, List.map_cons, List.map_nil]); first | done | rfl | (simp only [List.length_drop, List.length_take]; rfl)) ?_; (with_reducible refine (impl_TimesPoly.calls k2 x10_2 (rd t622 x70_2) t636 true _ A24.out).mono ?_); rintro e w38 ⟨rfl, hb⟩; refine ⟨_, rfl, ?_⟩; have n0_ := Aside0.mk (Kd.R_below (by (with_reducible repeat (first | apply Kd.R_alloc | apply Kd.R_drewN | apply Kd.R_drew)); exact HO_6.out) hb); have n1_ := Aside0.mk (Kd.R_below (by (with_reducible repeat (first | apply Kd.R_alloc | apply Kd.R_drewN | apply Kd.R_drew)); exact HO_68.out) hb); have n2_ := Aside0.mk (below_step (by repeat (first | (with_reducible first | exact HB.out | apply below_alloc | apply pw_below_drewN | apply below_drew1) | exact HB.out)) hb); clear HO_6; clear HO_68; clear HB; have HO_6 := n0_; have HO_68 := n1_; have HB := n2_; clear n0_ n1_ n2_; (try clear hb); (try clear hb2); (try clear hk); (try clear hi)))
                 go_roundg k2
                 case measure => have := HJ7.out; have := HK2.out; omega
                 case rel => exact ⟨(t636), (wrap64 (x70_2 + 1)), (by first | rfl | (simp; done) | (simp [*]; done)), (by first | rfl | (simp; done) | (simp [*]; done)), H', ⟨by have := HJ7.out; have := HK2.out; omega⟩, ⟨by (with_reducible repeat (first | apply Kd.R_alloc | apply Kd.R_drewN | apply Kd.R_drew)); exact HO_6.out⟩, ⟨by (with_reducible repeat (first | apply Kd.R_alloc | apply Kd.R_drewN | apply Kd.R_drew)); exact HO_68.out⟩, ⟨by repeat (first | (with_reducible first | exact HB.out | apply below_alloc | apply pw_below_drewN | apply below_drew1) | exact HB.out)⟩⟩
              ·replace c27 := Bool.eq_false_iff.mpr c27
               subst c27
               have H1 : (some false) = some r := by rw [if_neg (show ¬ (false = true) by decide)] at H; exact H
               clear H
               have H := H1
               clear H1
               as_aux_lemma =>
                obtain rfl := Option.some.inj H
                have p633 : 0 ≤ (x70_2 : Int) := of_decide_eq_true (by first | (with_reducible assumption) | assumption)
                have q633 : x70_2 < (t622.length : Int) := of_decide_eq_true (by first | (with_reducible assumption) | assumption)
                obtain ⟨ad633, e633, hx633_0⟩ := Kd.at_int (Kd.R_reads' HO_68.out).2.2 x70_2 p633 q633
                cases e633
                replace p633 := eq_true p633
                replace q633 := eq_true q633
                go_wp2_with (first | ((with_reducible refine gate_callee (f := 26) rfl ?_); refine goesL_ (some 77) rfl rfl Try.func26 (by kernel_rfl) rfl #[.int .i64 (rd t622 x70_2)] rfl (by (try simp only [List.map_toArray, List.map_cons, List.map_nil]); first | done | rfl | (simp only [List.length_drop, List.length_take]; rfl)) ?_; (with_reducible refine (impl_IsIrreducible.calls k2 (rd t622 x70_2) true true _ A23.out).mono ?_); rintro e w39 ⟨rfl, hb⟩; refine ⟨_, rfl, ?_⟩; have n0_ := Aside0.mk (Kd.R_below (by (with_reducible repeat (first | apply Kd.R_alloc | apply Kd.R_drewN | apply Kd.R_drew)); exact HO_6.out) hb); have n1_ := Aside0.mk (Kd.R_below (by (with_reducible repeat (first | apply Kd.R_alloc | apply Kd.R_drewN | apply Kd.R_drew)); exact HO_68.out) hb); have n2_ := Aside0.mk (below_step (by repeat (first | (with_reducible first | exact HB.out | apply below_alloc | apply pw_below_drewN | apply below_drew1) | exact HB.out)) hb); clear HO_6; clear HO_68; clear HB; have HO_6 := n0_; have HO_68 := n1_; have HB := n2_; clear n0_ n1_ n2_; (try clear hb); (try clear hb2); (try clear hk); (try clear hi)) | ((with_reducible refine gate_callee (f := 20) rfl ?_); refine goesL_ (some 83) rfl rfl Try.func20 (by kernel_rfl) rfl #[.int .i64 x10_2, .int .i64 (rd t622 x70_2)] rfl (by (try simp only [List.map_toArray, List.map_cons, List.map_nil]); first | done | rfl | (simp only [List.length_drop, List.length_take]; rfl)) ?_; (with_reducible refine (impl_TimesPoly.calls k2 x10_2 (rd t622 x70_2) t636 false _ A24.out).mono ?_); rintro e w40 ⟨rfl, hb⟩; refine ⟨_, rfl, ?_⟩; have n0_ := Aside0.mk (Kd.R_below (by (with_reducible repeat (first | apply Kd.R_alloc | apply Kd.R_drewN | apply Kd.R_drew)); exact HO_6.out) hb); have n1_ := Aside0.mk (Kd.R_below (by (with_reducible repeat (first | apply Kd.R_alloc | apply Kd.R_drewN | apply Kd.R_drew)); exact HO_68.out) hb); have n2_ := Aside0.mk (below_step (by repeat (first | (with_reducible first | exact HB.out | apply below_alloc | apply pw_below_drewN | apply below_drew1) | exact HB.out)) hb); clear HO_6; clear HO_68; clear HB; have HO_6 := n0_; have HO_68 := n1_; have HB := n2_; clear n0_ n1_ n2_; (try clear hb); (try clear hb2); (try clear hk); (try clear hi)))
                go_ret
                exact ⟨by first | rfl | (simp [errW_none, errW_some] <;> rfl) | (simp [*, errW_none, errW_some] <;> rfl), by repeat (first | (with_reducible first | exact HB.out | apply below_alloc | apply pw_below_drewN | apply below_drew1) | exact HB.out)⟩
             ·replace c26 := Bool.eq_false_iff.mpr c26
              subst c26
              have H1 : (some false) = some r := by rw [if_neg (show ¬ (false = true) by decide)] at H; exact H
              clear H
              have H := H1
              clear H1
              as_aux_lemma =>
               obtain rfl := Option.some.inj H
               have p633 : 0 ≤ (x70_2 : Int) := of_decide_eq_true (by first | (with_reducible assumption) | assumption)
               have q633 : x70_2 < (t622.length : Int) := of_decide_eq_true (by first | (with_reducible assumption) | assumption)
               obtain ⟨ad633, e633, hx633_0⟩ := Kd.at_int (Kd.R_reads' HO_68.out).2.2 x70_2 p633 q633
               cases e633
               replace p633 := eq_true p633
               replace q633 := eq_true q633
               go_wp2_with (first | ((with_reducible refine gate_callee (f := 26) rfl ?_); refine goesL_ (some 77) rfl rfl Try.func26 (by kernel_rfl) rfl #[.int .i64 (rd t622 x70_2)] rfl (by (try simp only [List.map_toArray, List.map_cons, List.map_nil]); first | done | rfl | (simp only [List.length_drop, List.length_take]; rfl)) ?_; (with_reducible refine (impl_IsIrreducible.calls k2 (rd t622 x70_2) false true _ A23.out).mono ?_); rintro e w41 ⟨rfl, hb⟩; refine ⟨_, rfl, ?_⟩; have n0_ := Aside0.mk (Kd.R_below (by (with_reducible repeat (first | apply Kd.R_alloc | apply Kd.R_drewN | apply Kd.R_drew)); exact HO_6.out) hb); have n1_ := Aside0.mk (Kd.R_below (by (with_reducible repeat (first | apply Kd.R_alloc | apply Kd.R_drewN | apply Kd.R_drew)); exact HO_68.out) hb); have n2_ := Aside0.mk (below_step (by repeat (first | (with_reducible first | exact HB.out | apply below_alloc | apply pw_below_drewN | apply below_drew1) | exact HB.out)) hb); clear HO_6; clear HO_68; clear HB; have HO_6 := n0_; have HO_68 := n1_; have HB := n2_; clear n0_ n1_ n2_; (try clear hb); (try clear hb2); (try clear hk); (try clear hi)) | ((with_reducible refine gate_callee (f := 20) rfl ?_); refine goesL_ (some 83) rfl rfl Try.func20 (by kernel_rfl) rfl #[.int .i64 x10_2, .int .i64 (rd t622 x70_2)] rfl (by (try simp only [List.map_toArray, List.map_cons, List.map_nil]); first | done | rfl | (simp only [List.length_drop, List.length_take]; rfl)) ?_; (with_reducible refine (impl_TimesPoly.calls k2 x10_2 (rd t622 x70_2) t636 t637 _ A24.out).mono ?_); rintro e w42 ⟨rfl, hb⟩; refine ⟨_, rfl, ?_⟩; have n0_ := Aside0.mk (Kd.R_below (by (with_reducible repeat (first | apply Kd.R_alloc | apply Kd.R_drewN | apply Kd.R_drew)); exact HO_6.out) hb); have n1_ := Aside0.mk (Kd.R_below (by (with_reducible repeat (first | apply Kd.R_alloc | apply Kd.R_drewN | apply Kd.R_drew)); exact HO_68.out) hb); have n2_ := Aside0.mk (below_step (by repeat (first | (with_reducible first | exact HB.out | apply below_alloc | apply pw_below_drewN | apply below_drew1) | exact HB.out)) hb); clear HO_6; clear HO_68; clear HB; have HO_6 := n0_; have HO_68 := n1_; have HB := n2_; clear n0_ n1_ n2_; (try clear hb); (try clear hb2); (try clear hk); (try clear hi)))
               go_ret
               exact ⟨by first | rfl | (simp [errW_none, errW_some] <;> rfl) | (simp [*, errW_none, errW_some] <;> rfl), by repeat (first | (with_reducible first | exact HB.out | apply below_alloc | apply pw_below_drewN | apply below_drew1) | exact HB.out)⟩
            ·replace c25 := Bool.eq_false_iff.mpr c25
             subst c25
             have H1 : (some false) = some r := by rw [if_neg (show ¬ (false = true) by decide)] at H; exact H
             clear H
             have H := H1
             clear H1
             as_aux_lemma =>
              obtain rfl := Option.some.inj H
              have p633 : 0 ≤ (x70_2 : Int) := of_decide_eq_true (by first | (with_reducible assumption) | assumption)
              have q633 : x70_2 < (t622.length : Int) := of_decide_eq_true (by first | (with_reducible assumption) | assumption)
              obtain ⟨ad633, e633, hx633_0⟩ := Kd.at_int (Kd.R_reads' HO_68.out).2.2 x70_2 p633 q633
              cases e633
              replace p633 := eq_true p633
              replace q633 := eq_true q633
              go_wp2_with (first | ((with_reducible refine gate_callee (f := 26) rfl ?_); refine goesL_ (some 77) rfl rfl Try.func26 (by kernel_rfl) rfl #[.int .i64 (rd t622 x70_2)] rfl (by (try simp only [List.map_toArray, List.map_cons, List.map_nil]); first | done | rfl | (simp only [List.length_drop, List.length_take]; rfl)) ?_; (with_reducible refine (impl_IsIrreducible.calls k2 (rd t622 x70_2) t634 false _ A23.out).mono ?_); rintro e w43 ⟨rfl, hb⟩; refine ⟨_, rfl, ?_⟩; have n0_ := Aside0.mk (Kd.R_below (by (with_reducible repeat (first | apply Kd.R_alloc | apply Kd.R_drewN | apply Kd.R_drew)); exact HO_6.out) hb); have n1_ := Aside0.mk (Kd.R_below (by (with_reducible repeat (first | apply Kd.R_alloc | apply Kd.R_drewN | apply Kd.R_drew)); exact HO_68.out) hb); have n2_ := Aside0.mk (below_step (by repeat (first | (with_reducible first | exact HB.out | apply below_alloc | apply pw_below_drewN | apply below_drew1) | exact HB.out)) hb); clear HO_6; clear HO_68; clear HB; have HO_6 := n0_; have HO_68 := n1_; have HB := n2_; clear n0_ n1_ n2_; (try clear hb); (try clear hb2); (try clear hk); (try clear hi)) | ((with_reducible refine gate_callee (f := 20) rfl ?_); refine goesL_ (some 83) rfl rfl Try.func20 (by kernel_rfl) rfl #[.int .i64 x10_2, .int .i64 (rd t622 x70_2)] rfl (by (try simp only [List.map_toArray, List.map_cons, List.map_nil]); first | done | rfl | (simp only [List.length_drop, List.length_take]; rfl)) ?_; (with_reducible refine (impl_TimesPoly.calls k2 x10_2 (rd t622 x70_2) t636 t637 _ A24.out).mono ?_); rintro e w44 ⟨rfl, hb⟩; refine ⟨_, rfl, ?_⟩; have n0_ := Aside0.mk (Kd.R_below (by (with_reducible repeat (first | apply Kd.R_alloc | apply Kd.R_drewN | apply Kd.R_drew)); exact HO_6.out) hb); have n1_ := Aside0.mk (Kd.R_below (by (with_reducible repeat (first | apply Kd.R_alloc | apply Kd.R_drewN | apply Kd.R_drew)); exact HO_68.out) hb); have n2_ := Aside0.mk (below_step (by repeat (first | (with_reducible first | exact HB.out | apply below_alloc | apply pw_below_drewN | apply below_drew1) | exact HB.out)) hb); clear HO_6; clear HO_68; clear HB; have HO_6 := n0_; have HO_68 := n1_; have HB := n2_; clear n0_ n1_ n2_; (try clear hb); (try clear hb2); (try clear hk); (try clear hi)))
              go_ret
              exact ⟨by first | rfl | (simp [errW_none, errW_some] <;> rfl) | (simp [*, errW_none, errW_some] <;> rfl), by repeat (first | (with_reducible first | exact HB.out | apply below_alloc | apply pw_below_drewN | apply below_drew1) | exact HB.out)⟩
           ·rw [if_neg c22] at H
            exact absurd H (by simp)
          ·rw [if_neg c21] at H
           exact absurd H (by simp)
         ·rw [if_neg c20] at H
          have c20b0 : decide (x70_2 < (t622.length : Int)) = false := decide_eq_false c20
          clear c20
          (first | rw [c20b0] | (simp only [i64_w, i32_w]; rw [c20b0]) | skip)
          replace H := Option.bind_eq_some_iff.mp H
          obtain ⟨⟨t631, t632⟩, A450, H⟩ := H
          replace H : (if x10_2 = t621 then (if t632 = true then (if (t631 != ((t622.length : Int) == 1)) = true then (some false) else (laws_FnFactorsAndOrders.j2 k2 l1)) else (some false)) else (some false)) = some r := H
          have A45 := Aside0.mk A450
          clear A450
          by_cases c46 : x10_2 = t621
          ·rw [if_pos c46] at H
           have c46b0 : (x10_2 == t621) = true := beq_iff_eq.mpr c46
           have c46b1 : (x10_2 != t621) = false := bne_eq_false_iff_eq.mpr c46
           clear c46
           by_cases c47 : t632 = true
           ·subst c47
            have H1 : (if (t631 != ((t622.length : Int) == 1)) = true then (some false) else (laws_FnFactorsAndOrders.j2 k2 l1)) = some r := by rw [if_pos rfl] at H; exact H
            clear H
            have H := H1
            clear H1
            by_cases c48 : (t631 != ((t622.length : Int) == 1)) = true
            ·rw [if_pos c48] at H
             have c48b0 : (t631 != ((t622.length : Int) == 1)) = true := c48
             (try (have c48b1 : decide (t631 = ((t622.length : Int) == 1)) = false := by simpa using c48))
             (try (have c48b2 : (t631 == ((t622.length : Int) == 1)) = false := by simpa using c48))
             (try (have c48b3 : ¬ (t631 = ((t622.length : Int) == 1)) := by simpa using c48))
             clear c48
             as_aux_lemma =>
              obtain rfl := Option.some.inj H
              go_wp2_with (first | ((with_reducible refine gate_callee (f := 26) rfl ?_); refine goesL_ (some 113) rfl rfl Try.func26 (by kernel_rfl) rfl #[.int .i64 t621] rfl (by (try simp only [List.map_toArray, List.map_cons, List.map_nil]); first | done | rfl | (simp only [List.length_drop, List.length_take]; rfl)) ?_; (with_reducible refine (impl_IsIrreducible.calls k2 t621 t631 true _ A45.out).mono ?_); rintro e w49 ⟨rfl, hb⟩; refine ⟨_, rfl, ?_⟩; have n0_ := Aside0.mk (Kd.R_below (by (with_reducible repeat (first | apply Kd.R_alloc | apply Kd.R_drewN | apply Kd.R_drew)); exact HO_6.out) hb); have n1_ := Aside0.mk (Kd.R_below (by (with_reducible repeat (first | apply Kd.R_alloc | apply Kd.R_drewN | apply Kd.R_drew)); exact HO_68.out) hb); have n2_ := Aside0.mk (below_step (by repeat (first | (with_reducible first | exact HB.out | apply below_alloc | apply pw_below_drewN | apply below_drew1) | exact HB.out)) hb); clear HO_6; clear HO_68; clear HB; have HO_6 := n0_; have HO_68 := n1_; have HB := n2_; clear n0_ n1_ n2_; (try clear hb); (try clear hb2); (try clear hk); (try clear hi)))
              go_ret
              exact ⟨by first | rfl | (simp [errW_none, errW_some] <;> rfl) | (simp [*, errW_none, errW_some] <;> rfl), by repeat (first | (with_reducible first | exact HB.out | apply below_alloc | apply pw_below_drewN | apply below_drew1) | exact HB.out)⟩
            ·rw [if_neg c48] at H
             have c48b0 : (t631 != ((t622.length : Int) == 1)) = false := by simpa using c48
             (try (have c48b1 : decide (t631 = ((t622.length : Int) == 1)) = true := by simpa using c48))
             (try (have c48b2 : (t631 == ((t622.length : Int) == 1)) = true := by simpa using c48))
             clear c48
             as_aux_lemma =>
              have H' := Aside0.mk H
              clear H
              go_wp2_with (first | ((with_reducible refine gate_callee (f := 26) rfl ?_); refine goesL_ (some 113) rfl rfl Try.func26 (by kernel_rfl) rfl #[.int .i64 t621] rfl (by (try simp only [List.map_toArray, List.map_cons, List.map_nil]); first | done | rfl | (simp only [List.length_drop, List.length_take]; rfl)) ?_; (with_reducible refine (impl_IsIrreducible.calls k2 t621 t631 true _ A45.out).mono ?_); rintro e w50 ⟨rfl, hb⟩; refine ⟨_, rfl, ?_⟩; have n0_ := Aside0.mk (Kd.R_below (by (with_reducible repeat (first | apply Kd.R_alloc | apply Kd.R_drewN | apply Kd.R_drew)); exact HO_6.out) hb); have n1_ := Aside0.mk (Kd.R_below (by (with_reducible repeat (first | apply Kd.R_alloc | apply Kd.R_drewN | apply Kd.R_drew)); exact HO_68.out) hb); have n2_ := Aside0.mk (below_step (by repeat (first | (with_reducible first | exact HB.out | apply below_alloc | apply pw_below_drewN | apply below_drew1) | exact HB.out)) hb); clear HO_6; clear HO_68; clear HB; have HO_6 := n0_; have HO_68 := n1_; have HB := n2_; clear n0_ n1_ n2_; (try clear hb); (try clear hb2); (try clear hk); (try clear hi)))
              go_meet
              case rel => exact ⟨_, H', ⟨by have := HJ7.out; have := HK2.out; first | omega | exact Nat.le_refl _⟩, ⟨by repeat (first | (with_reducible first | exact HB.out | apply below_alloc | apply pw_below_drewN | apply below_drew1) | exact HB.out)⟩⟩
           ·replace c47 := Bool.eq_false_iff.mpr c47
            subst c47
            have H1 : (some false) = some r := by rw [if_neg (show ¬ (false = true) by decide)] at H; exact H
            clear H
            have H := H1
            clear H1
            as_aux_lemma =>
             obtain rfl := Option.some.inj H
             go_wp2_with (first | ((with_reducible refine gate_callee (f := 26) rfl ?_); refine goesL_ (some 113) rfl rfl Try.func26 (by kernel_rfl) rfl #[.int .i64 t621] rfl (by (try simp only [List.map_toArray, List.map_cons, List.map_nil]); first | done | rfl | (simp only [List.length_drop, List.length_take]; rfl)) ?_; (with_reducible refine (impl_IsIrreducible.calls k2 t621 t631 false _ A45.out).mono ?_); rintro e w51 ⟨rfl, hb⟩; refine ⟨_, rfl, ?_⟩; have n0_ := Aside0.mk (Kd.R_below (by (with_reducible repeat (first | apply Kd.R_alloc | apply Kd.R_drewN | apply Kd.R_drew)); exact HO_6.out) hb); have n1_ := Aside0.mk (Kd.R_below (by (with_reducible repeat (first | apply Kd.R_alloc | apply Kd.R_drewN | apply Kd.R_drew)); exact HO_68.out) hb); have n2_ := Aside0.mk (below_step (by repeat (first | (with_reducible first | exact HB.out | apply below_alloc | apply pw_below_drewN | apply below_drew1) | exact HB.out)) hb); clear HO_6; clear HO_68; clear HB; have HO_6 := n0_; have HO_68 := n1_; have HB := n2_; clear n0_ n1_ n2_; (try clear hb); (try clear hb2); (try clear hk); (try clear hi)))
             go_ret
             exact ⟨by first | rfl | (simp [errW_none, errW_some] <;> rfl) | (simp [*, errW_none, errW_some] <;> rfl), by repeat (first | (with_reducible first | exact HB.out | apply below_alloc | apply pw_below_drewN | apply below_drew1) | exact HB.out)⟩
          ·rw [if_neg c46] at H
           have c46b0 : (x10_2 == t621) = false := beq_eq_false_iff_ne.mpr c46
           have c46b1 : (x10_2 != t621) = true := bne_iff_ne.mpr c46
           as_aux_lemma =>
            obtain rfl := Option.some.inj H
            go_wp2_with (first | ((with_reducible refine gate_callee (f := 26) rfl ?_); refine goesL_ (some 113) rfl rfl Try.func26 (by kernel_rfl) rfl #[.int .i64 t621] rfl (by (try simp only [List.map_toArray, List.map_cons, List.map_nil]); first | done | rfl | (simp only [List.length_drop, List.length_take]; rfl)) ?_; (with_reducible refine (impl_IsIrreducible.calls k2 t621 t631 t632 _ A45.out).mono ?_); rintro e w52 ⟨rfl, hb⟩; refine ⟨_, rfl, ?_⟩; have n0_ := Aside0.mk (Kd.R_below (by (with_reducible repeat (first | apply Kd.R_alloc | apply Kd.R_drewN | apply Kd.R_drew)); exact HO_6.out) hb); have n1_ := Aside0.mk (Kd.R_below (by (with_reducible repeat (first | apply Kd.R_alloc | apply Kd.R_drewN | apply Kd.R_drew)); exact HO_68.out) hb); have n2_ := Aside0.mk (below_step (by repeat (first | (with_reducible first | exact HB.out | apply below_alloc | apply pw_below_drewN | apply below_drew1) | exact HB.out)) hb); clear HO_6; clear HO_68; clear HB; have HO_6 := n0_; have HO_68 := n1_; have HB := n2_; clear n0_ n1_ n2_; (try clear hb); (try clear hb2); (try clear hk); (try clear hi)))
            go_ret
            exact ⟨by first | rfl | (simp [errW_none, errW_some] <;> rfl) | (simp [*, errW_none, errW_some] <;> rfl), by repeat (first | (with_reducible first | exact HB.out | apply below_alloc | apply pw_below_drewN | apply below_drew1) | exact HB.out)⟩
      ·replace c18 := Bool.eq_false_iff.mpr c18
       subst c18
       have H1 : (laws_FnFactorsAndOrders.j2 kj7 l1) = some r := by rw [if_neg (show ¬ (false = true) by decide)] at H; exact H
       clear H
       have H := H1
       clear H1
       as_aux_lemma =>
        have H' := Aside0.mk H
        clear H
        go_wp2
        go_meet
        case rel => exact ⟨_, H', ⟨by have := HJ7.out; first | omega | exact Nat.le_refl _⟩, ⟨by repeat (first | (with_reducible first | exact HB.out | apply below_alloc | apply pw_below_drewN | apply below_drew1) | exact HB.out)⟩⟩
     case rest =>
      clear HC17;(try clear c1);(try clear c2);(try clear p2);(try clear c3);(try clear c4);(try clear p6);(try clear q6);(try clear hx6);(try clear c8);(try clear c12);(try clear c12b0);(try clear c12b1);(try clear c12b2);(try clear c13);(try clear c16);(try clear c18);(try clear c20);(try clear c20b0);(try clear c21);(try clear c21b0);(try clear c22);(try clear c22b0);(try clear c25);(try clear c26);(try clear c27);(try clear c28);(try clear c28b0);(try clear c30);(try clear c30b0);(try clear c31);(try clear c31b0);(try clear c32);(try clear c32b0);(try clear c46);(try clear c46b0);(try clear c46b1);(try clear c47);(try clear c48);(try clear c48b0);(try clear c48b1);(try clear c48b2);(try clear hx633_0);(try clear hx638_0);(try clear p2);(try clear p633);(try clear p638);(try clear q633);(try clear q638)
      obtain ⟨kq, HA, HJ16, HB⟩ := hcut
      cases kq with
      | zero => exact absurd HA.out (by simp [laws_FnFactorsAndOrders.j2])
      | succ kj16 =>
       have H := HA.out
       clear HA
       simp only [laws_FnFactorsAndOrders.j2] at H
       replace H := Option.bind_eq_some_iff.mp H
       obtain ⟨t639, A530, H⟩ := H
       replace H : ((impl_OrderOfPoly.f kj16 t639).bind fun bt640 => ((spec_OrderOfPoly.f kj16 t639).bind fun bt642 => (if (bt640.2 != bt642.2) = true then (laws_FnFactorsAndOrders.j3 kj16 l1 t639 bt640.1 bt640.2 true) else (laws_FnFactorsAndOrders.j3 kj16 l1 t639 bt640.1 bt640.2 (bt640.1 != bt642.1))))) = some r := H
       have A53 := Aside0.mk A530
       clear A530
       replace H := Option.bind_eq_some_iff.mp H
       obtain ⟨⟨t640, t641⟩, A540, H⟩ := H
       replace H : ((spec_OrderOfPoly.f kj16 t639).bind fun bt642 => (if (t641 != bt642.2) = true then (laws_FnFactorsAndOrders.j3 kj16 l1 t639 t640 t641 true) else (laws_FnFactorsAndOrders.j3 kj16 l1 t639 t640 t641 (t640 != bt642.1)))) = some r := H
       have A54 := Aside0.mk A540
       clear A540
       replace H := Option.bind_eq_some_iff.mp H
       obtain ⟨⟨t642, t643⟩, A550, H⟩ := H
       replace H : (if (t641 != t643) = true then (laws_FnFactorsAndOrders.j3 kj16 l1 t639 t640 t641 true) else (laws_FnFactorsAndOrders.j3 kj16 l1 t639 t640 t641 (t640 != t642))) = some r := H
       have A55 := Aside0.mk A550
       clear A550
       have HC56 := Aside0.mk H
       clear H
       go_upto_region 25 with (first | ((with_reducible refine gate_callee (f := 34) rfl ?_); refine goesL_ (some 131) rfl rfl Try.func34 (by kernel_rfl) rfl #[.slice A1 l1.length c1] rfl (by (try simp only [List.map_toArray, List.map_cons, List.map_nil]); first | done | rfl | (simp only [List.length_drop, List.length_take]; rfl)) ?_; (with_reducible refine (spec_DrawOrderOfPoly.calls kj16 _ _ l1 t639 _ ?side1 ?side2 A53.out).mono ?_); (case side1 => repeat (first | exact (Kd.C_below HR1.out HB.out) | (with_reducible refine Kd.C_alloc ?_ _) | (with_reducible refine Kd.C_drewN ?_ _) | (with_reducible refine Kd.C_drew ?_))); (case side2 => exact HC1.out); rintro e w57 ⟨rfl, hb⟩; refine ⟨_, rfl, ?_⟩; have n0_ := Aside0.mk (below_step (by repeat (first | (with_reducible first | exact HB.out | apply below_alloc | apply pw_below_drewN | apply below_drew1) | exact HB.out)) hb); clear HB; have HB := n0_; clear n0_; (try clear hb); (try clear hb2); (try clear hk); (try clear hi)) | ((with_reducible refine gate_callee (f := 35) rfl ?_); refine goesL_ (some 134) rfl rfl Try.func35 (by kernel_rfl) rfl #[.int .i64 t639] rfl (by (try simp only [List.map_toArray, List.map_cons, List.map_nil]); first | done | rfl | (simp only [List.length_drop, List.length_take]; rfl)) ?_; (with_reducible refine (impl_OrderOfPoly.calls kj16 t639 t640 t641 _ A54.out).mono ?_); rintro e w58 ⟨rfl, hb⟩; refine ⟨_, rfl, ?_⟩; have n0_ := Aside0.mk (below_step (by repeat (first | (with_reducible first | exact HB.out | apply below_alloc | apply pw_below_drewN | apply below_drew1) | exact HB.out)) hb); clear HB; have HB := n0_; clear n0_; (try clear hb); (try clear hb2); (try clear hk); (try clear hi)) | ((with_reducible refine gate_callee (f := 36) rfl ?_); refine goesL_ (some 139) rfl rfl Try.func36 (by kernel_rfl) rfl #[.int .i64 t639] rfl (by (try simp only [List.map_toArray, List.map_cons, List.map_nil]); first | done | rfl | (simp only [List.length_drop, List.length_take]; rfl)) ?_; (with_reducible refine (spec_OrderOfPoly.calls kj16 t639 t642 t643 _ A55.out).mono ?_); rintro e w' ⟨rfl, ⟨nd, rfl⟩⟩; refine ⟨_, rfl, ?_⟩))
       (try simp only [Act.put, List.setIfInBounds_toArray, List.set_cons_zero, List.set_cons_succ])
       go_cut [149] (fun v149 wc => ∃ (kq : Nat) (x149_55 : Bool), v149 = .bool x149_55 ∧ Aside0 (laws_FnFactorsAndOrders.j3 kq l1 t639 t640 t641 x149_55 = some r) ∧ Aside0 (kq ≤ kj16) ∧ Aside0 (Below w.heap.size w wc))
       case first =>
        have H := HC56.out
        clear HC56
        by_cases c59 : (t641 != t643) = true
        ·rw [if_pos c59] at H
         have c59b0 : (t641 != t643) = true := c59
         (try (have c59b1 : decide (t641 = t643) = false := by simpa using c59))
         (try (have c59b2 : (t641 == t643) = false := by simpa using c59))
         (try (have c59b3 : ¬ (t641 = t643) := by simpa using c59))
         clear c59
         (first | rw [c59b0] | (simp only [i64_w, i32_w]; rw [c59b0]) | skip)
         as_aux_lemma =>
          have H' := Aside0.mk H
          clear H
          go_wp2
          go_meet
          case rel => exact ⟨_, (true), (by first | rfl | (simp; done) | (simp [*]; done)), H', ⟨by have := HJ7.out; have := HJ16.out; first | omega | exact Nat.le_refl _⟩, ⟨by repeat (first | (with_reducible first | exact HB.out | apply below_alloc | apply pw_below_drewN | apply below_drew1) | exact HB.out)⟩⟩
        ·rw [if_neg c59] at H
         have c59b0 : (t641 != t643) = false := by simpa using c59
         (try (have c59b1 : decide (t641 = t643) = true := by simpa using c59))
         (try (have c59b2 : (t641 == t643) = true := by simpa using c59))
         clear c59
         (first | rw [c59b0] | (simp only [i64_w, i32_w]; rw [c59b0]) | skip)
         as_aux_lemma =>
          have H' := Aside0.mk H
          clear H
          go_wp2
          go_meet
          case rel => exact ⟨_, ((t640 != t642)), (by first | rfl | (simp; done) | (simp [*]; done)), H', ⟨by have := HJ7.out; have := HJ16.out; first | omega | exact Nat.le_refl _⟩, ⟨by repeat (first | (with_reducible first | exact HB.out | apply below_alloc | apply pw_below_drewN | apply below_drew1) | exact HB.out)⟩⟩
       case rest =>
        clear HC56;(try clear c1);(try clear c2);(try clear p2);(try clear c3);(try clear c4);(try clear c5);(try clear p6);(try clear q6);(try clear hx6);(try clear c8);(try clear c12);(try clear c12b0);(try clear c12b1);(try clear c12b2);(try clear c13);(try clear c16);(try clear c18);(try clear c20);(try clear c20b0);(try clear c21);(try clear c21b0);(try clear c22);(try clear c22b0);(try clear c25);(try clear c26);(try clear c27);(try clear c28);(try clear c28b0);(try clear c30);(try clear c30b0);(try clear c31);(try clear c31b0);(try clear c32);(try clear c32b0);(try clear c34);(try clear c35);(try clear c36);(try clear c46);(try clear c46b0);(try clear c46b1);(try clear c47);(try clear c48);(try clear c48b0);(try clear c48b1);(try clear c48b2);(try clear c59);(try clear c59b0);(try clear c59b1);(try clear c59b2);(try clear hx633_0);(try clear hx638_0);(try clear p2);(try clear p6);(try clear p633);(try clear p638);(try clear q6);(try clear q633);(try clear q638)
        obtain ⟨kq, x149_55, rfl, HA, HJ55, HB⟩ := hcut
        cases kq with
        | zero => exact absurd HA.out (by simp [laws_FnFactorsAndOrders.j3])
        | succ kj55 =>
         have H := HA.out
         clear HA
         simp only [laws_FnFactorsAndOrders.j3] at H
         by_cases c60 : x149_55 = true
         ·subst c60
          have H1 : (some false) = some r := by rw [if_pos rfl] at H; exact H
          clear H
          have H := H1
          clear H1
          as_aux_lemma =>
           obtain rfl := Option.some.inj H
           go_wp2
           go_ret
           exact ⟨by first | rfl | (simp [errW_none, errW_some] <;> rfl) | (simp [*, errW_none, errW_some] <;> rfl), by repeat (first | (with_reducible first | exact HB.out | apply below_alloc | apply pw_below_drewN | apply below_drew1) | exact HB.out)⟩
         ·replace c60 := Bool.eq_false_iff.mpr c60
          subst c60
          have H1 : (if t641 = true then ((impl_PowerModulo.f kj55 1 1 t639).bind fun bt644 => ((impl_PowerModulo.f kj55 2 t640 t639).bind fun bt646 => (if bt644.2 = true then (if bt646.2 = true then (laws_FnFactorsAndOrders.j4 kj55 l1 t639 t640 bt644.1 (bt646.1 != bt644.1)) else (laws_FnFactorsAndOrders.j4 kj55 l1 t639 t640 bt644.1 true)) else (laws_FnFactorsAndOrders.j4 kj55 l1 t639 t640 bt644.1 true)))) else (laws_FnFactorsAndOrders.j6 kj55 l1)) = some r := by rw [if_neg (show ¬ (false = true) by decide)] at H; exact H
          clear H
          have H := H1
          clear H1
          have HC61 := Aside0.mk H
          clear H
          go_upto_if 150 with (fail)
          go_cut [] (fun wc => ∃ (kq : Nat), Aside0 (laws_FnFactorsAndOrders.j6 kq l1 = some r) ∧ Aside0 (kq ≤ kj55) ∧ Aside0 (Below w.heap.size w wc))
          case first =>
           have H := HC61.out
           clear HC61
           by_cases c62 : t641 = true
           ·subst c62
            have H1 : ((impl_PowerModulo.f kj55 1 1 t639).bind fun bt644 => ((impl_PowerModulo.f kj55 2 t640 t639).bind fun bt646 => (if bt644.2 = true then (if bt646.2 = true then (laws_FnFactorsAndOrders.j4 kj55 l1 t639 t640 bt644.1 (bt646.1 != bt644.1)) else (laws_FnFactorsAndOrders.j4 kj55 l1 t639 t640 bt644.1 true)) else (laws_FnFactorsAndOrders.j4 kj55 l1 t639 t640 bt644.1 true)))) = some r := by rw [if_pos rfl] at H; exact H
            clear H
            have H := H1
            clear H1
            replace H := Option.bind_eq_some_iff.mp H
            obtain ⟨⟨t644, t645⟩, A630, H⟩ := H
            replace H : ((impl_PowerModulo.f kj55 2 t640 t639).bind fun bt646 => (if t645 = true then (if bt646.2 = true then (laws_FnFactorsAndOrders.j4 kj55 l1 t639 t640 t644 (bt646.1 != t644)) else (laws_FnFactorsAndOrders.j4 kj55 l1 t639 t640 t644 true)) else (laws_FnFactorsAndOrders.j4 kj55 l1 t639 t640 t644 true))) = some r := H
            have A63 := Aside0.mk A630
            clear A630
            replace H := Option.bind_eq_some_iff.mp H
            obtain ⟨⟨t646, t647⟩, A640, H⟩ := H
            replace H : (if t645 = true then (if t647 = true then (laws_FnFactorsAndOrders.j4 kj55 l1 t639 t640 t644 (t646 != t644)) else (laws_FnFactorsAndOrders.j4 kj55 l1 t639 t640 t644 true)) else (laws_FnFactorsAndOrders.j4 kj55 l1 t639 t640 t644 true)) = some r := H
            have A64 := Aside0.mk A640
            clear A640
            have HC65 := Aside0.mk H
            clear H
            go_upto_region 30 with (first | ((with_reducible refine gate_callee (f := 12) rfl ?_); refine goesL_ (some 153) rfl rfl Try.func12 (by kernel_rfl) rfl #[.int .i64 1, .int .i64 1, .int .i64 t639] rfl (by (try simp only [List.map_toArray, List.map_cons, List.map_nil]); first | done | rfl | (simp only [List.length_drop, List.length_take]; rfl)) ?_; (with_reducible refine (impl_PowerModulo.calls kj55 1 1 t639 t644 t645 _ A63.out).mono ?_); rintro e w66 ⟨rfl, hb⟩; refine ⟨_, rfl, ?_⟩; have n0_ := Aside0.mk (below_step (by repeat (first | (with_reducible first | exact HB.out | apply below_alloc | apply pw_below_drewN | apply below_drew1) | exact HB.out)) hb); clear HB; have HB := n0_; clear n0_; (try clear hb); (try clear hb2); (try clear hk); (try clear hi)) | ((with_reducible refine gate_callee (f := 12) rfl ?_); refine goesL_ (some 159) rfl rfl Try.func12 (by kernel_rfl) rfl #[.int .i64 2, .int .i64 t640, .int .i64 t639] rfl (by (try simp only [List.map_toArray, List.map_cons, List.map_nil]); first | done | rfl | (simp only [List.length_drop, List.length_take]; rfl)) ?_; (with_reducible refine (impl_PowerModulo.calls kj55 2 t640 t639 t646 t647 _ A64.out).mono ?_); rintro e w67 ⟨rfl, hb⟩; refine ⟨_, rfl, ?_⟩; have n0_ := Aside0.mk (below_step (by repeat (first | (with_reducible first | exact HB.out | apply below_alloc | apply pw_below_drewN | apply below_drew1) | exact HB.out)) hb); clear HB; have HB := n0_; clear n0_; (try clear hb); (try clear hb2); (try clear hk); (try clear hi)))
            (try simp only [Act.put, List.setIfInBounds_toArray, List.set_cons_zero, List.set_cons_succ])
            go_cut [172] (fun v172 wc => ∃ (kq : Nat) (x172_64 : Bool), v172 = .bool x172_64 ∧ Aside0 (laws_FnFactorsAndOrders.j4 kq l1 t639 t640 t644 x172_64 = some r) ∧ Aside0 (kq ≤ kj55) ∧ Aside0 (Below w.heap.size w wc))
            case first =>
             have H := HC65.out
             clear HC65
             by_cases c68 : t645 = true
             ·subst c68
              have H1 : (if t647 = true then (laws_FnFactorsAndOrders.j4 kj55 l1 t639 t640 t644 (t646 != t644)) else (laws_FnFactorsAndOrders.j4 kj55 l1 t639 t640 t644 true)) = some r := by rw [if_pos rfl] at H; exact H
              clear H
              have H := H1
              clear H1
              by_cases c69 : t647 = true
              ·subst c69
               have H1 : (laws_FnFactorsAndOrders.j4 kj55 l1 t639 t640 t644 (t646 != t644)) = some r := by rw [if_pos rfl] at H; exact H
               clear H
               have H := H1
               clear H1
               as_aux_lemma =>
                have H' := Aside0.mk H
                clear H
                go_wp2
                go_meet
                case rel => exact ⟨_, ((t646 != t644)), (by first | rfl | (simp; done) | (simp [*]; done)), H', ⟨by have := HJ7.out; have := HJ16.out; have := HJ55.out; first | omega | exact Nat.le_refl _⟩, ⟨by repeat (first | (with_reducible first | exact HB.out | apply below_alloc | apply pw_below_drewN | apply below_drew1) | exact HB.out)⟩⟩
              ·replace c69 := Bool.eq_false_iff.mpr c69
               subst c69
               have H1 : (laws_FnFactorsAndOrders.j4 kj55 l1 t639 t640 t644 true) = some r := by rw [if_neg (show ¬ (false = true) by decide)] at H; exact H
               clear H
               have H := H1
               clear H1
               as_aux_lemma =>
                have H' := Aside0.mk H
                clear H
                go_wp2
                go_meet
                case rel => exact ⟨_, (true), (by first | rfl | (simp; done) | (simp [*]; done)), H', ⟨by have := HJ7.out; have := HJ16.out; have := HJ55.out; first | omega | exact Nat.le_refl _⟩, ⟨by repeat (first | (with_reducible first | exact HB.out | apply below_alloc | apply pw_below_drewN | apply below_drew1) | exact HB.out)⟩⟩
             ·replace c68 := Bool.eq_false_iff.mpr c68
              subst c68
              have H1 : (laws_FnFactorsAndOrders.j4 kj55 l1 t639 t640 t644 true) = some r := by rw [if_neg (show ¬ (false = true) by decide)] at H; exact H
              clear H
              have H := H1
              clear H1
              as_aux_lemma =>
               have H' := Aside0.mk H
               clear H
               go_wp2
               go_meet
               case rel => exact ⟨_, (true), (by first | rfl | (simp; done) | (simp [*]; done)), H', ⟨by have := HJ7.out; have := HJ16.out; have := HJ55.out; first | omega | exact Nat.le_refl _⟩, ⟨by repeat (first | (with_reducible first | exact HB.out | apply below_alloc | apply pw_below_drewN | apply below_drew1) | exact HB.out)⟩⟩
            case rest =>
             clear HC65;(try clear c1);(try clear c2);(try clear p2);(try clear c3);(try clear c4);(try clear c5);(try clear c6);(try clear p6);(try clear q6);(try clear hx6);(try clear c8);(try clear c12);(try clear c12b0);(try clear c12b1);(try clear c12b2);(try clear c13);(try clear c16);(try clear c18);(try clear c20);(try clear c20b0);(try clear c21);(try clear c21b0);(try clear c22);(try clear c22b0);(try clear c25);(try clear c26);(try clear c27);(try clear c28);(try clear c28b0);(try clear c30);(try clear c30b0);(try clear c31);(try clear c31b0);(try clear c32);(try clear c32b0);(try clear c34);(try clear c35);(try clear c36);(try clear c46);(try clear c46b0);(try clear c46b1);(try clear c47);(try clear c48);(try clear c48b0);(try clear c48b1);(try clear c48b2);(try clear c59);(try clear c59b0);(try clear c59b1);(try clear c59b2);(try clear c60);(try clear c62);(try clear p63);(try clear q63);(try clear hx63);(try clear p64);(try clear c68);(try clear c69);(try clear hx633_0);(try clear hx638_0);(try clear p2);(try clear p6);(try clear p633);(try clear p638);(try clear q6);(try clear q633);(try clear q638)
             obtain ⟨kq, x172_64, rfl, HA, HJ64, HB⟩ := hcut
             cases kq with
             | zero => exact absurd HA.out (by simp [laws_FnFactorsAndOrders.j4])
             | succ kj64 =>
              have H := HA.out
              clear HA
              simp only [laws_FnFactorsAndOrders.j4] at H
              by_cases c70 : x172_64 = true
              ·subst c70
               have H1 : (some false) = some r := by rw [if_pos rfl] at H; exact H
               clear H
               have H := H1
               clear H1
               as_aux_lemma =>
                obtain rfl := Option.some.inj H
                go_wp2
                go_ret
                exact ⟨by first | rfl | (simp [errW_none, errW_some] <;> rfl) | (simp [*, errW_none, errW_some] <;> rfl), by repeat (first | (with_reducible first | exact HB.out | apply below_alloc | apply pw_below_drewN | apply below_drew1) | exact HB.out)⟩
              ·replace c70 := Bool.eq_false_iff.mpr c70
               subst c70
               have H1 : (laws_FnFactorsAndOrders.l1 kj64 l1 t639 t640 t644 1) = some r := by rw [if_neg (show ¬ (false = true) by decide)] at H; exact H
               clear H
               have H := H1
               clear H1
               have H' := Aside0.mk H
               clear H
               go_wp2
               go_loopg [28] kj64 (fun kq v28 w' => ∃ (x28_5 : Int), v28 = .int .i64 x28_5 ∧ Aside0 (laws_FnFactorsAndOrders.l1 kq l1 t639 t640 t644 x28_5 = some r) ∧ Aside0 (kq ≤ kj64) ∧ Aside0 (Below w.heap.size w w'))
               case atStart => exact ⟨(1), (by first | rfl | (simp; done) | (simp [*]; done)), H', ⟨Nat.le_refl _⟩, ⟨by repeat (first | (with_reducible first | exact HB.out | apply below_alloc | apply pw_below_drewN | apply below_drew1) | exact HB.out)⟩⟩
               case round =>
                clear H'
                (try clear c1);(try clear c2);(try clear p2);(try clear c3);(try clear c4);(try clear c5);(try clear c6);(try clear p6);(try clear q6);(try clear hx6);(try clear c7);(try clear c8);(try clear c12);(try clear c12b0);(try clear c12b1);(try clear c12b2);(try clear c13);(try clear c16);(try clear c18);(try clear c20);(try clear c20b0);(try clear c21);(try clear c21b0);(try clear c22);(try clear c22b0);(try clear c25);(try clear c26);(try clear c27);(try clear c28);(try clear c28b0);(try clear c30);(try clear c30b0);(try clear c31);(try clear c31b0);(try clear c32);(try clear c32b0);(try clear c34);(try clear c35);(try clear c36);(try clear c46);(try clear c46b0);(try clear c46b1);(try clear c47);(try clear c48);(try clear c48b0);(try clear c48b1);(try clear c48b2);(try clear c59);(try clear c59b0);(try clear c59b1);(try clear c59b2);(try clear c60);(try clear c62);(try clear p63);(try clear q63);(try clear hx63);(try clear p64);(try clear c68);(try clear c69);(try clear c70);(try clear hx633_0);(try clear hx638_0);(try clear p2);(try clear p6);(try clear p63);(try clear p633);(try clear p638);(try clear p64);(try clear q6);(try clear q63);(try clear q633);(try clear q638)
                obtain ⟨x28_5, rfl, HA, HK5, HB⟩ := hrel
                cases gk with
                | zero => exact absurd HA.out (by simp [laws_FnFactorsAndOrders.l1])
                | succ k5 =>
                 have H := HA.out
                 clear HA
                 simp only [laws_FnFactorsAndOrders.l1] at H
                 by_cases c71 : x28_5 < t640
                 ·rw [if_pos c71] at H
                  have c71b0 : decide (x28_5 < t640) = true := decide_eq_true c71
                  clear c71
                  by_cases c72 : x28_5 = 0
                  ·rw [if_pos c72] at H
                   exact absurd H (by simp)
                  ·rw [if_neg c72] at H
                   have c72b0 : (x28_5 == 0) = false := beq_eq_false_iff_ne.mpr c72
                   have c72b1 : (x28_5 != 0) = true := bne_iff_ne.mpr c72
                   by_cases c73 : (Int.tmod t640 x28_5) = 0
                   ·rw [if_pos c73] at H
                    have c73b0 : ((Int.tmod t640 x28_5) == 0) = true := beq_iff_eq.mpr c73
                    have c73b1 : ((Int.tmod t640 x28_5) != 0) = false := bne_eq_false_iff_eq.mpr c73
                    clear c73
                    replace H := Option.bind_eq_some_iff.mp H
                    obtain ⟨⟨t648, t649⟩, A740, H⟩ := H
                    replace H : (if t649 = true then (if t648 = t644 then (some false) else (laws_FnFactorsAndOrders.l1 k5 l1 t639 t640 t644 (wrap64 (x28_5 + 1)))) else (some false)) = some r := H
                    have A74 := Aside0.mk A740
                    clear A740
                    by_cases c75 : t649 = true
                    ·subst c75
                     have H1 : (if t648 = t644 then (some false) else (laws_FnFactorsAndOrders.l1 k5 l1 t639 t640 t644 (wrap64 (x28_5 + 1)))) = some r := by rw [if_pos rfl] at H; exact H
                     clear H
                     have H := H1
                     clear H1
                     by_cases c76 : t648 = t644
                     ·rw [if_pos c76] at H
                      have c76b0 : (t648 == t644) = true := beq_iff_eq.mpr c76
                      have c76b1 : (t648 != t644) = false := bne_eq_false_iff_eq.mpr c76
                      clear c76
                      as_aux_lemma =>
                       obtain rfl := Option.some.inj H
                       go_wp2_with (first | ((with_reducible refine gate_callee (f := 12) rfl ?_); refine goesL_ (some 185) rfl rfl Try.func12 (by kernel_rfl) rfl #[.int .i64 2, .int .i64 x28_5, .int .i64 t639] rfl (by (try simp only [List.map_toArray, List.map_cons, List.map_nil]); first | done | rfl | (simp only [List.length_drop, List.length_take]; rfl)) ?_; (with_reducible refine (impl_PowerModulo.calls k5 2 x28_5 t639 t648 true _ A74.out).mono ?_); rintro e w77 ⟨rfl, hb⟩; refine ⟨_, rfl, ?_⟩; have n0_ := Aside0.mk (below_step (by repeat (first | (with_reducible first | exact HB.out | apply below_alloc | apply pw_below_drewN | apply below_drew1) | exact HB.out)) hb); clear HB; have HB := n0_; clear n0_; (try clear hb); (try clear hb2); (try clear hk); (try clear hi)))
                       go_ret
                       exact ⟨by first | rfl | (simp [errW_none, errW_some] <;> rfl) | (simp [*, errW_none, errW_some] <;> rfl), by repeat (first | (with_reducible first | exact HB.out | apply below_alloc | apply pw_below_drewN | apply below_drew1) | exact HB.out)⟩
                     ·rw [if_neg c76] at H
                      have c76b0 : (t648 == t644) = false := beq_eq_false_iff_ne.mpr c76
                      have c76b1 : (t648 != t644) = true := bne_iff_ne.mpr c76
                      as_aux_lemma =>
                       have H' := Aside0.mk H
                       clear H
                       go_wp2_with (first | ((with_reducible refine gate_callee (f := 12) rfl ?_); refine goesL_ (some 185) rfl rfl Try.func12 (by kernel_rfl) rfl #[.int .i64 2, .int .i64 x28_5, .int .i64 t639] rfl (by (try simp only [List.map_toArray, List.map_cons, List.map_nil]); first | done | rfl | (simp only [List.length_drop, List.length_take]; rfl)) ?_; (with_reducible refine (impl_PowerModulo.calls k5 2 x28_5 t639 t648 true _ A74.out).mono ?_); rintro e w78 ⟨rfl, hb⟩; refine ⟨_, rfl, ?_⟩; have n0_ := Aside0.mk (below_step (by repeat (first | (with_reducible first | exact HB.out | apply below_alloc | apply pw_below_drewN | apply below_drew1) | exact HB.out)) hb); clear HB; have HB := n0_; clear n0_; (try clear hb); (try clear hb2); (try clear hk); (try clear hi)))
                       go_roundg k5
                       case measure => have := HJ7.out; have := HJ16.out; have := HJ55.out; have := HJ64.out; have := HK5.out; omega
                       case rel => exact ⟨(wrap64 (x28_5 + 1)), (by first | rfl | (simp; done) | (simp [*]; done)), H', ⟨by have := HJ7.out; have := HJ16.out; have := HJ55.out; have := HJ64.out; have := HK5.out; omega⟩, ⟨by repeat (first | (with_reducible first | exact HB.out | apply below_alloc | apply pw_below_drewN | apply below_drew1) | exact HB.out)⟩⟩
                    ·replace c75 := Bool.eq_false_iff.mpr c75
                     subst c75
                     have H1 : (some false) = some r := by rw [if_neg (show ¬ (false = true) by decide)] at H; exact H
                     clear H
                     have H := H1
                     clear H1
                     as_aux_lemma =>
                      obtain rfl := Option.some.inj H
                      go_wp2_with (first | ((with_reducible refine gate_callee (f := 12) rfl ?_); refine goesL_ (some 185) rfl rfl Try.func12 (by kernel_rfl) rfl #[.int .i64 2, .int .i64 x28_5, .int .i64 t639] rfl (by (try simp only [List.map_toArray, List.map_cons, List.map_nil]); first | done | rfl | (simp only [List.length_drop, List.length_take]; rfl)) ?_; (with_reducible refine (impl_PowerModulo.calls k5 2 x28_5 t639 t648 false _ A74.out).mono ?_); rintro e w79 ⟨rfl, hb⟩; refine ⟨_, rfl, ?_⟩; have n0_ := Aside0.mk (below_step (by repeat (first | (with_reducible first | exact HB.out | apply below_alloc | apply pw_below_drewN | apply below_drew1) | exact HB.out)) hb); clear HB; have HB := n0_; clear n0_; (try clear hb); (try clear hb2); (try clear hk); (try clear hi)))
                      go_ret
                      exact ⟨by first | rfl | (simp [errW_none, errW_some] <;> rfl) | (simp [*, errW_none, errW_some] <;> rfl), by repeat (first | (with_reducible first | exact HB.out | apply below_alloc | apply pw_below_drewN | apply below_drew1) | exact HB.out)⟩
                   ·rw [if_neg c73] at H
                    have c73b0 : ((Int.tmod t640 x28_5) == 0) = false := beq_eq_false_iff_ne.mpr c73
                    have c73b1 : ((Int.tmod t640 x28_5) != 0) = true := bne_iff_ne.mpr c73
                    as_aux_lemma =>
                     have H' := Aside0.mk H
                     clear H
                     go_wp2
                     go_roundg k5
                     case measure => have := HJ7.out; have := HJ16.out; have := HJ55.out; have := HJ64.out; have := HK5.out; omega
                     case rel => exact ⟨(wrap64 (x28_5 + 1)), (by first | rfl | (simp; done) | (simp [*]; done)), H', ⟨by have := HJ7.out; have := HJ16.out; have := HJ55.out; have := HJ64.out; have := HK5.out; omega⟩, ⟨by repeat (first | (with_reducible first | exact HB.out | apply below_alloc | apply pw_below_drewN | apply below_drew1) | exact HB.out)⟩⟩
                 ·rw [if_neg c71] at H
                  have c71b0 : decide (x28_5 < t640) = false := decide_eq_false c71
                  clear c71
                  as_aux_lemma =>
                   have H' := Aside0.mk H
                   clear H
                   go_wp2
                   go_meet
                   case rel => exact ⟨_, H', ⟨by have := HJ7.out; have := HJ16.out; have := HJ55.out; have := HJ64.out; have := HK5.out; first | omega | exact Nat.le_refl _⟩, ⟨by repeat (first | (with_reducible first | exact HB.out | apply below_alloc | apply pw_below_drewN | apply below_drew1) | exact HB.out)⟩⟩
           ·replace c62 := Bool.eq_false_iff.mpr c62
            subst c62
            have H1 : (laws_FnFactorsAndOrders.j6 kj55 l1) = some r := by rw [if_neg (show ¬ (false = true) by decide)] at H; exact H
            clear H
            have H := H1
            clear H1
            as_aux_lemma =>
             have H' := Aside0.mk H
             clear H
             go_wp2
             go_meet
             case rel => exact ⟨_, H', ⟨by have := HJ7.out; have := HJ16.out; have := HJ55.out; first | omega | exact Nat.le_refl _⟩, ⟨by repeat (first | (with_reducible first | exact HB.out | apply below_alloc | apply pw_below_drewN | apply below_drew1) | exact HB.out)⟩⟩
          case rest =>
           clear HC61;(try clear c1);(try clear c2);(try clear p2);(try clear c3);(try clear c4);(try clear c5);(try clear c6);(try clear p6);(try clear q6);(try clear hx6);(try clear c7);(try clear c8);(try clear c12);(try clear c12b0);(try clear c12b1);(try clear c12b2);(try clear c13);(try clear c16);(try clear c18);(try clear c20);(try clear c20b0);(try clear c21);(try clear c21b0);(try clear c22);(try clear c22b0);(try clear c25);(try clear c26);(try clear c27);(try clear c28);(try clear c28b0);(try clear c30);(try clear c30b0);(try clear c31);(try clear c31b0);(try clear c32);(try clear c32b0);(try clear c34);(try clear c35);(try clear c36);(try clear c46);(try clear c46b0);(try clear c46b1);(try clear c47);(try clear c48);(try clear c48b0);(try clear c48b1);(try clear c48b2);(try clear c59);(try clear c59b0);(try clear c59b1);(try clear c59b2);(try clear c60);(try clear c62);(try clear p63);(try clear q63);(try clear hx63);(try clear p64);(try clear c68);(try clear c69);(try clear c70);(try clear c71);(try clear c71b0);(try clear c72);(try clear c72b0);(try clear c72b1);(try clear c73);(try clear c73b0);(try clear c73b1);(try clear c75);(try clear c76);(try clear c76b0);(try clear c76b1);(try clear hx633_0);(try clear hx638_0);(try clear p2);(try clear p6);(try clear p63);(try clear p633);(try clear p638);(try clear p64);(try clear q6);(try clear q63);(try clear q633);(try clear q638)
           obtain ⟨kq, HA, HJ60, HB⟩ := hcut
           cases kq with
           | zero => exact absurd HA.out (by simp [laws_FnFactorsAndOrders.j6])
           | succ kj60 =>
            have H := HA.out
            clear HA
            simp only [laws_FnFactorsAndOrders.j6] at H
            replace H := Option.bind_eq_some_iff.mp H
            obtain ⟨⟨t650, t651, t652⟩, A800, H⟩ := H
            replace H : ((impl_PowerModulo.f kj60 t650 t651 t652).bind fun bt653 => ((spec_PowerModulo.f kj60 t650 t651 t652).bind fun bt655 => ((spec_DrawIsIrreducible.f kj60 l1).bind fun t657 => ((impl_IsIrreducible.f kj60 t657).bind fun bt658 => ((spec_IsIrreducible.f kj60 t657).bind fun bt660 => (if (bt653.2 == bt655.2) = true then (if bt653.1 = bt655.1 then (if (bt658.2 == bt660.2) = true then (some (bt658.1 == bt660.1)) else (some false)) else (some false)) else (some false))))))) = some r := H
            have A80 := Aside0.mk A800
            clear A800
            replace H := Option.bind_eq_some_iff.mp H
            obtain ⟨⟨t653, t654⟩, A810, H⟩ := H
            replace H : ((spec_PowerModulo.f kj60 t650 t651 t652).bind fun bt655 => ((spec_DrawIsIrreducible.f kj60 l1).bind fun t657 => ((impl_IsIrreducible.f kj60 t657).bind fun bt658 => ((spec_IsIrreducible.f kj60 t657).bind fun bt660 => (if (t654 == bt655.2) = true then (if t653 = bt655.1 then (if (bt658.2 == bt660.2) = true then (some (bt658.1 == bt660.1)) else (some false)) else (some false)) else (some false)))))) = some r := H
            have A81 := Aside0.mk A810
            clear A810
            replace H := Option.bind_eq_some_iff.mp H
            obtain ⟨⟨t655, t656⟩, A820, H⟩ := H
            replace H : ((spec_DrawIsIrreducible.f kj60 l1).bind fun t657 => ((impl_IsIrreducible.f kj60 t657).bind fun bt658 => ((spec_IsIrreducible.f kj60 t657).bind fun bt660 => (if (t654 == t656) = true then (if t653 = t655 then (if (bt658.2 == bt660.2) = true then (some (bt658.1 == bt660.1)) else (some false)) else (some false)) else (some false))))) = some r := H
            have A82 := Aside0.mk A820
            clear A820
            replace H := Option.bind_eq_some_iff.mp H
            obtain ⟨t657, A830, H⟩ := H
            replace H : ((impl_IsIrreducible.f kj60 t657).bind fun bt658 => ((spec_IsIrreducible.f kj60 t657).bind fun bt660 => (if (t654 == t656) = true then (if t653 = t655 then (if (bt658.2 == bt660.2) = true then (some (bt658.1 == bt660.1)) else (some false)) else (some false)) else (some false)))) = some r := H
            have A83 := Aside0.mk A830
            clear A830
            replace H := Option.bind_eq_some_iff.mp H
            obtain ⟨⟨t658, t659⟩, A840, H⟩ := H
            replace H : ((spec_IsIrreducible.f kj60 t657).bind fun bt660 => (if (t654 == t656) = true then (if t653 = t655 then (if (t659 == bt660.2) = true then (some (t658 == bt660.1)) else (some false)) else (some false)) else (some false))) = some r := H
            have A84 := Aside0.mk A840
            clear A840
            replace H := Option.bind_eq_some_iff.mp H
            obtain ⟨⟨t660, t661⟩, A850, H⟩ := H
            replace H : (if (t654 == t656) = true then (if t653 = t655 then (if (t659 == t661) = true then (some (t658 == t660)) else (some false)) else (some false)) else (some false)) = some r := H
            have A85 := Aside0.mk A850
            clear A850
            by_cases c86 : (t654 == t656) = true
            ·rw [if_pos c86] at H
             have c86b0 : (t654 == t656) = true := c86
             (try (have c86b1 : decide (t654 = t656) = true := by simpa using c86))
             (try (have c86b2 : (t654 == t656) = true := by simpa using c86))
             clear c86
             by_cases c87 : t653 = t655
             ·rw [if_pos c87] at H
              have c87b0 : (t653 == t655) = true := beq_iff_eq.mpr c87
              have c87b1 : (t653 != t655) = false := bne_eq_false_iff_eq.mpr c87
              clear c87
              by_cases c88 : (t659 == t661) = true
              ·rw [if_pos c88] at H
               have c88b0 : (t659 == t661) = true := c88
               (try (have c88b1 : decide (t659 = t661) = true := by simpa using c88))
               (try (have c88b2 : (t659 == t661) = true := by simpa using c88))
               clear c88
               as_aux_lemma =>
                obtain rfl := Option.some.inj H
                go_wp2_with (first | ((with_reducible refine gate_callee (f := 37) rfl ?_); refine goesL_ (some 197) rfl rfl Try.func37 (by kernel_rfl) rfl #[.slice A1 l1.length c1] rfl (by (try simp only [List.map_toArray, List.map_cons, List.map_nil]); first | done | rfl | (simp only [List.length_drop, List.length_take]; rfl)) ?_; (with_reducible refine (spec_DrawPowerModulo.calls kj60 _ _ l1 t650 t651 t652 _ ?side1 ?side2 A80.out).mono ?_); (case side1 => repeat (first | exact (Kd.C_below HR1.out HB.out) | (with_reducible refine Kd.C_alloc ?_ _) | (with_reducible refine Kd.C_drewN ?_ _) | (with_reducible refine Kd.C_drew ?_))); (case side2 => exact HC1.out); rintro e w89 ⟨rfl, hb⟩; refine ⟨_, rfl, ?_⟩; have n0_ := Aside0.mk (below_step (by repeat (first | (with_reducible first | exact HB.out | apply below_alloc | apply pw_below_drewN | apply below_drew1) | exact HB.out)) hb); clear HB; have HB := n0_; clear n0_; (try clear hb); (try clear hb2); (try clear hk); (try clear hi)) | ((with_reducible refine gate_callee (f := 12) rfl ?_); refine goesL_ (some 205) rfl rfl Try.func12 (by kernel_rfl) rfl #[.int .i64 t650, .int .i64 t651, .int .i64 t652] rfl (by (try simp only [List.map_toArray, List.map_cons, List.map_nil]); first | done | rfl | (simp only [List.length_drop, List.length_take]; rfl)) ?_; (with_reducible refine (impl_PowerModulo.calls kj60 t650 t651 t652 t653 t654 _ A81.out).mono ?_); rintro e w90 ⟨rfl, hb⟩; refine ⟨_, rfl, ?_⟩; have n0_ := Aside0.mk (below_step (by repeat (first | (with_reducible first | exact HB.out | apply below_alloc | apply pw_below_drewN | apply below_drew1) | exact HB.out)) hb); clear HB; have HB := n0_; clear n0_; (try clear hb); (try clear hb2); (try clear hk); (try clear hi)) | ((with_reducible refine gate_callee (f := 11) rfl ?_); refine goesL_ (some 212) rfl rfl Try.func11 (by kernel_rfl) rfl #[.int .i64 t650, .int .i64 t651, .int .i64 t652] rfl (by (try simp only [List.map_toArray, List.map_cons, List.map_nil]); first | done | rfl | (simp only [List.length_drop, List.length_take]; rfl)) ?_; (with_reducible refine (spec_PowerModulo.calls kj60 t650 t651 t652 t655 t656 _ A82.out).mono ?_); rintro e w' ⟨rfl, ⟨nd, rfl⟩⟩; refine ⟨_, rfl, ?_⟩) | ((with_reducible refine gate_callee (f := 38) rfl ?_); refine goesL_ (some 216) rfl rfl Try.func38 (by kernel_rfl) rfl #[.slice A1 l1.length c1] rfl (by (try simp only [List.map_toArray, List.map_cons, List.map_nil]); first | done | rfl | (simp only [List.length_drop, List.length_take]; rfl)) ?_; (with_reducible refine (spec_DrawIsIrreducible.calls kj60 _ _ l1 t657 _ ?side1 ?side2 A83.out).mono ?_); (case side1 => repeat (first | exact (Kd.C_below HR1.out (by repeat (first | (with_reducible first | exact HB.out | apply below_alloc | apply pw_below_drewN | apply below_drew1) | exact HB.out))) | (with_reducible refine Kd.C_alloc ?_ _) | (with_reducible refine Kd.C_drewN ?_ _) | (with_reducible refine Kd.C_drew ?_))); (case side2 => exact HC1.out); rintro e w91 ⟨rfl, hb⟩; refine ⟨_, rfl, ?_⟩; have n0_ := Aside0.mk (below_step (by repeat (first | (with_reducible first | exact HB.out | apply below_alloc | apply pw_below_drewN | apply below_drew1) | exact HB.out)) hb); clear HB; have HB := n0_; clear n0_; (try clear hb); (try clear hb2); (try clear hk); (try clear hi)) | ((with_reducible refine gate_callee (f := 26) rfl ?_); refine goesL_ (some 219) rfl rfl Try.func26 (by kernel_rfl) rfl #[.int .i64 t657] rfl (by (try simp only [List.map_toArray, List.map_cons, List.map_nil]); first | done | rfl | (simp only [List.length_drop, List.length_take]; rfl)) ?_; (with_reducible refine (impl_IsIrreducible.calls kj60 t657 t658 t659 _ A84.out).mono ?_); rintro e w92 ⟨rfl, hb⟩; refine ⟨_, rfl, ?_⟩; have n0_ := Aside0.mk (below_step (by repeat (first | (with_reducible first | exact HB.out | apply below_alloc | apply pw_below_drewN | apply below_drew1) | exact HB.out)) hb); clear HB; have HB := n0_; clear n0_; (try clear hb); (try clear hb2); (try clear hk); (try clear hi)) | ((with_reducible refine gate_callee (f := 25) rfl ?_); refine goesL_ (some 224) rfl rfl Try.func25 (by kernel_rfl) rfl #[.int .i64 t657] rfl (by (try simp only [List.map_toArray, List.map_cons, List.map_nil]); first | done | rfl | (simp only [List.length_drop, List.length_take]; rfl)) ?_; (with_reducible refine (spec_IsIrreducible.calls kj60 t657 t660 t661 _ A85.out).mono ?_); rintro e w' ⟨rfl, ⟨nd, rfl⟩⟩; refine ⟨_, rfl, ?_⟩))
                go_ret
                exact ⟨by first | rfl | (simp [errW_none, errW_some] <;> rfl) | (simp [*, errW_none, errW_some] <;> rfl), by repeat (first | (with_reducible first | exact HB.out | apply below_alloc | apply pw_below_drewN | apply below_drew1) | exact HB.out)⟩
              ·rw [if_neg c88] at H
               have c88b0 : (t659 == t661) = false := by simpa using c88
               (try (have c88b1 : decide (t659 = t661) = false := by simpa using c88))
               (try (have c88b2 : (t659 == t661) = false := by simpa using c88))
               (try (have c88b3 : ¬ (t659 = t661) := by simpa using c88))
               clear c88
               as_aux_lemma =>
                obtain rfl := Option.some.inj H
                go_wp2_with (first | ((with_reducible refine gate_callee (f := 37) rfl ?_); refine goesL_ (some 197) rfl rfl Try.func37 (by kernel_rfl) rfl #[.slice A1 l1.length c1] rfl (by (try simp only [List.map_toArray, List.map_cons, List.map_nil]); first | done | rfl | (simp only [List.length_drop, List.length_take]; rfl)) ?_; (with_reducible refine (spec_DrawPowerModulo.calls kj60 _ _ l1 t650 t651 t652 _ ?side1 ?side2 A80.out).mono ?_); (case side1 => repeat (first | exact (Kd.C_below HR1.out HB.out) | (with_reducible refine Kd.C_alloc ?_ _) | (with_reducible refine Kd.C_drewN ?_ _) | (with_reducible refine Kd.C_drew ?_))); (case side2 => exact HC1.out); rintro e w93 ⟨rfl, hb⟩; refine ⟨_, rfl, ?_⟩; have n0_ := Aside0.mk (below_step (by repeat (first | (with_reducible first | exact HB.out | apply below_alloc | apply pw_below_drewN | apply below_drew1) | exact HB.out)) hb); clear HB; have HB := n0_; clear n0_; (try clear hb); (try clear hb2); (try clear hk); (try clear hi)) | ((with_reducible refine gate_callee (f := 12) rfl ?_); refine goesL_ (some 205) rfl rfl Try.func12 (by kernel_rfl) rfl #[.int .i64 t650, .int .i64 t651, .int .i64 t652] rfl (by (try simp only [List.map_toArray, List.map_cons, List.map_nil]); first | done | rfl | (simp only [List.length_drop, List.length_take]; rfl)) ?_; (with_reducible refine (impl_PowerModulo.calls kj60 t650 t651 t652 t653 t654 _ A81.out).mono ?_); rintro e w94 ⟨rfl, hb⟩; refine ⟨_, rfl, ?_⟩; have n0_ := Aside0.mk (below_step (by repeat (first | (with_reducible first | exact HB.out | apply below_alloc | apply pw_below_drewN | apply below_drew1) | exact HB.out)) hb); clear HB; have HB := n0_; clear n0_; (try clear hb); (try clear hb2); (try clear hk); (try clear hi)) | ((with_reducible refine gate_callee (f := 11) rfl ?_); refine goesL_ (some 212) rfl rfl Try.func11 (by kernel_rfl) rfl #[.int .i64 t650, .int .i64 t651, .int .i64 t652] rfl (by (try simp only [List.map_toArray, List.map_cons, List.map_nil]); first | done | rfl | (simp only [List.length_drop, List.length_take]; rfl)) ?_; (with_reducible refine (spec_PowerModulo.calls kj60 t650 t651 t652 t655 t656 _ A82.out).mono ?_); rintro e w' ⟨rfl, ⟨nd, rfl⟩⟩; refine ⟨_, rfl, ?_⟩) | ((with_reducible refine gate_callee (f := 38) rfl ?_); refine goesL_ (some 216) rfl rfl Try.func38 (by kernel_rfl) rfl #[.slice A1 l1.length c1] rfl (by (try simp only [List.map_toArray, List.map_cons, List.map_nil]); first | done | rfl | (simp only [List.length_drop, List.length_take]; rfl)) ?_; (with_reducible refine (spec_DrawIsIrreducible.calls kj60 _ _ l1 t657 _ ?side1 ?side2 A83.out).mono ?_); (case side1 => repeat (first | exact (Kd.C_below HR1.out (by repeat (first | (with_reducible first | exact HB.out | apply below_alloc | apply pw_below_drewN | apply below_drew1) | exact HB.out))) | (with_reducible refine Kd.C_alloc ?_ _) | (with_reducible refine Kd.C_drewN ?_ _) | (with_reducible refine Kd.C_drew ?_))); (case side2 => exact HC1.out); rintro e w95 ⟨rfl, hb⟩; refine ⟨_, rfl, ?_⟩; have n0_ := Aside0.mk (below_step (by repeat (first | (with_reducible first | exact HB.out | apply below_alloc | apply pw_below_drewN | apply below_drew1) | exact HB.out)) hb); clear HB; have HB := n0_; clear n0_; (try clear hb); (try clear hb2); (try clear hk); (try clear hi)) | ((with_reducible refine gate_callee (f := 26) rfl ?_); refine goesL_ (some 219) rfl rfl Try.func26 (by kernel_rfl) rfl #[.int .i64 t657] rfl (by (try simp only [List.map_toArray, List.map_cons, List.map_nil]); first | done | rfl | (simp only [List.length_drop, List.length_take]; rfl)) ?_; (with_reducible refine (impl_IsIrreducible.calls kj60 t657 t658 t659 _ A84.out).mono ?_); rintro e w96 ⟨rfl, hb⟩; refine ⟨_, rfl, ?_⟩; have n0_ := Aside0.mk (below_step (by repeat (first | (with_reducible first | exact HB.out | apply below_alloc | apply pw_below_drewN | apply below_drew1) | exact HB.out)) hb); clear HB; have HB := n0_; clear n0_; (try clear hb); (try clear hb2); (try clear hk); (try clear hi)) | ((with_reducible refine gate_callee (f := 25) rfl ?_); refine goesL_ (some 224) rfl rfl Try.func25 (by kernel_rfl) rfl #[.int .i64 t657] rfl (by (try simp only [List.map_toArray, List.map_cons, List.map_nil]); first | done | rfl | (simp only [List.length_drop, List.length_take]; rfl)) ?_; (with_reducible refine (spec_IsIrreducible.calls kj60 t657 t660 t661 _ A85.out).mono ?_); rintro e w' ⟨rfl, ⟨nd, rfl⟩⟩; refine ⟨_, rfl, ?_⟩))
                go_ret
                exact ⟨by first | rfl | (simp [errW_none, errW_some] <;> rfl) | (simp [*, errW_none, errW_some] <;> rfl), by repeat (first | (with_reducible first | exact HB.out | apply below_alloc | apply pw_below_drewN | apply below_drew1) | exact HB.out)⟩
             ·rw [if_neg c87] at H
              have c87b0 : (t653 == t655) = false := beq_eq_false_iff_ne.mpr c87
              have c87b1 : (t653 != t655) = true := bne_iff_ne.mpr c87
              as_aux_lemma =>
               obtain rfl := Option.some.inj H
               go_wp2_with (first | ((with_reducible refine gate_callee (f := 37) rfl ?_); refine goesL_ (some 197) rfl rfl Try.func37 (by kernel_rfl) rfl #[.slice A1 l1.length c1] rfl (by (try simp only [List.map_toArray, List.map_cons, List.map_nil]); first | done | rfl | (simp only [List.length_drop, List.length_take]; rfl)) ?_; (with_reducible refine (spec_DrawPowerModulo.calls kj60 _ _ l1 t650 t651 t652 _ ?side1 ?side2 A80.out).mono ?_); (case side1 => repeat (first | exact (Kd.C_below HR1.out HB.out) | (with_reducible refine Kd.C_alloc ?_ _) | (with_reducible refine Kd.C_drewN ?_ _) | (with_reducible refine Kd.C_drew ?_))); (case side2 => exact HC1.out); rintro e w97 ⟨rfl, hb⟩; refine ⟨_, rfl, ?_⟩; have n0_ := Aside0.mk (below_step (by repeat (first | (with_reducible first | exact HB.out | apply below_alloc | apply pw_below_drewN | apply below_drew1) | exact HB.out)) hb); clear HB; have HB := n0_; clear n0_; (try clear hb); (try clear hb2); (try clear hk); (try clear hi)) | ((with_reducible refine gate_callee (f := 12) rfl ?_); refine goesL_ (some 205) rfl rfl Try.func12 (by kernel_rfl) rfl #[.int .i64 t650, .int .i64 t651, .int .i64 t652] rfl (by (try simp only [List.map_toArray, List.map_cons, List.map_nil]); first | done | rfl | (simp only [List.length_drop, List.length_take]; rfl)) ?_; (with_reducible refine (impl_PowerModulo.calls kj60 t650 t651 t652 t653 t654 _ A81.out).mono ?_); rintro e w98 ⟨rfl, hb⟩; refine ⟨_, rfl, ?_⟩; have n0_ := Aside0.mk (below_step (by repeat (first | (with_reducible first | exact HB.out | apply below_alloc | apply pw_below_drewN | apply below_drew1) | exact HB.out)) hb); clear HB; have HB := n0_; clear n0_; (try clear hb); (try clear hb2); (try clear hk); (try clear hi)) | ((with_reducible refine gate_callee (f := 11) rfl ?_); refine goesL_ (some 212) rfl rfl Try.func11 (by kernel_rfl) rfl #[.int .i64 t650, .int .i64 t651, .int .i64 t652] rfl (by (try simp only [List.map_toArray, List.map_cons, List.map_nil]); first | done | rfl | (simp only [List.length_drop, List.length_take]; rfl)) ?_; (with_reducible refine (spec_PowerModulo.calls kj60 t650 t651 t652 t655 t656 _ A82.out).mono ?_); rintro e w' ⟨rfl, ⟨nd, rfl⟩⟩; refine ⟨_, rfl, ?_⟩) | ((with_reducible refine gate_callee (f := 38) rfl ?_); refine goesL_ (some 216) rfl rfl Try.func38 (by kernel_rfl) rfl #[.slice A1 l1.length c1] rfl (by (try simp only [List.map_toArray, List.map_cons, List.map_nil]); first | done | rfl | (simp only [List.length_drop, List.length_take]; rfl)) ?_; (with_reducible refine (spec_DrawIsIrreducible.calls kj60 _ _ l1 t657 _ ?side1 ?side2 A83.out).mono ?_); (case side1 => repeat (first | exact (Kd.C_below HR1.out (by repeat (first | (with_reducible first | exact HB.out | apply below_alloc | apply pw_below_drewN | apply below_drew1) | exact HB.out))) | (with_reducible refine Kd.C_alloc ?_ _) | (with_reducible refine Kd.C_drewN ?_ _) | (with_reducible refine Kd.C_drew ?_))); (case side2 => exact HC1.out); rintro e w99 ⟨rfl, hb⟩; refine ⟨_, rfl, ?_⟩; have n0_ := Aside0.mk (below_step (by repeat (first | (with_reducible first | exact HB.out | apply below_alloc | apply pw_below_drewN | apply below_drew1) | exact HB.out)) hb); clear HB; have HB := n0_; clear n0_; (try clear hb); (try clear hb2); (try clear hk); (try clear hi)) | ((with_reducible refine gate_callee (f := 26) rfl ?_); refine goesL_ (some 219) rfl rfl Try.func26 (by kernel_rfl) rfl #[.int .i64 t657] rfl (by (try simp only [List.map_toArray, List.map_cons, List.map_nil]); first | done | rfl | (simp only [List.length_drop, List.length_take]; rfl)) ?_; (with_reducible refine (impl_IsIrreducible.calls kj60 t657 t658 t659 _ A84.out).mono ?_); rintro e w100 ⟨rfl, hb⟩; refine ⟨_, rfl, ?_⟩; have n0_ := Aside0.mk (below_step (by repeat (first | (with_reducible first | exact HB.out | apply below_alloc | apply pw_below_drewN | apply below_drew1) | exact HB.out)) hb); clear HB; have HB := n0_; clear n0_; (try clear hb); (try clear hb2); (try clear hk); (try clear hi)) | ((with_reducible refine gate_callee (f := 25) rfl ?_); refine goesL_ (some 224) rfl rfl Try.func25 (by kernel_rfl) rfl #[.int .i64 t657] rfl (by (try simp only [List.map_toArray, List.map_cons, List.map_nil]); first | done | rfl | (simp only [List.length_drop, List.length_take]; rfl)) ?_; (with_reducible refine (spec_IsIrreducible.calls kj60 t657 t660 t661 _ A85.out).mono ?_); rintro e w' ⟨rfl, ⟨nd, rfl⟩⟩; refine ⟨_, rfl, ?_⟩))
               go_ret
               exact ⟨by first | rfl | (simp [errW_none, errW_some] <;> rfl) | (simp [*, errW_none, errW_some] <;> rfl), by repeat (first | (with_reducible first | exact HB.out | apply below_alloc | apply pw_below_drewN | apply below_drew1) | exact HB.out)⟩
            ·rw [if_neg c86] at H
             have c86b0 : (t654 == t656) = false := by simpa using c86
             (try (have c86b1 : decide (t654 = t656) = false := by simpa using c86))
             (try (have c86b2 : (t654 == t656) = false := by simpa using c86))
             (try (have c86b3 : ¬ (t654 = t656) := by simpa using c86))
             clear c86
             as_aux_lemma =>
              obtain rfl := Option.some.inj H
              go_wp2_with (first | ((with_reducible refine gate_callee (f := 37) rfl ?_); refine goesL_ (some 197) rfl rfl Try.func37 (by kernel_rfl) rfl #[.slice A1 l1.length c1] rfl (by (try simp only [List.map_toArray, List.map_cons, List.map_nil]); first | done | rfl | (simp only [List.length_drop, List.length_take]; rfl)) ?_; (with_reducible refine (spec_DrawPowerModulo.calls kj60 _ _ l1 t650 t651 t652 _ ?side1 ?side2 A80.out).mono ?_); (case side1 => repeat (first | exact (Kd.C_below HR1.out HB.out) | (with_reducible refine Kd.C_alloc ?_ _) | (with_reducible refine Kd.C_drewN ?_ _) | (with_reducible refine Kd.C_drew ?_))); (case side2 => exact HC1.out); rintro e w101 ⟨rfl, hb⟩; refine ⟨_, rfl, ?_⟩; have n0_ := Aside0.mk (below_step (by repeat (first | (with_reducible first | exact HB.out | apply below_alloc | apply pw_below_drewN | apply below_drew1) | exact HB.out)) hb); clear HB; have HB := n0_; clear n0_; (try clear hb); (try clear hb2); (try clear hk); (try clear hi)) | ((with_reducible refine gate_callee (f := 12) rfl ?_); refine goesL_ (some 205) rfl rfl Try.func12 (by kernel_rfl) rfl #[.int .i64 t650, .int .i64 t651, .int .i64 t652] rfl (by (try simp only [List.map_toArray, List.map_cons, List.map_nil]); first | done | rfl | (simp only [List.length_drop, List.length_take]; rfl)) ?_; (with_reducible refine (impl_PowerModulo.calls kj60 t650 t651 t652 t653 t654 _ A81.out).mono ?_); rintro e w102 ⟨rfl, hb⟩; refine ⟨_, rfl, ?_⟩; have n0_ := Aside0.mk (below_step (by repeat (first | (with_reducible first | exact HB.out | apply below_alloc | apply pw_below_drewN | apply below_drew1) | exact HB.out)) hb); clear HB; have HB := n0_; clear n0_; (try clear hb); (try clear hb2); (try clear hk); (try clear hi)) | ((with_reducible refine gate_callee (f := 11) rfl ?_); refine goesL_ (some 212) rfl rfl Try.func11 (by kernel_rfl) rfl #[.int .i64 t650, .int .i64 t651, .int .i64 t652] rfl (by (try simp only [List.map_toArray, List.map_cons, List.map_nil]); first | done | rfl | (simp only [List.length_drop, List.length_take]; rfl)) ?_; (with_reducible refine (spec_PowerModulo.calls kj60 t650 t651 t652 t655 t656 _ A82.out).mono ?_); rintro e w' ⟨rfl, ⟨nd, rfl⟩⟩; refine ⟨_, rfl, ?_⟩) | ((with_reducible refine gate_callee (f := 38) rfl ?_); refine goesL_ (some 216) rfl rfl Try.func38 (by kernel_rfl) rfl #[.slice A1 l1.length c1] rfl (by (try simp only [List.map_toArray, List.map_cons, List.map_nil]); first | done | rfl | (simp only [List.length_drop, List.length_take]; rfl)) ?_; (with_reducible refine (spec_DrawIsIrreducible.calls kj60 _ _ l1 t657 _ ?side1 ?side2 A83.out).mono ?_); (case side1 => repeat (first | exact (Kd.C_below HR1.out (by repeat (first | (with_reducible first | exact HB.out | apply below_alloc | apply pw_below_drewN | apply below_drew1) | exact HB.out))) | (with_reducible refine Kd.C_alloc ?_ _) | (with_reducible refine Kd.C_drewN ?_ _) | (with_reducible refine Kd.C_drew ?_))); (case side2 => exact HC1.out); rintro e w103 ⟨rfl, hb⟩; refine ⟨_, rfl, ?_⟩; have n0_ := Aside0.mk (below_step (by repeat (first | (with_reducible first | exact HB.out | apply below_alloc | apply pw_below_drewN | apply below_drew1) | exact HB.out)) hb); clear HB; have HB := n0_; clear n0_; (try clear hb); (try clear hb2); (try clear hk); (try clear hi)) | ((with_reducible refine gate_callee (f := 26) rfl ?_); refine goesL_ (some 219) rfl rfl Try.func26 (by kernel_rfl) rfl #[.int .i64 t657] rfl (by (try simp only [List.map_toArray, List.map_cons, List.map_nil]); first | done | rfl | (simp only [List.length_drop, List.length_take]; rfl)) ?_; (with_reducible refine (impl_IsIrreducible.calls kj60 t657 t658 t659 _ A84.out).mono ?_); rintro e w104 ⟨rfl, hb⟩; refine ⟨_, rfl, ?_⟩; have n0_ := Aside0.mk (below_step (by repeat (first | (with_reducible first | exact HB.out | apply below_alloc | apply pw_below_drewN | apply below_drew1) | exact HB.out)) hb); clear HB; have HB := n0_; clear n0_; (try clear hb); (try clear hb2); (try clear hk); (try clear hi)) | ((with_reducible refine gate_callee (f := 25) rfl ?_); refine goesL_ (some 224) rfl rfl Try.func25 (by kernel_rfl) rfl #[.int .i64 t657] rfl (by (try simp only [List.map_toArray, List.map_cons, List.map_nil]); first | done | rfl | (simp only [List.length_drop, List.length_take]; rfl)) ?_; (with_reducible refine (spec_IsIrreducible.calls kj60 t657 t660 t661 _ A85.out).mono ?_); rintro e w' ⟨rfl, ⟨nd, rfl⟩⟩; refine ⟨_, rfl, ?_⟩))
              go_ret
              exact ⟨by first | rfl | (simp [errW_none, errW_some] <;> rfl) | (simp [*, errW_none, errW_some] <;> rfl), by repeat (first | (with_reducible first | exact HB.out | apply below_alloc | apply pw_below_drewN | apply below_drew1) | exact HB.out)⟩

/-- THE ONE PURE STATEMENT of laws_FnFactorsAndOrders: yours. -/
def laws_FnFactorsAndOrders.Pure : Prop := ∀ (l0 : List Int) (l1 : List Int), l0.length ≤ maxLen → l0.length * 1 ≤ 140737488351232 → (∀ x ∈ l0, (Lit.int .u8 x).wf = true) → l1.length ≤ maxLen → l1.length * 1 ≤ 140737488351232 → (∀ x ∈ l1, (Lit.int .u8 x).wf = true) → ∃ k, laws_FnFactorsAndOrders.f k l0 l1 = some true
theorem laws_FnFactorsAndOrders.walk (P : laws_FnFactorsAndOrders.Pure) (a0 : Option Addr) (len0 cap0 : Nat) (z0 : List Int) (a1 : Option Addr) (len1 cap1 : Nat) (z1 : List Int) (w : World) (w0 : (a0 = none ∧ len0 = 0 ∧ cap0 = 0 ∧ z0 = []) ∨ ∃ x, a0 = some x ∧ len0 ≤ cap0 ∧ cap0 ≤ maxLen ∧ z0.length = cap0 ∧ (∀ i, i < z0.length → w.cell? (x.add i) = some (.int .u8 (z0.getD i 0))) ∧ ∀ n ∈ z0, (Lit.int .u8 n).wf = true) (y0 : len0 * 1 ≤ 140737488351232) (w1 : (a1 = none ∧ len1 = 0 ∧ cap1 = 0 ∧ z1 = []) ∨ ∃ x, a1 = some x ∧ len1 ≤ cap1 ∧ cap1 ≤ maxLen ∧ z1.length = cap1 ∧ (∀ i, i < z1.length → w.cell? (x.add i) = some (.int .u8 (z1.getD i 0))) ∧ ∀ n ∈ z1, (Lit.int .u8 n).wf = true) (y1 : len1 * 1 ≤ 140737488351232) :
  Calls Try.prog 8 #[.slice a0 len0 cap0, .slice a1 len1 cap1] w fun e w' => e = .returned (.bool true) ∧ Below w.heap.size w w' := by
 obtain ⟨l0, rfl, hr0, hm0, hw0, hc0⟩ := ReadsInt.ofRowC w0
 obtain ⟨l1, rfl, hr1, hm1, hw1, hc1⟩ := ReadsInt.ofRowC w1
 obtain ⟨k, h⟩ := P l0 l1 hm0 y0 hw0 hm1 y1 hw1
 refine (laws_FnFactorsAndOrders.calls k _ _ l0 _ _ l1 true w (Kd.C_of_reads (d := (0 : Int)) (h1 := fun _ => rfl) hr0) hc0 (Kd.C_of_reads (d := (0 : Int)) (h1 := fun _ => rfl) hr1) hc1 h).mono ?_
 rintro e w' ⟨rfl, hd⟩
 exact ⟨rfl, hd⟩

end Go.Proofs.Ytigkmdlbijdoaaa.P
