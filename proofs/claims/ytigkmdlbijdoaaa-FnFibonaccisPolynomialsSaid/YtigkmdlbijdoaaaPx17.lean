-- Written by a program of this session (wip/mp.py), which runs the kit's print with contracts of the session's own.
import Derived.Test.YtigkmdlbijdoaaaPx0
import Derived.Test.YtigkmdlbijdoaaaPx15
import Derived.Test.YtigkmdlbijdoaaaPx16
namespace Go.Proofs.Ytigkmdlbijdoaaa.P
open Go.RowKit Go.Proofs.YtigkmdlbijdoaaaW.PrintWords Go.Proofs.YtigkmdlbijdoaaaW.PrintLast Go.Proofs.YtigkmdlbijdoaaaW.PrintMore
attribute [local go_sem] max2_int min2_int max_two min_two max_three min_three max_four min_four   -- for this text's walks alone
set_option linter.unusedVariables false
set_option linter.unusedSimpArgs false

/-! ### laws_FnFibonaccisPolynomials: function 5 -/
mutual
def laws_FnFibonaccisPolynomials.j0 : Nat → List Int → Int → Int → Bool → Int → Int → Bool → Bool → Option (Bool)
 | 0, _, _, _, _, _, _, _, _ => none
 | k + 1, x1, x5, x6, x7, x10, x11, x12, x82 => if x82 = true then (some false) else (if x7 = true then (laws_FnFibonaccisPolynomials.j1 k x1 x5 x6 x7 x10 x11 x12) else (laws_FnFibonaccisPolynomials.j1 k x1 x5 x6 x7 x10 x11 false))
def laws_FnFibonaccisPolynomials.j1 : Nat → List Int → Int → Int → Bool → Int → Int → Bool → Option (Bool)
 | 0, _, _, _, _, _, _, _ => none
 | k + 1, x1, x5, x6, x7, x10, x11, x86 => if x86 = true then ((impl_GcdPoly.f k x6 x11).bind fun bt318 => ((laws_vGcd.f k x5 x10).bind fun t320 => ((impl_FibonacciPoly.f k t320).bind fun bt321 => (if bt318.2 = true then (if bt321.2 = true then (if bt318.1 = bt321.1 then (laws_FnFibonaccisPolynomials.j2 k x1 x5 x6 x7) else (some false)) else (some false)) else (some false))))) else (laws_FnFibonaccisPolynomials.j2 k x1 x5 x6 x7)
def laws_FnFibonaccisPolynomials.j2 : Nat → List Int → Int → Int → Bool → Option (Bool)
 | 0, _, _, _, _ => none
 | k + 1, x1, x5, x6, x7 => if x7 = true then (laws_FnFibonaccisPolynomials.j3 k x1 x5 x6 (decide (x5 ≥ 1))) else (laws_FnFibonaccisPolynomials.j3 k x1 x5 x6 false)
def laws_FnFibonaccisPolynomials.j3 : Nat → List Int → Int → Int → Bool → Option (Bool)
 | 0, _, _, _, _ => none
 | k + 1, x1, x5, x6, x115 => if x115 = true then ((impl_DegreeOf.f x6).bind fun bt323 => ((impl_TimesPoly.f k x6 x6).bind fun bt325 => ((impl_FibonacciPoly.f k (wrap64 (2 * x5))).bind fun bt327 => (if bt323.2 = true then (laws_FnFibonaccisPolynomials.j4 k x1 bt325.1 bt325.2 bt327.1 bt327.2 (bt323.1 != (wrap64 (x5 - 1)))) else (laws_FnFibonaccisPolynomials.j4 k x1 bt325.1 bt325.2 bt327.1 bt327.2 true))))) else (laws_FnFibonaccisPolynomials.j6 k x1)
def laws_FnFibonaccisPolynomials.j6 : Nat → List Int → Option (Bool)
 | 0, _ => none
 | k + 1, x1 => (spec_DrawFirstFibonacci.f k x1).bind fun t331 => ((impl_FirstFibonacci.f k t331).bind fun bt332 => ((spec_FirstFibonacci.f k t331).bind fun bt334 => (if (bt332.2 != bt334.2) = true then (laws_FnFibonaccisPolynomials.j7 k t331 bt332.1 bt332.2 true) else (laws_FnFibonaccisPolynomials.j7 k t331 bt332.1 bt332.2 (bt332.1 != bt334.1)))))
def laws_FnFibonaccisPolynomials.j7 : Nat → Int → Int → Bool → Bool → Option (Bool)
 | 0, _, _, _, _ => none
 | k + 1, x27, x28, x29, x176 => if x176 = true then (some false) else (if x29 = true then (laws_FnFibonaccisPolynomials.l0 k x27 x28 1) else (some true))
def laws_FnFibonaccisPolynomials.l0 : Nat → Int → Int → Int → Option (Bool)
 | 0, _, _, _ => none
 | k + 1, x27, x28, x32 => if x32 ≤ x28 then (laws_FnFibonaccisPolynomials.j9 k x27 x28 x32 (decide (x32 ≤ 41))) else (laws_FnFibonaccisPolynomials.j9 k x27 x28 x32 false)
def laws_FnFibonaccisPolynomials.j9 : Nat → Int → Int → Int → Bool → Option (Bool)
 | 0, _, _, _, _ => none
 | k + 1, x27, x28, x32, x185 => if x185 = true then ((impl_FibonacciPoly.f k x32).bind fun bt336 => ((impl_DividePoly.f k bt336.1 x27).bind fun bt338 => (if bt336.2 = true then (if bt338.2.2 = true then (if ((bt338.2.1 == 0) != (x32 == x28)) = true then (some false) else (laws_FnFibonaccisPolynomials.l0 k x27 x28 (wrap64 (x32 + 1)))) else (some false)) else (some false)))) else (some true)
def laws_FnFibonaccisPolynomials.j4 : Nat → List Int → Int → Bool → Int → Bool → Bool → Option (Bool)
 | 0, _, _, _, _, _, _ => none
 | k + 1, x1, x21, x22, x23, x24, x140 => if x140 = true then (some false) else (if x22 = true then (laws_FnFibonaccisPolynomials.j5 k x1 x21 x23 x24) else (laws_FnFibonaccisPolynomials.j5 k x1 x21 x23 false))
def laws_FnFibonaccisPolynomials.j5 : Nat → List Int → Int → Int → Bool → Option (Bool)
 | 0, _, _, _, _ => none
 | k + 1, x1, x21, x23, x144 => if x144 = true then ((impl_TimesPoly.f k x21 2).bind fun bt329 => (if bt329.2 = true then (if bt329.1 = x23 then (laws_FnFibonaccisPolynomials.j6 k x1) else (some false)) else (some false))) else (laws_FnFibonaccisPolynomials.j6 k x1)
end
def laws_FnFibonaccisPolynomials.f (k : Nat) (l0 : List Int) (l1 : List Int) : Option (Bool) := (laws_big.f l0 l1).bind fun t307 => (if t307 = true then (some true) else ((spec_DrawFibonacciPoly.f l0).bind fun t308 => ((impl_FibonacciPoly.f k t308).bind fun bt309 => ((spec_FibonacciPoly.f k t308).bind fun bt311 => ((spec_DrawFibonacciPoly.f l1).bind fun t313 => ((impl_FibonacciPoly.f k t313).bind fun bt314 => ((spec_FibonacciPoly.f k t313).bind fun bt316 => (if (bt309.2 != bt311.2) = true then (laws_FnFibonaccisPolynomials.j0 k l1 t308 bt309.1 bt309.2 t313 bt314.1 bt314.2 true) else (if bt309.1 = bt311.1 then (if (bt314.2 != bt316.2) = true then (laws_FnFibonaccisPolynomials.j0 k l1 t308 bt309.1 bt309.2 t313 bt314.1 bt314.2 true) else (laws_FnFibonaccisPolynomials.j0 k l1 t308 bt309.1 bt309.2 t313 bt314.1 bt314.2 (bt314.1 != bt316.1))) else (laws_FnFibonaccisPolynomials.j0 k l1 t308 bt309.1 bt309.2 t313 bt314.1 bt314.2 true))))))))))
theorem laws_FnFibonaccisPolynomials.mono_l : ∀ k, (∀ y0 y1 y2 y3 y4 y5 y6 y7, LeO (laws_FnFibonaccisPolynomials.j0 k y0 y1 y2 y3 y4 y5 y6 y7) (laws_FnFibonaccisPolynomials.j0 (k + 1) y0 y1 y2 y3 y4 y5 y6 y7)) ∧ (∀ y0 y1 y2 y3 y4 y5 y6, LeO (laws_FnFibonaccisPolynomials.j1 k y0 y1 y2 y3 y4 y5 y6) (laws_FnFibonaccisPolynomials.j1 (k + 1) y0 y1 y2 y3 y4 y5 y6)) ∧ (∀ y0 y1 y2 y3, LeO (laws_FnFibonaccisPolynomials.j2 k y0 y1 y2 y3) (laws_FnFibonaccisPolynomials.j2 (k + 1) y0 y1 y2 y3)) ∧ (∀ y0 y1 y2 y3, LeO (laws_FnFibonaccisPolynomials.j3 k y0 y1 y2 y3) (laws_FnFibonaccisPolynomials.j3 (k + 1) y0 y1 y2 y3)) ∧ (∀ y0, LeO (laws_FnFibonaccisPolynomials.j6 k y0) (laws_FnFibonaccisPolynomials.j6 (k + 1) y0)) ∧ (∀ y0 y1 y2 y3, LeO (laws_FnFibonaccisPolynomials.j7 k y0 y1 y2 y3) (laws_FnFibonaccisPolynomials.j7 (k + 1) y0 y1 y2 y3)) ∧ (∀ y0 y1 y2, LeO (laws_FnFibonaccisPolynomials.l0 k y0 y1 y2) (laws_FnFibonaccisPolynomials.l0 (k + 1) y0 y1 y2)) ∧ (∀ y0 y1 y2 y3, LeO (laws_FnFibonaccisPolynomials.j9 k y0 y1 y2 y3) (laws_FnFibonaccisPolynomials.j9 (k + 1) y0 y1 y2 y3)) ∧ (∀ y0 y1 y2 y3 y4 y5, LeO (laws_FnFibonaccisPolynomials.j4 k y0 y1 y2 y3 y4 y5) (laws_FnFibonaccisPolynomials.j4 (k + 1) y0 y1 y2 y3 y4 y5)) ∧ (∀ y0 y1 y2 y3, LeO (laws_FnFibonaccisPolynomials.j5 k y0 y1 y2 y3) (laws_FnFibonaccisPolynomials.j5 (k + 1) y0 y1 y2 y3))
 | 0 => ⟨fun _ _ _ _ _ _ _ _ r h => by simp [laws_FnFibonaccisPolynomials.j0] at h, fun _ _ _ _ _ _ _ r h => by simp [laws_FnFibonaccisPolynomials.j1] at h, fun _ _ _ _ r h => by simp [laws_FnFibonaccisPolynomials.j2] at h, fun _ _ _ _ r h => by simp [laws_FnFibonaccisPolynomials.j3] at h, fun _ r h => by simp [laws_FnFibonaccisPolynomials.j6] at h, fun _ _ _ _ r h => by simp [laws_FnFibonaccisPolynomials.j7] at h, fun _ _ _ r h => by simp [laws_FnFibonaccisPolynomials.l0] at h, fun _ _ _ _ r h => by simp [laws_FnFibonaccisPolynomials.j9] at h, fun _ _ _ _ _ _ r h => by simp [laws_FnFibonaccisPolynomials.j4] at h, fun _ _ _ _ r h => by simp [laws_FnFibonaccisPolynomials.j5] at h⟩
 | k + 1 => by
  obtain ⟨ih0, ih1, ih2, ih3, ih4, ih5, ih6, ih7, ih8, ih9⟩ := laws_FnFibonaccisPolynomials.mono_l k
  refine ⟨?_, ?_, ?_, ?_, ?_, ?_, ?_, ?_, ?_, ?_⟩
  ·intro y0 y1 y2 y3 y4 y5 y6 y7
   unfold laws_FnFibonaccisPolynomials.j0
   repeat' first
   | (with_reducible exact ih0 _ _ _ _ _ _ _ _)
   | (with_reducible exact ih1 _ _ _ _ _ _ _)
   | (with_reducible exact ih2 _ _ _ _)
   | (with_reducible exact ih3 _ _ _ _)
   | (with_reducible exact ih4 _)
   | (with_reducible exact ih5 _ _ _ _)
   | (with_reducible exact ih6 _ _ _)
   | (with_reducible exact ih7 _ _ _ _)
   | (with_reducible exact ih8 _ _ _ _ _ _)
   | (with_reducible exact ih9 _ _ _ _)
   | (with_reducible exact impl_DividePoly.mono _ _ _)
   | (with_reducible exact impl_FibonacciPoly.mono _ _)
   | (with_reducible exact impl_FirstFibonacci.mono _ _)
   | (with_reducible exact impl_GcdPoly.mono _ _ _)
   | (with_reducible exact impl_TimesPoly.mono _ _ _)
   | (with_reducible exact laws_vGcd.mono _ _ _)
   | (with_reducible exact spec_DrawFirstFibonacci.mono _ _)
   | (with_reducible exact spec_FibonacciPoly.mono _ _)
   | (with_reducible exact spec_FirstFibonacci.mono _ _)
   | (with_reducible exact LeO.refl _)
   | (with_reducible exact LeO.none _)
   | (with_reducible refine LeO.ite ?_ ?_)
   | (with_reducible refine LeO.bind ?_ (fun _ => ?_))
   | exact ih0 _ _ _ _ _ _ _ _
   | exact ih1 _ _ _ _ _ _ _
   | exact ih2 _ _ _ _
   | exact ih3 _ _ _ _
   | exact ih4 _
   | exact ih5 _ _ _ _
   | exact ih6 _ _ _
   | exact ih7 _ _ _ _
   | exact ih8 _ _ _ _ _ _
   | exact ih9 _ _ _ _
   | exact impl_DividePoly.mono _ _ _
   | exact impl_FibonacciPoly.mono _ _
   | exact impl_FirstFibonacci.mono _ _
   | exact impl_GcdPoly.mono _ _ _
   | exact impl_TimesPoly.mono _ _ _
   | exact laws_vGcd.mono _ _ _
   | exact spec_DrawFirstFibonacci.mono _ _
   | exact spec_FibonacciPoly.mono _ _
   | exact spec_FirstFibonacci.mono _ _
   | exact LeO.none _
   | refine LeO.ite ?_ ?_
   | refine LeO.bind ?_ (fun _ => ?_)
  ·intro y0 y1 y2 y3 y4 y5 y6
   unfold laws_FnFibonaccisPolynomials.j1
   repeat' first
   | (with_reducible exact ih0 _ _ _ _ _ _ _ _)
   | (with_reducible exact ih1 _ _ _ _ _ _ _)
   | (with_reducible exact ih2 _ _ _ _)
   | (with_reducible exact ih3 _ _ _ _)
   | (with_reducible exact ih4 _)
   | (with_reducible exact ih5 _ _ _ _)
   | (with_reducible exact ih6 _ _ _)
   | (with_reducible exact ih7 _ _ _ _)
   | (with_reducible exact ih8 _ _ _ _ _ _)
   | (with_reducible exact ih9 _ _ _ _)
   | (with_reducible exact impl_DividePoly.mono _ _ _)
   | (with_reducible exact impl_FibonacciPoly.mono _ _)
   | (with_reducible exact impl_FirstFibonacci.mono _ _)
   | (with_reducible exact impl_GcdPoly.mono _ _ _)
   | (with_reducible exact impl_TimesPoly.mono _ _ _)
   | (with_reducible exact laws_vGcd.mono _ _ _)
   | (with_reducible exact spec_DrawFirstFibonacci.mono _ _)
   | (with_reducible exact spec_FibonacciPoly.mono _ _)
   | (with_reducible exact spec_FirstFibonacci.mono _ _)
   | (with_reducible exact LeO.refl _)
   | (with_reducible exact LeO.none _)
   | (with_reducible refine LeO.ite ?_ ?_)
   | (with_reducible refine LeO.bind ?_ (fun _ => ?_))
   | exact ih0 _ _ _ _ _ _ _ _
   | exact ih1 _ _ _ _ _ _ _
   | exact ih2 _ _ _ _
   | exact ih3 _ _ _ _
   | exact ih4 _
   | exact ih5 _ _ _ _
   | exact ih6 _ _ _
   | exact ih7 _ _ _ _
   | exact ih8 _ _ _ _ _ _
   | exact ih9 _ _ _ _
   | exact impl_DividePoly.mono _ _ _
   | exact impl_FibonacciPoly.mono _ _
   | exact impl_FirstFibonacci.mono _ _
   | exact impl_GcdPoly.mono _ _ _
   | exact impl_TimesPoly.mono _ _ _
   | exact laws_vGcd.mono _ _ _
   | exact spec_DrawFirstFibonacci.mono _ _
   | exact spec_FibonacciPoly.mono _ _
   | exact spec_FirstFibonacci.mono _ _
   | exact LeO.none _
   | refine LeO.ite ?_ ?_
   | refine LeO.bind ?_ (fun _ => ?_)
  ·intro y0 y1 y2 y3
   unfold laws_FnFibonaccisPolynomials.j2
   repeat' first
   | (with_reducible exact ih0 _ _ _ _ _ _ _ _)
   | (with_reducible exact ih1 _ _ _ _ _ _ _)
   | (with_reducible exact ih2 _ _ _ _)
   | (with_reducible exact ih3 _ _ _ _)
   | (with_reducible exact ih4 _)
   | (with_reducible exact ih5 _ _ _ _)
   | (with_reducible exact ih6 _ _ _)
   | (with_reducible exact ih7 _ _ _ _)
   | (with_reducible exact ih8 _ _ _ _ _ _)
   | (with_reducible exact ih9 _ _ _ _)
   | (with_reducible exact impl_DividePoly.mono _ _ _)
   | (with_reducible exact impl_FibonacciPoly.mono _ _)
   | (with_reducible exact impl_FirstFibonacci.mono _ _)
   | (with_reducible exact impl_GcdPoly.mono _ _ _)
   | (with_reducible exact impl_TimesPoly.mono _ _ _)
   | (with_reducible exact laws_vGcd.mono _ _ _)
   | (with_reducible exact spec_DrawFirstFibonacci.mono _ _)
   | (with_reducible exact spec_FibonacciPoly.mono _ _)
   | (with_reducible exact spec_FirstFibonacci.mono _ _)
   | (with_reducible exact LeO.refl _)
   | (with_reducible exact LeO.none _)
   | (with_reducible refine LeO.ite ?_ ?_)
   | (with_reducible refine LeO.bind ?_ (fun _ => ?_))
   | exact ih0 _ _ _ _ _ _ _ _
   | exact ih1 _ _ _ _ _ _ _
   | exact ih2 _ _ _ _
   | exact ih3 _ _ _ _
   | exact ih4 _
   | exact ih5 _ _ _ _
   | exact ih6 _ _ _
   | exact ih7 _ _ _ _
   | exact ih8 _ _ _ _ _ _
   | exact ih9 _ _ _ _
   | exact impl_DividePoly.mono _ _ _
   | exact impl_FibonacciPoly.mono _ _
   | exact impl_FirstFibonacci.mono _ _
   | exact impl_GcdPoly.mono _ _ _
   | exact impl_TimesPoly.mono _ _ _
   | exact laws_vGcd.mono _ _ _
   | exact spec_DrawFirstFibonacci.mono _ _
   | exact spec_FibonacciPoly.mono _ _
   | exact spec_FirstFibonacci.mono _ _
   | exact LeO.none _
   | refine LeO.ite ?_ ?_
   | refine LeO.bind ?_ (fun _ => ?_)
  ·intro y0 y1 y2 y3
   unfold laws_FnFibonaccisPolynomials.j3
   repeat' first
   | (with_reducible exact ih0 _ _ _ _ _ _ _ _)
   | (with_reducible exact ih1 _ _ _ _ _ _ _)
   | (with_reducible exact ih2 _ _ _ _)
   | (with_reducible exact ih3 _ _ _ _)
   | (with_reducible exact ih4 _)
   | (with_reducible exact ih5 _ _ _ _)
   | (with_reducible exact ih6 _ _ _)
   | (with_reducible exact ih7 _ _ _ _)
   | (with_reducible exact ih8 _ _ _ _ _ _)
   | (with_reducible exact ih9 _ _ _ _)
   | (with_reducible exact impl_DividePoly.mono _ _ _)
   | (with_reducible exact impl_FibonacciPoly.mono _ _)
   | (with_reducible exact impl_FirstFibonacci.mono _ _)
   | (with_reducible exact impl_GcdPoly.mono _ _ _)
   | (with_reducible exact impl_TimesPoly.mono _ _ _)
   | (with_reducible exact laws_vGcd.mono _ _ _)
   | (with_reducible exact spec_DrawFirstFibonacci.mono _ _)
   | (with_reducible exact spec_FibonacciPoly.mono _ _)
   | (with_reducible exact spec_FirstFibonacci.mono _ _)
   | (with_reducible exact LeO.refl _)
   | (with_reducible exact LeO.none _)
   | (with_reducible refine LeO.ite ?_ ?_)
   | (with_reducible refine LeO.bind ?_ (fun _ => ?_))
   | exact ih0 _ _ _ _ _ _ _ _
   | exact ih1 _ _ _ _ _ _ _
   | exact ih2 _ _ _ _
   | exact ih3 _ _ _ _
   | exact ih4 _
   | exact ih5 _ _ _ _
   | exact ih6 _ _ _
   | exact ih7 _ _ _ _
   | exact ih8 _ _ _ _ _ _
   | exact ih9 _ _ _ _
   | exact impl_DividePoly.mono _ _ _
   | exact impl_FibonacciPoly.mono _ _
   | exact impl_FirstFibonacci.mono _ _
   | exact impl_GcdPoly.mono _ _ _
   | exact impl_TimesPoly.mono _ _ _
   | exact laws_vGcd.mono _ _ _
   | exact spec_DrawFirstFibonacci.mono _ _
   | exact spec_FibonacciPoly.mono _ _
   | exact spec_FirstFibonacci.mono _ _
   | exact LeO.none _
   | refine LeO.ite ?_ ?_
   | refine LeO.bind ?_ (fun _ => ?_)
  ·intro y0
   unfold laws_FnFibonaccisPolynomials.j6
   repeat' first
   | (with_reducible exact ih0 _ _ _ _ _ _ _ _)
   | (with_reducible exact ih1 _ _ _ _ _ _ _)
   | (with_reducible exact ih2 _ _ _ _)
   | (with_reducible exact ih3 _ _ _ _)
   | (with_reducible exact ih4 _)
   | (with_reducible exact ih5 _ _ _ _)
   | (with_reducible exact ih6 _ _ _)
   | (with_reducible exact ih7 _ _ _ _)
   | (with_reducible exact ih8 _ _ _ _ _ _)
   | (with_reducible exact ih9 _ _ _ _)
   | (with_reducible exact impl_DividePoly.mono _ _ _)
   | (with_reducible exact impl_FibonacciPoly.mono _ _)
   | (with_reducible exact impl_FirstFibonacci.mono _ _)
   | (with_reducible exact impl_GcdPoly.mono _ _ _)
   | (with_reducible exact impl_TimesPoly.mono _ _ _)
   | (with_reducible exact laws_vGcd.mono _ _ _)
   | (with_reducible exact spec_DrawFirstFibonacci.mono _ _)
   | (with_reducible exact spec_FibonacciPoly.mono _ _)
   | (with_reducible exact spec_FirstFibonacci.mono _ _)
   | (with_reducible exact LeO.refl _)
   | (with_reducible exact LeO.none _)
   | (with_reducible refine LeO.ite ?_ ?_)
   | (with_reducible refine LeO.bind ?_ (fun _ => ?_))
   | exact ih0 _ _ _ _ _ _ _ _
   | exact ih1 _ _ _ _ _ _ _
   | exact ih2 _ _ _ _
   | exact ih3 _ _ _ _
   | exact ih4 _
   | exact ih5 _ _ _ _
   | exact ih6 _ _ _
   | exact ih7 _ _ _ _
   | exact ih8 _ _ _ _ _ _
   | exact ih9 _ _ _ _
   | exact impl_DividePoly.mono _ _ _
   | exact impl_FibonacciPoly.mono _ _
   | exact impl_FirstFibonacci.mono _ _
   | exact impl_GcdPoly.mono _ _ _
   | exact impl_TimesPoly.mono _ _ _
   | exact laws_vGcd.mono _ _ _
   | exact spec_DrawFirstFibonacci.mono _ _
   | exact spec_FibonacciPoly.mono _ _
   | exact spec_FirstFibonacci.mono _ _
   | exact LeO.none _
   | refine LeO.ite ?_ ?_
   | refine LeO.bind ?_ (fun _ => ?_)
  ·intro y0 y1 y2 y3
   unfold laws_FnFibonaccisPolynomials.j7
   repeat' first
   | (with_reducible exact ih0 _ _ _ _ _ _ _ _)
   | (with_reducible exact ih1 _ _ _ _ _ _ _)
   | (with_reducible exact ih2 _ _ _ _)
   | (with_reducible exact ih3 _ _ _ _)
   | (with_reducible exact ih4 _)
   | (with_reducible exact ih5 _ _ _ _)
   | (with_reducible exact ih6 _ _ _)
   | (with_reducible exact ih7 _ _ _ _)
   | (with_reducible exact ih8 _ _ _ _ _ _)
   | (with_reducible exact ih9 _ _ _ _)
   | (with_reducible exact impl_DividePoly.mono _ _ _)
   | (with_reducible exact impl_FibonacciPoly.mono _ _)
   | (with_reducible exact impl_FirstFibonacci.mono _ _)
   | (with_reducible exact impl_GcdPoly.mono _ _ _)
   | (with_reducible exact impl_TimesPoly.mono _ _ _)
   | (with_reducible exact laws_vGcd.mono _ _ _)
   | (with_reducible exact spec_DrawFirstFibonacci.mono _ _)
   | (with_reducible exact spec_FibonacciPoly.mono _ _)
   | (with_reducible exact spec_FirstFibonacci.mono _ _)
   | (with_reducible exact LeO.refl _)
   | (with_reducible exact LeO.none _)
   | (with_reducible refine LeO.ite ?_ ?_)
   | (with_reducible refine LeO.bind ?_ (fun _ => ?_))
   | exact ih0 _ _ _ _ _ _ _ _
   | exact ih1 _ _ _ _ _ _ _
   | exact ih2 _ _ _ _
   | exact ih3 _ _ _ _
   | exact ih4 _
   | exact ih5 _ _ _ _
   | exact ih6 _ _ _
   | exact ih7 _ _ _ _
   | exact ih8 _ _ _ _ _ _
   | exact ih9 _ _ _ _
   | exact impl_DividePoly.mono _ _ _
   | exact impl_FibonacciPoly.mono _ _
   | exact impl_FirstFibonacci.mono _ _
   | exact impl_GcdPoly.mono _ _ _
   | exact impl_TimesPoly.mono _ _ _
   | exact laws_vGcd.mono _ _ _
   | exact spec_DrawFirstFibonacci.mono _ _
   | exact spec_FibonacciPoly.mono _ _
   | exact spec_FirstFibonacci.mono _ _
   | exact LeO.none _
   | refine LeO.ite ?_ ?_
   | refine LeO.bind ?_ (fun _ => ?_)
  ·intro y0 y1 y2
   unfold laws_FnFibonaccisPolynomials.l0
   repeat' first
   | (with_reducible exact ih0 _ _ _ _ _ _ _ _)
   | (with_reducible exact ih1 _ _ _ _ _ _ _)
   | (with_reducible exact ih2 _ _ _ _)
   | (with_reducible exact ih3 _ _ _ _)
   | (with_reducible exact ih4 _)
   | (with_reducible exact ih5 _ _ _ _)
   | (with_reducible exact ih6 _ _ _)
   | (with_reducible exact ih7 _ _ _ _)
   | (with_reducible exact ih8 _ _ _ _ _ _)
   | (with_reducible exact ih9 _ _ _ _)
   | (with_reducible exact impl_DividePoly.mono _ _ _)
   | (with_reducible exact impl_FibonacciPoly.mono _ _)
   | (with_reducible exact impl_FirstFibonacci.mono _ _)
   | (with_reducible exact impl_GcdPoly.mono _ _ _)
   | (with_reducible exact impl_TimesPoly.mono _ _ _)
   | (with_reducible exact laws_vGcd.mono _ _ _)
   | (with_reducible exact spec_DrawFirstFibonacci.mono _ _)
   | (with_reducible exact spec_FibonacciPoly.mono _ _)
   | (with_reducible exact spec_FirstFibonacci.mono _ _)
   | (with_reducible exact LeO.refl _)
   | (with_reducible exact LeO.none _)
   | (with_reducible refine LeO.ite ?_ ?_)
   | (with_reducible refine LeO.bind ?_ (fun _ => ?_))
   | exact ih0 _ _ _ _ _ _ _ _
   | exact ih1 _ _ _ _ _ _ _
   | exact ih2 _ _ _ _
   | exact ih3 _ _ _ _
   | exact ih4 _
   | exact ih5 _ _ _ _
   | exact ih6 _ _ _
   | exact ih7 _ _ _ _
   | exact ih8 _ _ _ _ _ _
   | exact ih9 _ _ _ _
   | exact impl_DividePoly.mono _ _ _
   | exact impl_FibonacciPoly.mono _ _
   | exact impl_FirstFibonacci.mono _ _
   | exact impl_GcdPoly.mono _ _ _
   | exact impl_TimesPoly.mono _ _ _
   | exact laws_vGcd.mono _ _ _
   | exact spec_DrawFirstFibonacci.mono _ _
   | exact spec_FibonacciPoly.mono _ _
   | exact spec_FirstFibonacci.mono _ _
   | exact LeO.none _
   | refine LeO.ite ?_ ?_
   | refine LeO.bind ?_ (fun _ => ?_)
  ·intro y0 y1 y2 y3
   unfold laws_FnFibonaccisPolynomials.j9
   repeat' first
   | (with_reducible exact ih0 _ _ _ _ _ _ _ _)
   | (with_reducible exact ih1 _ _ _ _ _ _ _)
   | (with_reducible exact ih2 _ _ _ _)
   | (with_reducible exact ih3 _ _ _ _)
   | (with_reducible exact ih4 _)
   | (with_reducible exact ih5 _ _ _ _)
   | (with_reducible exact ih6 _ _ _)
   | (with_reducible exact ih7 _ _ _ _)
   | (with_reducible exact ih8 _ _ _ _ _ _)
   | (with_reducible exact ih9 _ _ _ _)
   | (with_reducible exact impl_DividePoly.mono _ _ _)
   | (with_reducible exact impl_FibonacciPoly.mono _ _)
   | (with_reducible exact impl_FirstFibonacci.mono _ _)
   | (with_reducible exact impl_GcdPoly.mono _ _ _)
   | (with_reducible exact impl_TimesPoly.mono _ _ _)
   | (with_reducible exact laws_vGcd.mono _ _ _)
   | (with_reducible exact spec_DrawFirstFibonacci.mono _ _)
   | (with_reducible exact spec_FibonacciPoly.mono _ _)
   | (with_reducible exact spec_FirstFibonacci.mono _ _)
   | (with_reducible exact LeO.refl _)
   | (with_reducible exact LeO.none _)
   | (with_reducible refine LeO.ite ?_ ?_)
   | (with_reducible refine LeO.bind ?_ (fun _ => ?_))
   | exact ih0 _ _ _ _ _ _ _ _
   | exact ih1 _ _ _ _ _ _ _
   | exact ih2 _ _ _ _
   | exact ih3 _ _ _ _
   | exact ih4 _
   | exact ih5 _ _ _ _
   | exact ih6 _ _ _
   | exact ih7 _ _ _ _
   | exact ih8 _ _ _ _ _ _
   | exact ih9 _ _ _ _
   | exact impl_DividePoly.mono _ _ _
   | exact impl_FibonacciPoly.mono _ _
   | exact impl_FirstFibonacci.mono _ _
   | exact impl_GcdPoly.mono _ _ _
   | exact impl_TimesPoly.mono _ _ _
   | exact laws_vGcd.mono _ _ _
   | exact spec_DrawFirstFibonacci.mono _ _
   | exact spec_FibonacciPoly.mono _ _
   | exact spec_FirstFibonacci.mono _ _
   | exact LeO.none _
   | refine LeO.ite ?_ ?_
   | refine LeO.bind ?_ (fun _ => ?_)
  ·intro y0 y1 y2 y3 y4 y5
   unfold laws_FnFibonaccisPolynomials.j4
   repeat' first
   | (with_reducible exact ih0 _ _ _ _ _ _ _ _)
   | (with_reducible exact ih1 _ _ _ _ _ _ _)
   | (with_reducible exact ih2 _ _ _ _)
   | (with_reducible exact ih3 _ _ _ _)
   | (with_reducible exact ih4 _)
   | (with_reducible exact ih5 _ _ _ _)
   | (with_reducible exact ih6 _ _ _)
   | (with_reducible exact ih7 _ _ _ _)
   | (with_reducible exact ih8 _ _ _ _ _ _)
   | (with_reducible exact ih9 _ _ _ _)
   | (with_reducible exact impl_DividePoly.mono _ _ _)
   | (with_reducible exact impl_FibonacciPoly.mono _ _)
   | (with_reducible exact impl_FirstFibonacci.mono _ _)
   | (with_reducible exact impl_GcdPoly.mono _ _ _)
   | (with_reducible exact impl_TimesPoly.mono _ _ _)
   | (with_reducible exact laws_vGcd.mono _ _ _)
   | (with_reducible exact spec_DrawFirstFibonacci.mono _ _)
   | (with_reducible exact spec_FibonacciPoly.mono _ _)
   | (with_reducible exact spec_FirstFibonacci.mono _ _)
   | (with_reducible exact LeO.refl _)
   | (with_reducible exact LeO.none _)
   | (with_reducible refine LeO.ite ?_ ?_)
   | (with_reducible refine LeO.bind ?_ (fun _ => ?_))
   | exact ih0 _ _ _ _ _ _ _ _
   | exact ih1 _ _ _ _ _ _ _
   | exact ih2 _ _ _ _
   | exact ih3 _ _ _ _
   | exact ih4 _
   | exact ih5 _ _ _ _
   | exact ih6 _ _ _
   | exact ih7 _ _ _ _
   | exact ih8 _ _ _ _ _ _
   | exact ih9 _ _ _ _
   | exact impl_DividePoly.mono _ _ _
   | exact impl_FibonacciPoly.mono _ _
   | exact impl_FirstFibonacci.mono _ _
   | exact impl_GcdPoly.mono _ _ _
   | exact impl_TimesPoly.mono _ _ _
   | exact laws_vGcd.mono _ _ _
   | exact spec_DrawFirstFibonacci.mono _ _
   | exact spec_FibonacciPoly.mono _ _
   | exact spec_FirstFibonacci.mono _ _
   | exact LeO.none _
   | refine LeO.ite ?_ ?_
   | refine LeO.bind ?_ (fun _ => ?_)
  ·intro y0 y1 y2 y3
   unfold laws_FnFibonaccisPolynomials.j5
   repeat' first
   | (with_reducible exact ih0 _ _ _ _ _ _ _ _)
   | (with_reducible exact ih1 _ _ _ _ _ _ _)
   | (with_reducible exact ih2 _ _ _ _)
   | (with_reducible exact ih3 _ _ _ _)
   | (with_reducible exact ih4 _)
   | (with_reducible exact ih5 _ _ _ _)
   | (with_reducible exact ih6 _ _ _)
   | (with_reducible exact ih7 _ _ _ _)
   | (with_reducible exact ih8 _ _ _ _ _ _)
   | (with_reducible exact ih9 _ _ _ _)
   | (with_reducible exact impl_DividePoly.mono _ _ _)
   | (with_reducible exact impl_FibonacciPoly.mono _ _)
   | (with_reducible exact impl_FirstFibonacci.mono _ _)
   | (with_reducible exact impl_GcdPoly.mono _ _ _)
   | (with_reducible exact impl_TimesPoly.mono _ _ _)
   | (with_reducible exact laws_vGcd.mono _ _ _)
   | (with_reducible exact spec_DrawFirstFibonacci.mono _ _)
   | (with_reducible exact spec_FibonacciPoly.mono _ _)
   | (with_reducible exact spec_FirstFibonacci.mono _ _)
   | (with_reducible exact LeO.refl _)
   | (with_reducible exact LeO.none _)
   | (with_reducible refine LeO.ite ?_ ?_)
   | (with_reducible refine LeO.bind ?_ (fun _ => ?_))
   | exact ih0 _ _ _ _ _ _ _ _
   | exact ih1 _ _ _ _ _ _ _
   | exact ih2 _ _ _ _
   | exact ih3 _ _ _ _
   | exact ih4 _
   | exact ih5 _ _ _ _
   | exact ih6 _ _ _
   | exact ih7 _ _ _ _
   | exact ih8 _ _ _ _ _ _
   | exact ih9 _ _ _ _
   | exact impl_DividePoly.mono _ _ _
   | exact impl_FibonacciPoly.mono _ _
   | exact impl_FirstFibonacci.mono _ _
   | exact impl_GcdPoly.mono _ _ _
   | exact impl_TimesPoly.mono _ _ _
   | exact laws_vGcd.mono _ _ _
   | exact spec_DrawFirstFibonacci.mono _ _
   | exact spec_FibonacciPoly.mono _ _
   | exact spec_FirstFibonacci.mono _ _
   | exact LeO.none _
   | refine LeO.ite ?_ ?_
   | refine LeO.bind ?_ (fun _ => ?_)
theorem laws_FnFibonaccisPolynomials.mono : ∀ a0 a1 k, LeO (laws_FnFibonaccisPolynomials.f k a0 a1) (laws_FnFibonaccisPolynomials.f (k + 1) a0 a1) := by
 intro a0 a1 k
 obtain ⟨ih0, ih1, ih2, ih3, ih4, ih5, ih6, ih7, ih8, ih9⟩ := laws_FnFibonaccisPolynomials.mono_l k
 unfold laws_FnFibonaccisPolynomials.f
 repeat' first
   | (with_reducible exact ih0 _ _ _ _ _ _ _ _)
   | (with_reducible exact ih1 _ _ _ _ _ _ _)
   | (with_reducible exact ih2 _ _ _ _)
   | (with_reducible exact ih3 _ _ _ _)
   | (with_reducible exact ih4 _)
   | (with_reducible exact ih5 _ _ _ _)
   | (with_reducible exact ih6 _ _ _)
   | (with_reducible exact ih7 _ _ _ _)
   | (with_reducible exact ih8 _ _ _ _ _ _)
   | (with_reducible exact ih9 _ _ _ _)
   | (with_reducible exact impl_DividePoly.mono _ _ _)
   | (with_reducible exact impl_FibonacciPoly.mono _ _)
   | (with_reducible exact impl_FirstFibonacci.mono _ _)
   | (with_reducible exact impl_GcdPoly.mono _ _ _)
   | (with_reducible exact impl_TimesPoly.mono _ _ _)
   | (with_reducible exact laws_vGcd.mono _ _ _)
   | (with_reducible exact spec_DrawFirstFibonacci.mono _ _)
   | (with_reducible exact spec_FibonacciPoly.mono _ _)
   | (with_reducible exact spec_FirstFibonacci.mono _ _)
   | (with_reducible exact LeO.refl _)
   | (with_reducible exact LeO.none _)
   | (with_reducible refine LeO.ite ?_ ?_)
   | (with_reducible refine LeO.bind ?_ (fun _ => ?_))
   | exact ih0 _ _ _ _ _ _ _ _
   | exact ih1 _ _ _ _ _ _ _
   | exact ih2 _ _ _ _
   | exact ih3 _ _ _ _
   | exact ih4 _
   | exact ih5 _ _ _ _
   | exact ih6 _ _ _
   | exact ih7 _ _ _ _
   | exact ih8 _ _ _ _ _ _
   | exact ih9 _ _ _ _
   | exact impl_DividePoly.mono _ _ _
   | exact impl_FibonacciPoly.mono _ _
   | exact impl_FirstFibonacci.mono _ _
   | exact impl_GcdPoly.mono _ _ _
   | exact impl_TimesPoly.mono _ _ _
   | exact laws_vGcd.mono _ _ _
   | exact spec_DrawFirstFibonacci.mono _ _
   | exact spec_FibonacciPoly.mono _ _
   | exact spec_FirstFibonacci.mono _ _
   | exact LeO.none _
   | refine LeO.ite ?_ ?_
   | refine LeO.bind ?_ (fun _ => ?_)
set_option maxHeartbeats 8000000 in
set_option maxRecDepth 100000 in
theorem laws_FnFibonaccisPolynomials.calls (k : Nat) (A0 : Option Addr) (c0 : Nat) (l0 : List Int) (A1 : Option Addr) (c1 : Nat) (l1 : List Int) (r : Bool) (w : World) (hr0 : Kd.C (Kd.int .u8) w A0 l0.length l0) (hc0 : l0.length ≤ c0) (hr1 : Kd.C (Kd.int .u8) w A1 l1.length l1) (hc1 : l1.length ≤ c1) (h : laws_FnFibonaccisPolynomials.f k l0 l1 = some r) :
  Calls Try.prog 5 #[.slice A0 l0.length c0, .slice A1 l1.length c1] w fun e w' => e = .returned (.bool r) ∧ Below w.heap.size w w' := by
 have HR0 := Aside0.mk hr0
 have HC0 := Aside0.mk hc0
 clear hr0 hc0
 have HR1 := Aside0.mk hr1
 have HC1 := Aside0.mk hc1
 clear hr1 hc1
 have HB := Aside0.mk (Below.refl w.heap.size w)
 have H : ((laws_big.f l0 l1).bind fun t307 => (if t307 = true then (some true) else ((spec_DrawFibonacciPoly.f l0).bind fun t308 => ((impl_FibonacciPoly.f k t308).bind fun bt309 => ((spec_FibonacciPoly.f k t308).bind fun bt311 => ((spec_DrawFibonacciPoly.f l1).bind fun t313 => ((impl_FibonacciPoly.f k t313).bind fun bt314 => ((spec_FibonacciPoly.f k t313).bind fun bt316 => (if (bt309.2 != bt311.2) = true then (laws_FnFibonaccisPolynomials.j0 k l1 t308 bt309.1 bt309.2 t313 bt314.1 bt314.2 true) else (if bt309.1 = bt311.1 then (if (bt314.2 != bt316.2) = true then (laws_FnFibonaccisPolynomials.j0 k l1 t308 bt309.1 bt309.2 t313 bt314.1 bt314.2 true) else (laws_FnFibonaccisPolynomials.j0 k l1 t308 bt309.1 bt309.2 t313 bt314.1 bt314.2 (bt314.1 != bt316.1))) else (laws_FnFibonaccisPolynomials.j0 k l1 t308 bt309.1 bt309.2 t313 bt314.1 bt314.2 true))))))))))) = some r := h
 clear h
 replace H := Option.bind_eq_some_iff.mp H
 obtain ⟨t307, A30, H⟩ := H
 replace H : (if t307 = true then (some true) else ((spec_DrawFibonacciPoly.f l0).bind fun t308 => ((impl_FibonacciPoly.f k t308).bind fun bt309 => ((spec_FibonacciPoly.f k t308).bind fun bt311 => ((spec_DrawFibonacciPoly.f l1).bind fun t313 => ((impl_FibonacciPoly.f k t313).bind fun bt314 => ((spec_FibonacciPoly.f k t313).bind fun bt316 => (if (bt309.2 != bt311.2) = true then (laws_FnFibonaccisPolynomials.j0 k l1 t308 bt309.1 bt309.2 t313 bt314.1 bt314.2 true) else (if bt309.1 = bt311.1 then (if (bt314.2 != bt316.2) = true then (laws_FnFibonaccisPolynomials.j0 k l1 t308 bt309.1 bt309.2 t313 bt314.1 bt314.2 true) else (laws_FnFibonaccisPolynomials.j0 k l1 t308 bt309.1 bt309.2 t313 bt314.1 bt314.2 (bt314.1 != bt316.1))) else (laws_FnFibonaccisPolynomials.j0 k l1 t308 bt309.1 bt309.2 t313 bt314.1 bt314.2 true)))))))))) = some r := H
 have A3 := Aside0.mk A30
 clear A30
 by_cases c4 : t307 = true
 ·subst c4
  have H1 : (some true) = some r := by rw [if_pos rfl] at H; exact H
  clear H
  have H := H1
  clear H1
  as_aux_lemma =>
   obtain rfl := Option.some.inj H
   go_enter Try.func5, Try.ntmps5
   go_wp2_with (first | ((with_reducible refine gate_callee (f := 13) rfl ?_); refine goesL_ (some 40) rfl rfl Try.func13 (by kernel_rfl) rfl #[.slice A0 l0.length c0, .slice A1 l1.length c1] rfl (by (try simp only [List.map_toArray, List.map_cons, List.map_nil]); first | done | rfl | (simp only [List.length_drop, List.length_take]; rfl)) ?_; (with_reducible refine (laws_big.calls _ _ l0 _ _ l1 true _ ?side1 ?side2 ?side3 ?side4 A3.out).mono ?_); (case side1 => repeat (first | exact HR0.out | (with_reducible refine Kd.C_alloc ?_ _) | (with_reducible refine Kd.C_drewN ?_ _) | (with_reducible refine Kd.C_drew ?_))); (case side2 => exact HC0.out); (case side3 => repeat (first | exact HR1.out | (with_reducible refine Kd.C_alloc ?_ _) | (with_reducible refine Kd.C_drewN ?_ _) | (with_reducible refine Kd.C_drew ?_))); (case side4 => exact HC1.out); rintro e w' ⟨rfl, ⟨nd, rfl⟩⟩; refine ⟨_, rfl, ?_⟩))
   go_ret
   exact ⟨by first | rfl | (simp [errW_none, errW_some] <;> rfl) | (simp [*, errW_none, errW_some] <;> rfl), by repeat (first | (with_reducible first | exact HB.out | apply below_alloc | apply pw_below_drewN | apply below_drew1) | exact HB.out)⟩
 ·replace c4 := Bool.eq_false_iff.mpr c4
  subst c4
  have H1 : ((spec_DrawFibonacciPoly.f l0).bind fun t308 => ((impl_FibonacciPoly.f k t308).bind fun bt309 => ((spec_FibonacciPoly.f k t308).bind fun bt311 => ((spec_DrawFibonacciPoly.f l1).bind fun t313 => ((impl_FibonacciPoly.f k t313).bind fun bt314 => ((spec_FibonacciPoly.f k t313).bind fun bt316 => (if (bt309.2 != bt311.2) = true then (laws_FnFibonaccisPolynomials.j0 k l1 t308 bt309.1 bt309.2 t313 bt314.1 bt314.2 true) else (if bt309.1 = bt311.1 then (if (bt314.2 != bt316.2) = true then (laws_FnFibonaccisPolynomials.j0 k l1 t308 bt309.1 bt309.2 t313 bt314.1 bt314.2 true) else (laws_FnFibonaccisPolynomials.j0 k l1 t308 bt309.1 bt309.2 t313 bt314.1 bt314.2 (bt314.1 != bt316.1))) else (laws_FnFibonaccisPolynomials.j0 k l1 t308 bt309.1 bt309.2 t313 bt314.1 bt314.2 true))))))))) = some r := by rw [if_neg (show ¬ (false = true) by decide)] at H; exact H
  clear H
  have H := H1
  clear H1
  replace H := Option.bind_eq_some_iff.mp H
  obtain ⟨t308, A50, H⟩ := H
  replace H : ((impl_FibonacciPoly.f k t308).bind fun bt309 => ((spec_FibonacciPoly.f k t308).bind fun bt311 => ((spec_DrawFibonacciPoly.f l1).bind fun t313 => ((impl_FibonacciPoly.f k t313).bind fun bt314 => ((spec_FibonacciPoly.f k t313).bind fun bt316 => (if (bt309.2 != bt311.2) = true then (laws_FnFibonaccisPolynomials.j0 k l1 t308 bt309.1 bt309.2 t313 bt314.1 bt314.2 true) else (if bt309.1 = bt311.1 then (if (bt314.2 != bt316.2) = true then (laws_FnFibonaccisPolynomials.j0 k l1 t308 bt309.1 bt309.2 t313 bt314.1 bt314.2 true) else (laws_FnFibonaccisPolynomials.j0 k l1 t308 bt309.1 bt309.2 t313 bt314.1 bt314.2 (bt314.1 != bt316.1))) else (laws_FnFibonaccisPolynomials.j0 k l1 t308 bt309.1 bt309.2 t313 bt314.1 bt314.2 true)))))))) = some r := H
  have A5 := Aside0.mk A50
  clear A50
  replace H := Option.bind_eq_some_iff.mp H
  obtain ⟨⟨t309, t310⟩, A60, H⟩ := H
  replace H : ((spec_FibonacciPoly.f k t308).bind fun bt311 => ((spec_DrawFibonacciPoly.f l1).bind fun t313 => ((impl_FibonacciPoly.f k t313).bind fun bt314 => ((spec_FibonacciPoly.f k t313).bind fun bt316 => (if (t310 != bt311.2) = true then (laws_FnFibonaccisPolynomials.j0 k l1 t308 t309 t310 t313 bt314.1 bt314.2 true) else (if t309 = bt311.1 then (if (bt314.2 != bt316.2) = true then (laws_FnFibonaccisPolynomials.j0 k l1 t308 t309 t310 t313 bt314.1 bt314.2 true) else (laws_FnFibonaccisPolynomials.j0 k l1 t308 t309 t310 t313 bt314.1 bt314.2 (bt314.1 != bt316.1))) else (laws_FnFibonaccisPolynomials.j0 k l1 t308 t309 t310 t313 bt314.1 bt314.2 true))))))) = some r := H
  have A6 := Aside0.mk A60
  clear A60
  replace H := Option.bind_eq_some_iff.mp H
  obtain ⟨⟨t311, t312⟩, A70, H⟩ := H
  replace H : ((spec_DrawFibonacciPoly.f l1).bind fun t313 => ((impl_FibonacciPoly.f k t313).bind fun bt314 => ((spec_FibonacciPoly.f k t313).bind fun bt316 => (if (t310 != t312) = true then (laws_FnFibonaccisPolynomials.j0 k l1 t308 t309 t310 t313 bt314.1 bt314.2 true) else (if t309 = t311 then (if (bt314.2 != bt316.2) = true then (laws_FnFibonaccisPolynomials.j0 k l1 t308 t309 t310 t313 bt314.1 bt314.2 true) else (laws_FnFibonaccisPolynomials.j0 k l1 t308 t309 t310 t313 bt314.1 bt314.2 (bt314.1 != bt316.1))) else (laws_FnFibonaccisPolynomials.j0 k l1 t308 t309 t310 t313 bt314.1 bt314.2 true)))))) = some r := H
  have A7 := Aside0.mk A70
  clear A70
  replace H := Option.bind_eq_some_iff.mp H
  obtain ⟨t313, A80, H⟩ := H
  replace H : ((impl_FibonacciPoly.f k t313).bind fun bt314 => ((spec_FibonacciPoly.f k t313).bind fun bt316 => (if (t310 != t312) = true then (laws_FnFibonaccisPolynomials.j0 k l1 t308 t309 t310 t313 bt314.1 bt314.2 true) else (if t309 = t311 then (if (bt314.2 != bt316.2) = true then (laws_FnFibonaccisPolynomials.j0 k l1 t308 t309 t310 t313 bt314.1 bt314.2 true) else (laws_FnFibonaccisPolynomials.j0 k l1 t308 t309 t310 t313 bt314.1 bt314.2 (bt314.1 != bt316.1))) else (laws_FnFibonaccisPolynomials.j0 k l1 t308 t309 t310 t313 bt314.1 bt314.2 true))))) = some r := H
  have A8 := Aside0.mk A80
  clear A80
  replace H := Option.bind_eq_some_iff.mp H
  obtain ⟨⟨t314, t315⟩, A90, H⟩ := H
  replace H : ((spec_FibonacciPoly.f k t313).bind fun bt316 => (if (t310 != t312) = true then (laws_FnFibonaccisPolynomials.j0 k l1 t308 t309 t310 t313 t314 t315 true) else (if t309 = t311 then (if (t315 != bt316.2) = true then (laws_FnFibonaccisPolynomials.j0 k l1 t308 t309 t310 t313 t314 t315 true) else (laws_FnFibonaccisPolynomials.j0 k l1 t308 t309 t310 t313 t314 t315 (t314 != bt316.1))) else (laws_FnFibonaccisPolynomials.j0 k l1 t308 t309 t310 t313 t314 t315 true)))) = some r := H
  have A9 := Aside0.mk A90
  clear A90
  replace H := Option.bind_eq_some_iff.mp H
  obtain ⟨⟨t316, t317⟩, A100, H⟩ := H
  replace H : (if (t310 != t312) = true then (laws_FnFibonaccisPolynomials.j0 k l1 t308 t309 t310 t313 t314 t315 true) else (if t309 = t311 then (if (t315 != t317) = true then (laws_FnFibonaccisPolynomials.j0 k l1 t308 t309 t310 t313 t314 t315 true) else (laws_FnFibonaccisPolynomials.j0 k l1 t308 t309 t310 t313 t314 t315 (t314 != t316))) else (laws_FnFibonaccisPolynomials.j0 k l1 t308 t309 t310 t313 t314 t315 true))) = some r := H
  have A10 := Aside0.mk A100
  clear A100
  have HC11 := Aside0.mk H
  clear H
  go_enter Try.func5, Try.ntmps5
  go_upto_region 9 with (first | ((with_reducible refine gate_callee (f := 13) rfl ?_); refine goesL_ (some 40) rfl rfl Try.func13 (by kernel_rfl) rfl #[.slice A0 l0.length c0, .slice A1 l1.length c1] rfl (by (try simp only [List.map_toArray, List.map_cons, List.map_nil]); first | done | rfl | (simp only [List.length_drop, List.length_take]; rfl)) ?_; (with_reducible refine (laws_big.calls _ _ l0 _ _ l1 false _ ?side1 ?side2 ?side3 ?side4 A3.out).mono ?_); (case side1 => repeat (first | exact HR0.out | (with_reducible refine Kd.C_alloc ?_ _) | (with_reducible refine Kd.C_drewN ?_ _) | (with_reducible refine Kd.C_drew ?_))); (case side2 => exact HC0.out); (case side3 => repeat (first | exact HR1.out | (with_reducible refine Kd.C_alloc ?_ _) | (with_reducible refine Kd.C_drewN ?_ _) | (with_reducible refine Kd.C_drew ?_))); (case side4 => exact HC1.out); rintro e w' ⟨rfl, ⟨nd, rfl⟩⟩; refine ⟨_, rfl, ?_⟩) | ((with_reducible refine gate_callee (f := 14) rfl ?_); refine goesL_ (some 42) rfl rfl Try.func14 (by kernel_rfl) rfl #[.slice A0 l0.length c0] rfl (by (try simp only [List.map_toArray, List.map_cons, List.map_nil]); first | done | rfl | (simp only [List.length_drop, List.length_take]; rfl)) ?_; (with_reducible refine (spec_DrawFibonacciPoly.calls _ _ l0 t308 _ ?side1 ?side2 A5.out).mono ?_); (case side1 => repeat (first | exact HR0.out | (with_reducible refine Kd.C_alloc ?_ _) | (with_reducible refine Kd.C_drewN ?_ _) | (with_reducible refine Kd.C_drew ?_))); (case side2 => exact HC0.out); rintro e w12 ⟨rfl, hb⟩; refine ⟨_, rfl, ?_⟩; have n0_ := Aside0.mk (below_step (by repeat (first | (with_reducible first | exact HB.out | apply below_alloc | apply pw_below_drewN | apply below_drew1) | exact HB.out)) hb); clear HB; have HB := n0_; clear n0_; (try clear hb); (try clear hb2); (try clear hk); (try clear hi)) | ((with_reducible refine gate_callee (f := 15) rfl ?_); refine goesL_ (some 45) rfl rfl Try.func15 (by kernel_rfl) rfl #[.int .i64 t308] rfl (by (try simp only [List.map_toArray, List.map_cons, List.map_nil]); first | done | rfl | (simp only [List.length_drop, List.length_take]; rfl)) ?_; (with_reducible refine (impl_FibonacciPoly.calls k t308 t309 t310 _ A6.out).mono ?_); rintro e w' ⟨rfl, ⟨nd, rfl⟩⟩; refine ⟨_, rfl, ?_⟩) | ((with_reducible refine gate_callee (f := 16) rfl ?_); refine goesL_ (some 50) rfl rfl Try.func16 (by kernel_rfl) rfl #[.int .i64 t308] rfl (by (try simp only [List.map_toArray, List.map_cons, List.map_nil]); first | done | rfl | (simp only [List.length_drop, List.length_take]; rfl)) ?_; (with_reducible refine (spec_FibonacciPoly.calls k t308 t311 t312 _ A7.out).mono ?_); rintro e w' ⟨rfl, ⟨nd, rfl⟩⟩; refine ⟨_, rfl, ?_⟩) | ((with_reducible refine gate_callee (f := 14) rfl ?_); refine goesL_ (some 54) rfl rfl Try.func14 (by kernel_rfl) rfl #[.slice A1 l1.length c1] rfl (by (try simp only [List.map_toArray, List.map_cons, List.map_nil]); first | done | rfl | (simp only [List.length_drop, List.length_take]; rfl)) ?_; (with_reducible refine (spec_DrawFibonacciPoly.calls _ _ l1 t313 _ ?side1 ?side2 A8.out).mono ?_); (case side1 => repeat (first | exact (Kd.C_below HR1.out (by repeat (first | (with_reducible first | exact HB.out | apply below_alloc | apply pw_below_drewN | apply below_drew1) | exact HB.out))) | (with_reducible refine Kd.C_alloc ?_ _) | (with_reducible refine Kd.C_drewN ?_ _) | (with_reducible refine Kd.C_drew ?_))); (case side2 => exact HC1.out); rintro e w13 ⟨rfl, hb⟩; refine ⟨_, rfl, ?_⟩; have n0_ := Aside0.mk (below_step (by repeat (first | (with_reducible first | exact HB.out | apply below_alloc | apply pw_below_drewN | apply below_drew1) | exact HB.out)) hb); clear HB; have HB := n0_; clear n0_; (try clear hb); (try clear hb2); (try clear hk); (try clear hi)) | ((with_reducible refine gate_callee (f := 15) rfl ?_); refine goesL_ (some 57) rfl rfl Try.func15 (by kernel_rfl) rfl #[.int .i64 t313] rfl (by (try simp only [List.map_toArray, List.map_cons, List.map_nil]); first | done | rfl | (simp only [List.length_drop, List.length_take]; rfl)) ?_; (with_reducible refine (impl_FibonacciPoly.calls k t313 t314 t315 _ A9.out).mono ?_); rintro e w' ⟨rfl, ⟨nd, rfl⟩⟩; refine ⟨_, rfl, ?_⟩) | ((with_reducible refine gate_callee (f := 16) rfl ?_); refine goesL_ (some 62) rfl rfl Try.func16 (by kernel_rfl) rfl #[.int .i64 t313] rfl (by (try simp only [List.map_toArray, List.map_cons, List.map_nil]); first | done | rfl | (simp only [List.length_drop, List.length_take]; rfl)) ?_; (with_reducible refine (spec_FibonacciPoly.calls k t313 t316 t317 _ A10.out).mono ?_); rintro e w' ⟨rfl, ⟨nd, rfl⟩⟩; refine ⟨_, rfl, ?_⟩))
  (try simp only [Act.put, List.setIfInBounds_toArray, List.set_cons_zero, List.set_cons_succ])
  go_cut [82] (fun v82 wc => ∃ (kq : Nat) (x82_10 : Bool), v82 = .bool x82_10 ∧ Aside0 (laws_FnFibonaccisPolynomials.j0 kq l1 t308 t309 t310 t313 t314 t315 x82_10 = some r) ∧ Aside0 (kq ≤ k) ∧ Aside0 (Below w.heap.size w wc))
  case first =>
   have H := HC11.out
   clear HC11
   by_cases c14 : (t310 != t312) = true
   ·rw [if_pos c14] at H
    have c14b0 : (t310 != t312) = true := c14
    (try (have c14b1 : decide (t310 = t312) = false := by simpa using c14))
    (try (have c14b2 : (t310 == t312) = false := by simpa using c14))
    (try (have c14b3 : ¬ (t310 = t312) := by simpa using c14))
    clear c14
    (first | rw [c14b0] | (simp only [i64_w, i32_w]; rw [c14b0]) | skip)
    as_aux_lemma =>
     have H' := Aside0.mk H
     clear H
     go_wp2
     go_meet
     case rel => exact ⟨_, (true), (by first | rfl | (simp; done) | (simp [*]; done)), H', ⟨by first | omega | exact Nat.le_refl _⟩, ⟨by repeat (first | (with_reducible first | exact HB.out | apply below_alloc | apply pw_below_drewN | apply below_drew1) | exact HB.out)⟩⟩
   ·rw [if_neg c14] at H
    have c14b0 : (t310 != t312) = false := by simpa using c14
    (try (have c14b1 : decide (t310 = t312) = true := by simpa using c14))
    (try (have c14b2 : (t310 == t312) = true := by simpa using c14))
    clear c14
    (first | rw [c14b0] | (simp only [i64_w, i32_w]; rw [c14b0]) | skip)
    by_cases c15 : t309 = t311
    ·rw [if_pos c15] at H
     have c15b0 : (t309 == t311) = true := beq_iff_eq.mpr c15
     have c15b1 : (t309 != t311) = false := bne_eq_false_iff_eq.mpr c15
     clear c15
     by_cases c16 : (t315 != t317) = true
     ·rw [if_pos c16] at H
      have c16b0 : (t315 != t317) = true := c16
      (try (have c16b1 : decide (t315 = t317) = false := by simpa using c16))
      (try (have c16b2 : (t315 == t317) = false := by simpa using c16))
      (try (have c16b3 : ¬ (t315 = t317) := by simpa using c16))
      clear c16
      as_aux_lemma =>
       have H' := Aside0.mk H
       clear H
       go_wp2
       go_meet
       case rel => exact ⟨_, (true), (by first | rfl | (simp; done) | (simp [*]; done)), H', ⟨by first | omega | exact Nat.le_refl _⟩, ⟨by repeat (first | (with_reducible first | exact HB.out | apply below_alloc | apply pw_below_drewN | apply below_drew1) | exact HB.out)⟩⟩
     ·rw [if_neg c16] at H
      have c16b0 : (t315 != t317) = false := by simpa using c16
      (try (have c16b1 : decide (t315 = t317) = true := by simpa using c16))
      (try (have c16b2 : (t315 == t317) = true := by simpa using c16))
      clear c16
      as_aux_lemma =>
       have H' := Aside0.mk H
       clear H
       go_wp2
       go_meet
       case rel => exact ⟨_, ((t314 != t316)), (by first | rfl | (simp; done) | (simp [*]; done)), H', ⟨by first | omega | exact Nat.le_refl _⟩, ⟨by repeat (first | (with_reducible first | exact HB.out | apply below_alloc | apply pw_below_drewN | apply below_drew1) | exact HB.out)⟩⟩
    ·rw [if_neg c15] at H
     have c15b0 : (t309 == t311) = false := beq_eq_false_iff_ne.mpr c15
     have c15b1 : (t309 != t311) = true := bne_iff_ne.mpr c15
     as_aux_lemma =>
      have H' := Aside0.mk H
      clear H
      go_wp2
      go_meet
      case rel => exact ⟨_, (true), (by first | rfl | (simp; done) | (simp [*]; done)), H', ⟨by first | omega | exact Nat.le_refl _⟩, ⟨by repeat (first | (with_reducible first | exact HB.out | apply below_alloc | apply pw_below_drewN | apply below_drew1) | exact HB.out)⟩⟩
  case rest =>
   clear HC11;(try clear c1);(try clear p2);(try clear c4);(try clear c5);(try clear c13);(try clear c14);(try clear c14b0);(try clear c14b1);(try clear c14b2);(try clear c15);(try clear c15b0);(try clear c15b1);(try clear c16);(try clear c16b0);(try clear c16b1);(try clear c16b2)
   obtain ⟨kq, x82_10, rfl, HA, HJ10, HB⟩ := hcut
   cases kq with
   | zero => exact absurd HA.out (by simp [laws_FnFibonaccisPolynomials.j0])
   | succ kj10 =>
    have H := HA.out
    clear HA
    simp only [laws_FnFibonaccisPolynomials.j0] at H
    by_cases c17 : x82_10 = true
    ·subst c17
     have H1 : (some false) = some r := by rw [if_pos rfl] at H; exact H
     clear H
     have H := H1
     clear H1
     as_aux_lemma =>
      obtain rfl := Option.some.inj H
      go_wp2
      go_ret
      exact ⟨by first | rfl | (simp [errW_none, errW_some] <;> rfl) | (simp [*, errW_none, errW_some] <;> rfl), by repeat (first | (with_reducible first | exact HB.out | apply below_alloc | apply pw_below_drewN | apply below_drew1) | exact HB.out)⟩
    ·replace c17 := Bool.eq_false_iff.mpr c17
     subst c17
     have H1 : (if t310 = true then (laws_FnFibonaccisPolynomials.j1 kj10 l1 t308 t309 t310 t313 t314 t315) else (laws_FnFibonaccisPolynomials.j1 kj10 l1 t308 t309 t310 t313 t314 false)) = some r := by rw [if_neg (show ¬ (false = true) by decide)] at H; exact H
     clear H
     have H := H1
     clear H1
     have HC18 := Aside0.mk H
     clear H
     go_upto_region 11 with (fail)
     go_cut [86] (fun v86 wc => ∃ (kq : Nat) (x86_17 : Bool), v86 = .bool x86_17 ∧ Aside0 (laws_FnFibonaccisPolynomials.j1 kq l1 t308 t309 t310 t313 t314 x86_17 = some r) ∧ Aside0 (kq ≤ kj10) ∧ Aside0 (Below w.heap.size w wc))
     case first =>
      have H := HC18.out
      clear HC18
      by_cases c19 : t310 = true
      ·subst c19
       have H1 : (laws_FnFibonaccisPolynomials.j1 kj10 l1 t308 t309 true t313 t314 t315) = some r := by rw [if_pos rfl] at H; exact H
       clear H
       have H := H1
       clear H1
       as_aux_lemma =>
        have H' := Aside0.mk H
        clear H
        go_wp2
        go_meet
        case rel => exact ⟨_, (t315), (by first | rfl | (simp; done) | (simp [*]; done)), H', ⟨by have := HJ10.out; first | omega | exact Nat.le_refl _⟩, ⟨by repeat (first | (with_reducible first | exact HB.out | apply below_alloc | apply pw_below_drewN | apply below_drew1) | exact HB.out)⟩⟩
      ·replace c19 := Bool.eq_false_iff.mpr c19
       subst c19
       have H1 : (laws_FnFibonaccisPolynomials.j1 kj10 l1 t308 t309 false t313 t314 false) = some r := by rw [if_neg (show ¬ (false = true) by decide)] at H; exact H
       clear H
       have H := H1
       clear H1
       as_aux_lemma =>
        have H' := Aside0.mk H
        clear H
        go_wp2
        go_meet
        case rel => exact ⟨_, (false), (by first | rfl | (simp; done) | (simp [*]; done)), H', ⟨by have := HJ10.out; first | omega | exact Nat.le_refl _⟩, ⟨by repeat (first | (with_reducible first | exact HB.out | apply below_alloc | apply pw_below_drewN | apply below_drew1) | exact HB.out)⟩⟩
     case rest =>
      clear HC18;(try clear c1);(try clear p2);(try clear c4);(try clear c5);(try clear c13);(try clear c14);(try clear c14b0);(try clear c14b1);(try clear c14b2);(try clear c15);(try clear c15b0);(try clear c15b1);(try clear c16);(try clear c16b0);(try clear c16b1);(try clear c16b2);(try clear c17);(try clear c19);(try clear p2)
      obtain ⟨kq, x86_17, rfl, HA, HJ17, HB⟩ := hcut
      cases kq with
      | zero => exact absurd HA.out (by simp [laws_FnFibonaccisPolynomials.j1])
      | succ kj17 =>
       have H := HA.out
       clear HA
       simp only [laws_FnFibonaccisPolynomials.j1] at H
       have HC20 := Aside0.mk H
       clear H
       go_upto_if 86 with (fail)
       go_cut [] (fun wc => ∃ (kq : Nat), Aside0 (laws_FnFibonaccisPolynomials.j2 kq l1 t308 t309 t310 = some r) ∧ Aside0 (kq ≤ kj17) ∧ Aside0 (Below w.heap.size w wc))
       case first =>
        have H := HC20.out
        clear HC20
        by_cases c21 : x86_17 = true
        ·subst c21
         have H1 : ((impl_GcdPoly.f kj17 t309 t314).bind fun bt318 => ((laws_vGcd.f kj17 t308 t313).bind fun t320 => ((impl_FibonacciPoly.f kj17 t320).bind fun bt321 => (if bt318.2 = true then (if bt321.2 = true then (if bt318.1 = bt321.1 then (laws_FnFibonaccisPolynomials.j2 kj17 l1 t308 t309 t310) else (some false)) else (some false)) else (some false))))) = some r := by rw [if_pos rfl] at H; exact H
         clear H
         have H := H1
         clear H1
         replace H := Option.bind_eq_some_iff.mp H
         obtain ⟨⟨t318, t319⟩, A220, H⟩ := H
         replace H : ((laws_vGcd.f kj17 t308 t313).bind fun t320 => ((impl_FibonacciPoly.f kj17 t320).bind fun bt321 => (if t319 = true then (if bt321.2 = true then (if t318 = bt321.1 then (laws_FnFibonaccisPolynomials.j2 kj17 l1 t308 t309 t310) else (some false)) else (some false)) else (some false)))) = some r := H
         have A22 := Aside0.mk A220
         clear A220
         replace H := Option.bind_eq_some_iff.mp H
         obtain ⟨t320, A230, H⟩ := H
         replace H : ((impl_FibonacciPoly.f kj17 t320).bind fun bt321 => (if t319 = true then (if bt321.2 = true then (if t318 = bt321.1 then (laws_FnFibonaccisPolynomials.j2 kj17 l1 t308 t309 t310) else (some false)) else (some false)) else (some false))) = some r := H
         have A23 := Aside0.mk A230
         clear A230
         replace H := Option.bind_eq_some_iff.mp H
         obtain ⟨⟨t321, t322⟩, A240, H⟩ := H
         replace H : (if t319 = true then (if t322 = true then (if t318 = t321 then (laws_FnFibonaccisPolynomials.j2 kj17 l1 t308 t309 t310) else (some false)) else (some false)) else (some false)) = some r := H
         have A24 := Aside0.mk A240
         clear A240
         by_cases c25 : t319 = true
         ·subst c25
          have H1 : (if t322 = true then (if t318 = t321 then (laws_FnFibonaccisPolynomials.j2 kj17 l1 t308 t309 t310) else (some false)) else (some false)) = some r := by rw [if_pos rfl] at H; exact H
          clear H
          have H := H1
          clear H1
          by_cases c26 : t322 = true
          ·subst c26
           have H1 : (if t318 = t321 then (laws_FnFibonaccisPolynomials.j2 kj17 l1 t308 t309 t310) else (some false)) = some r := by rw [if_pos rfl] at H; exact H
           clear H
           have H := H1
           clear H1
           by_cases c27 : t318 = t321
           ·rw [if_pos c27] at H
            have c27b0 : (t318 == t321) = true := beq_iff_eq.mpr c27
            have c27b1 : (t318 != t321) = false := bne_eq_false_iff_eq.mpr c27
            clear c27
            (first | rw [c27b0] | (simp only [i64_w, i32_w]; rw [c27b0]) | skip)
            as_aux_lemma =>
             have H' := Aside0.mk H
             clear H
             go_wp2_with (first | ((with_reducible refine gate_callee (f := 17) rfl ?_); refine goesL_ (some 90) rfl rfl Try.func17 (by kernel_rfl) rfl #[.int .i64 t309, .int .i64 t314] rfl (by (try simp only [List.map_toArray, List.map_cons, List.map_nil]); first | done | rfl | (simp only [List.length_drop, List.length_take]; rfl)) ?_; (with_reducible refine (impl_GcdPoly.calls kj17 t309 t314 t318 true _ A22.out).mono ?_); rintro e w28 ⟨rfl, hb⟩; refine ⟨_, rfl, ?_⟩; have n0_ := Aside0.mk (below_step (by repeat (first | (with_reducible first | exact HB.out | apply below_alloc | apply pw_below_drewN | apply below_drew1) | exact HB.out)) hb); clear HB; have HB := n0_; clear n0_; (try clear hb); (try clear hb2); (try clear hk); (try clear hi)) | ((with_reducible refine gate_callee (f := 18) rfl ?_); refine goesL_ (some 96) rfl rfl Try.func18 (by kernel_rfl) rfl #[.int .i64 t308, .int .i64 t313] rfl (by (try simp only [List.map_toArray, List.map_cons, List.map_nil]); first | done | rfl | (simp only [List.length_drop, List.length_take]; rfl)) ?_; (with_reducible refine (laws_vGcd.calls kj17 t308 t313 t320 _ A23.out).mono ?_); rintro e w' ⟨rfl, ⟨nd, rfl⟩⟩; refine ⟨_, rfl, ?_⟩) | ((with_reducible refine gate_callee (f := 15) rfl ?_); refine goesL_ (some 97) rfl rfl Try.func15 (by kernel_rfl) rfl #[.int .i64 t320] rfl (by (try simp only [List.map_toArray, List.map_cons, List.map_nil]); first | done | rfl | (simp only [List.length_drop, List.length_take]; rfl)) ?_; (with_reducible refine (impl_FibonacciPoly.calls kj17 t320 t321 true _ A24.out).mono ?_); rintro e w' ⟨rfl, ⟨nd, rfl⟩⟩; refine ⟨_, rfl, ?_⟩))
             go_meet
             case rel => exact ⟨_, H', ⟨by have := HJ10.out; have := HJ17.out; first | omega | exact Nat.le_refl _⟩, ⟨by repeat (first | (with_reducible first | exact HB.out | apply below_alloc | apply pw_below_drewN | apply below_drew1) | exact HB.out)⟩⟩
           ·rw [if_neg c27] at H
            have c27b0 : (t318 == t321) = false := beq_eq_false_iff_ne.mpr c27
            have c27b1 : (t318 != t321) = true := bne_iff_ne.mpr c27
            (first | rw [c27b0] | (simp only [i64_w, i32_w]; rw [c27b0]) | skip)
            as_aux_lemma =>
             obtain rfl := Option.some.inj H
             go_wp2_with (first | ((with_reducible refine gate_callee (f := 17) rfl ?_); refine goesL_ (some 90) rfl rfl Try.func17 (by kernel_rfl) rfl #[.int .i64 t309, .int .i64 t314] rfl (by (try simp only [List.map_toArray, List.map_cons, List.map_nil]); first | done | rfl | (simp only [List.length_drop, List.length_take]; rfl)) ?_; (with_reducible refine (impl_GcdPoly.calls kj17 t309 t314 t318 true _ A22.out).mono ?_); rintro e w29 ⟨rfl, hb⟩; refine ⟨_, rfl, ?_⟩; have n0_ := Aside0.mk (below_step (by repeat (first | (with_reducible first | exact HB.out | apply below_alloc | apply pw_below_drewN | apply below_drew1) | exact HB.out)) hb); clear HB; have HB := n0_; clear n0_; (try clear hb); (try clear hb2); (try clear hk); (try clear hi)) | ((with_reducible refine gate_callee (f := 18) rfl ?_); refine goesL_ (some 96) rfl rfl Try.func18 (by kernel_rfl) rfl #[.int .i64 t308, .int .i64 t313] rfl (by (try simp only [List.map_toArray, List.map_cons, List.map_nil]); first | done | rfl | (simp only [List.length_drop, List.length_take]; rfl)) ?_; (with_reducible refine (laws_vGcd.calls kj17 t308 t313 t320 _ A23.out).mono ?_); rintro e w' ⟨rfl, ⟨nd, rfl⟩⟩; refine ⟨_, rfl, ?_⟩) | ((with_reducible refine gate_callee (f := 15) rfl ?_); refine goesL_ (some 97) rfl rfl Try.func15 (by kernel_rfl) rfl #[.int .i64 t320] rfl (by (try simp only [List.map_toArray, List.map_cons, List.map_nil]); first | done | rfl | (simp only [List.length_drop, List.length_take]; rfl)) ?_; (with_reducible refine (impl_FibonacciPoly.calls kj17 t320 t321 true _ A24.out).mono ?_); rintro e w' ⟨rfl, ⟨nd, rfl⟩⟩; refine ⟨_, rfl, ?_⟩))
             go_ret
             exact ⟨by first | rfl | (simp [errW_none, errW_some] <;> rfl) | (simp [*, errW_none, errW_some] <;> rfl), by repeat (first | (with_reducible first | exact HB.out | apply below_alloc | apply pw_below_drewN | apply below_drew1) | exact HB.out)⟩
          ·replace c26 := Bool.eq_false_iff.mpr c26
           subst c26
           have H1 : (some false) = some r := by rw [if_neg (show ¬ (false = true) by decide)] at H; exact H
           clear H
           have H := H1
           clear H1
           as_aux_lemma =>
            obtain rfl := Option.some.inj H
            go_wp2_with (first | ((with_reducible refine gate_callee (f := 17) rfl ?_); refine goesL_ (some 90) rfl rfl Try.func17 (by kernel_rfl) rfl #[.int .i64 t309, .int .i64 t314] rfl (by (try simp only [List.map_toArray, List.map_cons, List.map_nil]); first | done | rfl | (simp only [List.length_drop, List.length_take]; rfl)) ?_; (with_reducible refine (impl_GcdPoly.calls kj17 t309 t314 t318 true _ A22.out).mono ?_); rintro e w30 ⟨rfl, hb⟩; refine ⟨_, rfl, ?_⟩; have n0_ := Aside0.mk (below_step (by repeat (first | (with_reducible first | exact HB.out | apply below_alloc | apply pw_below_drewN | apply below_drew1) | exact HB.out)) hb); clear HB; have HB := n0_; clear n0_; (try clear hb); (try clear hb2); (try clear hk); (try clear hi)) | ((with_reducible refine gate_callee (f := 18) rfl ?_); refine goesL_ (some 96) rfl rfl Try.func18 (by kernel_rfl) rfl #[.int .i64 t308, .int .i64 t313] rfl (by (try simp only [List.map_toArray, List.map_cons, List.map_nil]); first | done | rfl | (simp only [List.length_drop, List.length_take]; rfl)) ?_; (with_reducible refine (laws_vGcd.calls kj17 t308 t313 t320 _ A23.out).mono ?_); rintro e w' ⟨rfl, ⟨nd, rfl⟩⟩; refine ⟨_, rfl, ?_⟩) | ((with_reducible refine gate_callee (f := 15) rfl ?_); refine goesL_ (some 97) rfl rfl Try.func15 (by kernel_rfl) rfl #[.int .i64 t320] rfl (by (try simp only [List.map_toArray, List.map_cons, List.map_nil]); first | done | rfl | (simp only [List.length_drop, List.length_take]; rfl)) ?_; (with_reducible refine (impl_FibonacciPoly.calls kj17 t320 t321 false _ A24.out).mono ?_); rintro e w' ⟨rfl, ⟨nd, rfl⟩⟩; refine ⟨_, rfl, ?_⟩))
            go_ret
            exact ⟨by first | rfl | (simp [errW_none, errW_some] <;> rfl) | (simp [*, errW_none, errW_some] <;> rfl), by repeat (first | (with_reducible first | exact HB.out | apply below_alloc | apply pw_below_drewN | apply below_drew1) | exact HB.out)⟩
         ·replace c25 := Bool.eq_false_iff.mpr c25
          subst c25
          have H1 : (some false) = some r := by rw [if_neg (show ¬ (false = true) by decide)] at H; exact H
          clear H
          have H := H1
          clear H1
          as_aux_lemma =>
           obtain rfl := Option.some.inj H
           go_wp2_with (first | ((with_reducible refine gate_callee (f := 17) rfl ?_); refine goesL_ (some 90) rfl rfl Try.func17 (by kernel_rfl) rfl #[.int .i64 t309, .int .i64 t314] rfl (by (try simp only [List.map_toArray, List.map_cons, List.map_nil]); first | done | rfl | (simp only [List.length_drop, List.length_take]; rfl)) ?_; (with_reducible refine (impl_GcdPoly.calls kj17 t309 t314 t318 false _ A22.out).mono ?_); rintro e w31 ⟨rfl, hb⟩; refine ⟨_, rfl, ?_⟩; have n0_ := Aside0.mk (below_step (by repeat (first | (with_reducible first | exact HB.out | apply below_alloc | apply pw_below_drewN | apply below_drew1) | exact HB.out)) hb); clear HB; have HB := n0_; clear n0_; (try clear hb); (try clear hb2); (try clear hk); (try clear hi)) | ((with_reducible refine gate_callee (f := 18) rfl ?_); refine goesL_ (some 96) rfl rfl Try.func18 (by kernel_rfl) rfl #[.int .i64 t308, .int .i64 t313] rfl (by (try simp only [List.map_toArray, List.map_cons, List.map_nil]); first | done | rfl | (simp only [List.length_drop, List.length_take]; rfl)) ?_; (with_reducible refine (laws_vGcd.calls kj17 t308 t313 t320 _ A23.out).mono ?_); rintro e w' ⟨rfl, ⟨nd, rfl⟩⟩; refine ⟨_, rfl, ?_⟩) | ((with_reducible refine gate_callee (f := 15) rfl ?_); refine goesL_ (some 97) rfl rfl Try.func15 (by kernel_rfl) rfl #[.int .i64 t320] rfl (by (try simp only [List.map_toArray, List.map_cons, List.map_nil]); first | done | rfl | (simp only [List.length_drop, List.length_take]; rfl)) ?_; (with_reducible refine (impl_FibonacciPoly.calls kj17 t320 t321 t322 _ A24.out).mono ?_); rintro e w' ⟨rfl, ⟨nd, rfl⟩⟩; refine ⟨_, rfl, ?_⟩))
           go_ret
           exact ⟨by first | rfl | (simp [errW_none, errW_some] <;> rfl) | (simp [*, errW_none, errW_some] <;> rfl), by repeat (first | (with_reducible first | exact HB.out | apply below_alloc | apply pw_below_drewN | apply below_drew1) | exact HB.out)⟩
        ·replace c21 := Bool.eq_false_iff.mpr c21
         subst c21
         have H1 : (laws_FnFibonaccisPolynomials.j2 kj17 l1 t308 t309 t310) = some r := by rw [if_neg (show ¬ (false = true) by decide)] at H; exact H
         clear H
         have H := H1
         clear H1
         as_aux_lemma =>
          have H' := Aside0.mk H
          clear H
          go_wp2
          go_meet
          case rel => exact ⟨_, H', ⟨by have := HJ10.out; have := HJ17.out; first | omega | exact Nat.le_refl _⟩, ⟨by repeat (first | (with_reducible first | exact HB.out | apply below_alloc | apply pw_below_drewN | apply below_drew1) | exact HB.out)⟩⟩
       case rest =>
        clear HC20;(try clear c1);(try clear c2);(try clear p2);(try clear c4);(try clear c5);(try clear c13);(try clear c14);(try clear c14b0);(try clear c14b1);(try clear c14b2);(try clear c15);(try clear c15b0);(try clear c15b1);(try clear c16);(try clear c16b0);(try clear c16b1);(try clear c16b2);(try clear c17);(try clear c18);(try clear c19);(try clear c21);(try clear c25);(try clear c26);(try clear c27);(try clear c27b0);(try clear c27b1);(try clear p2)
        obtain ⟨kq, HA, HJ19, HB⟩ := hcut
        cases kq with
        | zero => exact absurd HA.out (by simp [laws_FnFibonaccisPolynomials.j2])
        | succ kj19 =>
         have H := HA.out
         clear HA
         simp only [laws_FnFibonaccisPolynomials.j2] at H
         have HC32 := Aside0.mk H
         clear H
         go_upto_region 16 with (fail)
         go_cut [115] (fun v115 wc => ∃ (kq : Nat) (x115_31 : Bool), v115 = .bool x115_31 ∧ Aside0 (laws_FnFibonaccisPolynomials.j3 kq l1 t308 t309 x115_31 = some r) ∧ Aside0 (kq ≤ kj19) ∧ Aside0 (Below w.heap.size w wc))
         case first =>
          have H := HC32.out
          clear HC32
          by_cases c33 : t310 = true
          ·subst c33
           have H1 : (laws_FnFibonaccisPolynomials.j3 kj19 l1 t308 t309 (decide (t308 ≥ 1))) = some r := by rw [if_pos rfl] at H; exact H
           clear H
           have H := H1
           clear H1
           as_aux_lemma =>
            have H' := Aside0.mk H
            clear H
            go_wp2
            go_meet
            case rel => exact ⟨_, (decide (t308 ≥ 1)), (by first | rfl | (simp; done) | (simp [*]; done)), H', ⟨by have := HJ10.out; have := HJ17.out; have := HJ19.out; first | omega | exact Nat.le_refl _⟩, ⟨by repeat (first | (with_reducible first | exact HB.out | apply below_alloc | apply pw_below_drewN | apply below_drew1) | exact HB.out)⟩⟩
          ·replace c33 := Bool.eq_false_iff.mpr c33
           subst c33
           have H1 : (laws_FnFibonaccisPolynomials.j3 kj19 l1 t308 t309 false) = some r := by rw [if_neg (show ¬ (false = true) by decide)] at H; exact H
           clear H
           have H := H1
           clear H1
           as_aux_lemma =>
            have H' := Aside0.mk H
            clear H
            go_wp2
            go_meet
            case rel => exact ⟨_, (false), (by first | rfl | (simp; done) | (simp [*]; done)), H', ⟨by have := HJ10.out; have := HJ17.out; have := HJ19.out; first | omega | exact Nat.le_refl _⟩, ⟨by repeat (first | (with_reducible first | exact HB.out | apply below_alloc | apply pw_below_drewN | apply below_drew1) | exact HB.out)⟩⟩
         case rest =>
          clear HC32;(try clear c1);(try clear c2);(try clear p2);(try clear c3);(try clear c4);(try clear c5);(try clear c13);(try clear c14);(try clear c14b0);(try clear c14b1);(try clear c14b2);(try clear c15);(try clear c15b0);(try clear c15b1);(try clear c16);(try clear c16b0);(try clear c16b1);(try clear c16b2);(try clear c17);(try clear c18);(try clear c19);(try clear c21);(try clear c25);(try clear c26);(try clear c27);(try clear c27b0);(try clear c27b1);(try clear c33);(try clear p2)
          obtain ⟨kq, x115_31, rfl, HA, HJ31, HB⟩ := hcut
          cases kq with
          | zero => exact absurd HA.out (by simp [laws_FnFibonaccisPolynomials.j3])
          | succ kj31 =>
           have H := HA.out
           clear HA
           simp only [laws_FnFibonaccisPolynomials.j3] at H
           have HC34 := Aside0.mk H
           clear H
           go_upto_if 115 with (fail)
           go_cut [] (fun wc => ∃ (kq : Nat), Aside0 (laws_FnFibonaccisPolynomials.j6 kq l1 = some r) ∧ Aside0 (kq ≤ kj31) ∧ Aside0 (Below w.heap.size w wc))
           case first =>
            have H := HC34.out
            clear HC34
            by_cases c35 : x115_31 = true
            ·subst c35
             have H1 : ((impl_DegreeOf.f t309).bind fun bt323 => ((impl_TimesPoly.f kj31 t309 t309).bind fun bt325 => ((impl_FibonacciPoly.f kj31 (wrap64 (2 * t308))).bind fun bt327 => (if bt323.2 = true then (laws_FnFibonaccisPolynomials.j4 kj31 l1 bt325.1 bt325.2 bt327.1 bt327.2 (bt323.1 != (wrap64 (t308 - 1)))) else (laws_FnFibonaccisPolynomials.j4 kj31 l1 bt325.1 bt325.2 bt327.1 bt327.2 true))))) = some r := by rw [if_pos rfl] at H; exact H
             clear H
             have H := H1
             clear H1
             replace H := Option.bind_eq_some_iff.mp H
             obtain ⟨⟨t323, t324⟩, A360, H⟩ := H
             replace H : ((impl_TimesPoly.f kj31 t309 t309).bind fun bt325 => ((impl_FibonacciPoly.f kj31 (wrap64 (2 * t308))).bind fun bt327 => (if t324 = true then (laws_FnFibonaccisPolynomials.j4 kj31 l1 bt325.1 bt325.2 bt327.1 bt327.2 (t323 != (wrap64 (t308 - 1)))) else (laws_FnFibonaccisPolynomials.j4 kj31 l1 bt325.1 bt325.2 bt327.1 bt327.2 true)))) = some r := H
             have A36 := Aside0.mk A360
             clear A360
             replace H := Option.bind_eq_some_iff.mp H
             obtain ⟨⟨t325, t326⟩, A370, H⟩ := H
             replace H : ((impl_FibonacciPoly.f kj31 (wrap64 (2 * t308))).bind fun bt327 => (if t324 = true then (laws_FnFibonaccisPolynomials.j4 kj31 l1 t325 t326 bt327.1 bt327.2 (t323 != (wrap64 (t308 - 1)))) else (laws_FnFibonaccisPolynomials.j4 kj31 l1 t325 t326 bt327.1 bt327.2 true))) = some r := H
             have A37 := Aside0.mk A370
             clear A370
             replace H := Option.bind_eq_some_iff.mp H
             obtain ⟨⟨t327, t328⟩, A380, H⟩ := H
             replace H : (if t324 = true then (laws_FnFibonaccisPolynomials.j4 kj31 l1 t325 t326 t327 t328 (t323 != (wrap64 (t308 - 1)))) else (laws_FnFibonaccisPolynomials.j4 kj31 l1 t325 t326 t327 t328 true)) = some r := H
             have A38 := Aside0.mk A380
             clear A380
             have HC39 := Aside0.mk H
             clear H
             go_upto_region 20 with (first | ((with_reducible refine gate_callee (f := 19) rfl ?_); refine goesL_ (some 118) rfl rfl Try.func19 (by kernel_rfl) rfl #[.int .i64 t309] rfl (by (try simp only [List.map_toArray, List.map_cons, List.map_nil]); first | done | rfl | (simp only [List.length_drop, List.length_take]; rfl)) ?_; (with_reducible refine (impl_DegreeOf.calls t309 t323 t324 _ A36.out).mono ?_); rintro e w40 ⟨rfl, hb⟩; refine ⟨_, rfl, ?_⟩; have n0_ := Aside0.mk (below_step (by repeat (first | (with_reducible first | exact HB.out | apply below_alloc | apply pw_below_drewN | apply below_drew1) | exact HB.out)) hb); clear HB; have HB := n0_; clear n0_; (try clear hb); (try clear hb2); (try clear hk); (try clear hi)) | ((with_reducible refine gate_callee (f := 20) rfl ?_); refine goesL_ (some 124) rfl rfl Try.func20 (by kernel_rfl) rfl #[.int .i64 t309, .int .i64 t309] rfl (by (try simp only [List.map_toArray, List.map_cons, List.map_nil]); first | done | rfl | (simp only [List.length_drop, List.length_take]; rfl)) ?_; (with_reducible refine (impl_TimesPoly.calls kj31 t309 t309 t325 t326 _ A37.out).mono ?_); rintro e w41 ⟨rfl, hb⟩; refine ⟨_, rfl, ?_⟩; have n0_ := Aside0.mk (below_step (by repeat (first | (with_reducible first | exact HB.out | apply below_alloc | apply pw_below_drewN | apply below_drew1) | exact HB.out)) hb); clear HB; have HB := n0_; clear n0_; (try clear hb); (try clear hb2); (try clear hk); (try clear hi)) | ((with_reducible refine gate_callee (f := 15) rfl ?_); refine goesL_ (some 130) rfl rfl Try.func15 (by kernel_rfl) rfl #[.int .i64 (wrap64 (2 * t308))] rfl (by (try simp only [List.map_toArray, List.map_cons, List.map_nil]); first | done | rfl | (simp only [List.length_drop, List.length_take]; rfl)) ?_; (with_reducible refine (impl_FibonacciPoly.calls kj31 (wrap64 (2 * t308)) t327 t328 _ A38.out).mono ?_); rintro e w' ⟨rfl, ⟨nd, rfl⟩⟩; refine ⟨_, rfl, ?_⟩))
             (try simp only [Act.put, List.setIfInBounds_toArray, List.set_cons_zero, List.set_cons_succ])
             go_cut [140] (fun v140 wc => ∃ (kq : Nat) (x140_38 : Bool), v140 = .bool x140_38 ∧ Aside0 (laws_FnFibonaccisPolynomials.j4 kq l1 t325 t326 t327 t328 x140_38 = some r) ∧ Aside0 (kq ≤ kj31) ∧ Aside0 (Below w.heap.size w wc))
             case first =>
              have H := HC39.out
              clear HC39
              by_cases c42 : t324 = true
              ·subst c42
               have H1 : (laws_FnFibonaccisPolynomials.j4 kj31 l1 t325 t326 t327 t328 (t323 != (wrap64 (t308 - 1)))) = some r := by rw [if_pos rfl] at H; exact H
               clear H
               have H := H1
               clear H1
               as_aux_lemma =>
                have H' := Aside0.mk H
                clear H
                go_wp2
                go_meet
                case rel => exact ⟨_, ((t323 != (wrap64 (t308 - 1)))), (by first | rfl | (simp; done) | (simp [*]; done)), H', ⟨by have := HJ10.out; have := HJ17.out; have := HJ19.out; have := HJ31.out; first | omega | exact Nat.le_refl _⟩, ⟨by repeat (first | (with_reducible first | exact HB.out | apply below_alloc | apply pw_below_drewN | apply below_drew1) | exact HB.out)⟩⟩
              ·replace c42 := Bool.eq_false_iff.mpr c42
               subst c42
               have H1 : (laws_FnFibonaccisPolynomials.j4 kj31 l1 t325 t326 t327 t328 true) = some r := by rw [if_neg (show ¬ (false = true) by decide)] at H; exact H
               clear H
               have H := H1
               clear H1
               as_aux_lemma =>
                have H' := Aside0.mk H
                clear H
                go_wp2
                go_meet
                case rel => exact ⟨_, (true), (by first | rfl | (simp; done) | (simp [*]; done)), H', ⟨by have := HJ10.out; have := HJ17.out; have := HJ19.out; have := HJ31.out; first | omega | exact Nat.le_refl _⟩, ⟨by repeat (first | (with_reducible first | exact HB.out | apply below_alloc | apply pw_below_drewN | apply below_drew1) | exact HB.out)⟩⟩
             case rest =>
              clear HC39;(try clear c1);(try clear c2);(try clear p2);(try clear c3);(try clear c4);(try clear c5);(try clear p6);(try clear c13);(try clear c14);(try clear c14b0);(try clear c14b1);(try clear c14b2);(try clear c15);(try clear c15b0);(try clear c15b1);(try clear c16);(try clear c16b0);(try clear c16b1);(try clear c16b2);(try clear c17);(try clear c18);(try clear c19);(try clear c20);(try clear c21);(try clear c25);(try clear c26);(try clear c27);(try clear c27b0);(try clear c27b1);(try clear c33);(try clear c35);(try clear c42);(try clear p2)
              obtain ⟨kq, x140_38, rfl, HA, HJ38, HB⟩ := hcut
              cases kq with
              | zero => exact absurd HA.out (by simp [laws_FnFibonaccisPolynomials.j4])
              | succ kj38 =>
               have H := HA.out
               clear HA
               simp only [laws_FnFibonaccisPolynomials.j4] at H
               by_cases c43 : x140_38 = true
               ·subst c43
                have H1 : (some false) = some r := by rw [if_pos rfl] at H; exact H
                clear H
                have H := H1
                clear H1
                as_aux_lemma =>
                 obtain rfl := Option.some.inj H
                 go_wp2
                 go_ret
                 exact ⟨by first | rfl | (simp [errW_none, errW_some] <;> rfl) | (simp [*, errW_none, errW_some] <;> rfl), by repeat (first | (with_reducible first | exact HB.out | apply below_alloc | apply pw_below_drewN | apply below_drew1) | exact HB.out)⟩
               ·replace c43 := Bool.eq_false_iff.mpr c43
                subst c43
                have H1 : (if t326 = true then (laws_FnFibonaccisPolynomials.j5 kj38 l1 t325 t327 t328) else (laws_FnFibonaccisPolynomials.j5 kj38 l1 t325 t327 false)) = some r := by rw [if_neg (show ¬ (false = true) by decide)] at H; exact H
                clear H
                have H := H1
                clear H1
                have HC44 := Aside0.mk H
                clear H
                go_upto_region 22 with (fail)
                go_cut [144] (fun v144 wc => ∃ (kq : Nat) (x144_43 : Bool), v144 = .bool x144_43 ∧ Aside0 (laws_FnFibonaccisPolynomials.j5 kq l1 t325 t327 x144_43 = some r) ∧ Aside0 (kq ≤ kj38) ∧ Aside0 (Below w.heap.size w wc))
                case first =>
                 have H := HC44.out
                 clear HC44
                 by_cases c45 : t326 = true
                 ·subst c45
                  have H1 : (laws_FnFibonaccisPolynomials.j5 kj38 l1 t325 t327 t328) = some r := by rw [if_pos rfl] at H; exact H
                  clear H
                  have H := H1
                  clear H1
                  as_aux_lemma =>
                   have H' := Aside0.mk H
                   clear H
                   go_wp2
                   go_meet
                   case rel => exact ⟨_, (t328), (by first | rfl | (simp; done) | (simp [*]; done)), H', ⟨by have := HJ10.out; have := HJ17.out; have := HJ19.out; have := HJ31.out; have := HJ38.out; first | omega | exact Nat.le_refl _⟩, ⟨by repeat (first | (with_reducible first | exact HB.out | apply below_alloc | apply pw_below_drewN | apply below_drew1) | exact HB.out)⟩⟩
                 ·replace c45 := Bool.eq_false_iff.mpr c45
                  subst c45
                  have H1 : (laws_FnFibonaccisPolynomials.j5 kj38 l1 t325 t327 false) = some r := by rw [if_neg (show ¬ (false = true) by decide)] at H; exact H
                  clear H
                  have H := H1
                  clear H1
                  as_aux_lemma =>
                   have H' := Aside0.mk H
                   clear H
                   go_wp2
                   go_meet
                   case rel => exact ⟨_, (false), (by first | rfl | (simp; done) | (simp [*]; done)), H', ⟨by have := HJ10.out; have := HJ17.out; have := HJ19.out; have := HJ31.out; have := HJ38.out; first | omega | exact Nat.le_refl _⟩, ⟨by repeat (first | (with_reducible first | exact HB.out | apply below_alloc | apply pw_below_drewN | apply below_drew1) | exact HB.out)⟩⟩
                case rest =>
                 clear HC44;(try clear c1);(try clear c2);(try clear p2);(try clear c3);(try clear c4);(try clear c5);(try clear p6);(try clear c13);(try clear c14);(try clear c14b0);(try clear c14b1);(try clear c14b2);(try clear c15);(try clear c15b0);(try clear c15b1);(try clear c16);(try clear c16b0);(try clear c16b1);(try clear c16b2);(try clear c17);(try clear c18);(try clear c19);(try clear c20);(try clear c21);(try clear c25);(try clear c26);(try clear c27);(try clear c27b0);(try clear c27b1);(try clear c33);(try clear c35);(try clear c42);(try clear c43);(try clear c45);(try clear p2);(try clear p6)
                 obtain ⟨kq, x144_43, rfl, HA, HJ43, HB⟩ := hcut
                 cases kq with
                 | zero => exact absurd HA.out (by simp [laws_FnFibonaccisPolynomials.j5])
                 | succ kj43 =>
                  have H := HA.out
                  clear HA
                  simp only [laws_FnFibonaccisPolynomials.j5] at H
                  by_cases c46 : x144_43 = true
                  ·subst c46
                   have H1 : ((impl_TimesPoly.f kj43 t325 2).bind fun bt329 => (if bt329.2 = true then (if bt329.1 = t327 then (laws_FnFibonaccisPolynomials.j6 kj43 l1) else (some false)) else (some false))) = some r := by rw [if_pos rfl] at H; exact H
                   clear H
                   have H := H1
                   clear H1
                   replace H := Option.bind_eq_some_iff.mp H
                   obtain ⟨⟨t329, t330⟩, A470, H⟩ := H
                   replace H : (if t330 = true then (if t329 = t327 then (laws_FnFibonaccisPolynomials.j6 kj43 l1) else (some false)) else (some false)) = some r := H
                   have A47 := Aside0.mk A470
                   clear A470
                   by_cases c48 : t330 = true
                   ·subst c48
                    have H1 : (if t329 = t327 then (laws_FnFibonaccisPolynomials.j6 kj43 l1) else (some false)) = some r := by rw [if_pos rfl] at H; exact H
                    clear H
                    have H := H1
                    clear H1
                    by_cases c49 : t329 = t327
                    ·rw [if_pos c49] at H
                     have c49b0 : (t329 == t327) = true := beq_iff_eq.mpr c49
                     have c49b1 : (t329 != t327) = false := bne_eq_false_iff_eq.mpr c49
                     clear c49
                     as_aux_lemma =>
                      have H' := Aside0.mk H
                      clear H
                      go_wp2_with (first | ((with_reducible refine gate_callee (f := 20) rfl ?_); refine goesL_ (some 147) rfl rfl Try.func20 (by kernel_rfl) rfl #[.int .i64 t325, .int .i64 2] rfl (by (try simp only [List.map_toArray, List.map_cons, List.map_nil]); first | done | rfl | (simp only [List.length_drop, List.length_take]; rfl)) ?_; (with_reducible refine (impl_TimesPoly.calls kj43 t325 2 t329 true _ A47.out).mono ?_); rintro e w50 ⟨rfl, hb⟩; refine ⟨_, rfl, ?_⟩; have n0_ := Aside0.mk (below_step (by repeat (first | (with_reducible first | exact HB.out | apply below_alloc | apply pw_below_drewN | apply below_drew1) | exact HB.out)) hb); clear HB; have HB := n0_; clear n0_; (try clear hb); (try clear hb2); (try clear hk); (try clear hi)))
                      go_meet
                      case rel => exact ⟨_, H', ⟨by have := HJ10.out; have := HJ17.out; have := HJ19.out; have := HJ31.out; have := HJ38.out; have := HJ43.out; first | omega | exact Nat.le_refl _⟩, ⟨by repeat (first | (with_reducible first | exact HB.out | apply below_alloc | apply pw_below_drewN | apply below_drew1) | exact HB.out)⟩⟩
                    ·rw [if_neg c49] at H
                     have c49b0 : (t329 == t327) = false := beq_eq_false_iff_ne.mpr c49
                     have c49b1 : (t329 != t327) = true := bne_iff_ne.mpr c49
                     as_aux_lemma =>
                      obtain rfl := Option.some.inj H
                      go_wp2_with (first | ((with_reducible refine gate_callee (f := 20) rfl ?_); refine goesL_ (some 147) rfl rfl Try.func20 (by kernel_rfl) rfl #[.int .i64 t325, .int .i64 2] rfl (by (try simp only [List.map_toArray, List.map_cons, List.map_nil]); first | done | rfl | (simp only [List.length_drop, List.length_take]; rfl)) ?_; (with_reducible refine (impl_TimesPoly.calls kj43 t325 2 t329 true _ A47.out).mono ?_); rintro e w51 ⟨rfl, hb⟩; refine ⟨_, rfl, ?_⟩; have n0_ := Aside0.mk (below_step (by repeat (first | (with_reducible first | exact HB.out | apply below_alloc | apply pw_below_drewN | apply below_drew1) | exact HB.out)) hb); clear HB; have HB := n0_; clear n0_; (try clear hb); (try clear hb2); (try clear hk); (try clear hi)))
                      go_ret
                      exact ⟨by first | rfl | (simp [errW_none, errW_some] <;> rfl) | (simp [*, errW_none, errW_some] <;> rfl), by repeat (first | (with_reducible first | exact HB.out | apply below_alloc | apply pw_below_drewN | apply below_drew1) | exact HB.out)⟩
                   ·replace c48 := Bool.eq_false_iff.mpr c48
                    subst c48
                    have H1 : (some false) = some r := by rw [if_neg (show ¬ (false = true) by decide)] at H; exact H
                    clear H
                    have H := H1
                    clear H1
                    as_aux_lemma =>
                     obtain rfl := Option.some.inj H
                     go_wp2_with (first | ((with_reducible refine gate_callee (f := 20) rfl ?_); refine goesL_ (some 147) rfl rfl Try.func20 (by kernel_rfl) rfl #[.int .i64 t325, .int .i64 2] rfl (by (try simp only [List.map_toArray, List.map_cons, List.map_nil]); first | done | rfl | (simp only [List.length_drop, List.length_take]; rfl)) ?_; (with_reducible refine (impl_TimesPoly.calls kj43 t325 2 t329 false _ A47.out).mono ?_); rintro e w52 ⟨rfl, hb⟩; refine ⟨_, rfl, ?_⟩; have n0_ := Aside0.mk (below_step (by repeat (first | (with_reducible first | exact HB.out | apply below_alloc | apply pw_below_drewN | apply below_drew1) | exact HB.out)) hb); clear HB; have HB := n0_; clear n0_; (try clear hb); (try clear hb2); (try clear hk); (try clear hi)))
                     go_ret
                     exact ⟨by first | rfl | (simp [errW_none, errW_some] <;> rfl) | (simp [*, errW_none, errW_some] <;> rfl), by repeat (first | (with_reducible first | exact HB.out | apply below_alloc | apply pw_below_drewN | apply below_drew1) | exact HB.out)⟩
                  ·replace c46 := Bool.eq_false_iff.mpr c46
                   subst c46
                   have H1 : (laws_FnFibonaccisPolynomials.j6 kj43 l1) = some r := by rw [if_neg (show ¬ (false = true) by decide)] at H; exact H
                   clear H
                   have H := H1
                   clear H1
                   as_aux_lemma =>
                    have H' := Aside0.mk H
                    clear H
                    go_wp2
                    go_meet
                    case rel => exact ⟨_, H', ⟨by have := HJ10.out; have := HJ17.out; have := HJ19.out; have := HJ31.out; have := HJ38.out; have := HJ43.out; first | omega | exact Nat.le_refl _⟩, ⟨by repeat (first | (with_reducible first | exact HB.out | apply below_alloc | apply pw_below_drewN | apply below_drew1) | exact HB.out)⟩⟩
            ·replace c35 := Bool.eq_false_iff.mpr c35
             subst c35
             have H1 : (laws_FnFibonaccisPolynomials.j6 kj31 l1) = some r := by rw [if_neg (show ¬ (false = true) by decide)] at H; exact H
             clear H
             have H := H1
             clear H1
             as_aux_lemma =>
              have H' := Aside0.mk H
              clear H
              go_wp2
              go_meet
              case rel => exact ⟨_, H', ⟨by have := HJ10.out; have := HJ17.out; have := HJ19.out; have := HJ31.out; first | omega | exact Nat.le_refl _⟩, ⟨by repeat (first | (with_reducible first | exact HB.out | apply below_alloc | apply pw_below_drewN | apply below_drew1) | exact HB.out)⟩⟩
           case rest =>
            clear HC34;(try clear c1);(try clear c2);(try clear p2);(try clear c3);(try clear c4);(try clear c5);(try clear p6);(try clear c13);(try clear c14);(try clear c14b0);(try clear c14b1);(try clear c14b2);(try clear c15);(try clear c15b0);(try clear c15b1);(try clear c16);(try clear c16b0);(try clear c16b1);(try clear c16b2);(try clear c17);(try clear c18);(try clear c19);(try clear c20);(try clear c21);(try clear c25);(try clear c26);(try clear c27);(try clear c27b0);(try clear c27b1);(try clear c33);(try clear c35);(try clear c42);(try clear c43);(try clear c45);(try clear c46);(try clear c48);(try clear c49);(try clear c49b0);(try clear c49b1);(try clear p2);(try clear p6)
            obtain ⟨kq, HA, HJ33, HB⟩ := hcut
            cases kq with
            | zero => exact absurd HA.out (by simp [laws_FnFibonaccisPolynomials.j6])
            | succ kj33 =>
             have H := HA.out
             clear HA
             simp only [laws_FnFibonaccisPolynomials.j6] at H
             replace H := Option.bind_eq_some_iff.mp H
             obtain ⟨t331, A530, H⟩ := H
             replace H : ((impl_FirstFibonacci.f kj33 t331).bind fun bt332 => ((spec_FirstFibonacci.f kj33 t331).bind fun bt334 => (if (bt332.2 != bt334.2) = true then (laws_FnFibonaccisPolynomials.j7 kj33 t331 bt332.1 bt332.2 true) else (laws_FnFibonaccisPolynomials.j7 kj33 t331 bt332.1 bt332.2 (bt332.1 != bt334.1))))) = some r := H
             have A53 := Aside0.mk A530
             clear A530
             replace H := Option.bind_eq_some_iff.mp H
             obtain ⟨⟨t332, t333⟩, A540, H⟩ := H
             replace H : ((spec_FirstFibonacci.f kj33 t331).bind fun bt334 => (if (t333 != bt334.2) = true then (laws_FnFibonaccisPolynomials.j7 kj33 t331 t332 t333 true) else (laws_FnFibonaccisPolynomials.j7 kj33 t331 t332 t333 (t332 != bt334.1)))) = some r := H
             have A54 := Aside0.mk A540
             clear A540
             replace H := Option.bind_eq_some_iff.mp H
             obtain ⟨⟨t334, t335⟩, A550, H⟩ := H
             replace H : (if (t333 != t335) = true then (laws_FnFibonaccisPolynomials.j7 kj33 t331 t332 t333 true) else (laws_FnFibonaccisPolynomials.j7 kj33 t331 t332 t333 (t332 != t334))) = some r := H
             have A55 := Aside0.mk A550
             clear A550
             have HC56 := Aside0.mk H
             clear H
             go_upto_region 29 with (first | ((with_reducible refine gate_callee (f := 21) rfl ?_); refine goesL_ (some 158) rfl rfl Try.func21 (by kernel_rfl) rfl #[.slice A1 l1.length c1] rfl (by (try simp only [List.map_toArray, List.map_cons, List.map_nil]); first | done | rfl | (simp only [List.length_drop, List.length_take]; rfl)) ?_; (with_reducible refine (spec_DrawFirstFibonacci.calls kj33 _ _ l1 t331 _ ?side1 ?side2 A53.out).mono ?_); (case side1 => repeat (first | exact (Kd.C_below HR1.out HB.out) | (with_reducible refine Kd.C_alloc ?_ _) | (with_reducible refine Kd.C_drewN ?_ _) | (with_reducible refine Kd.C_drew ?_))); (case side2 => exact HC1.out); rintro e w57 ⟨rfl, hb⟩; refine ⟨_, rfl, ?_⟩; have n0_ := Aside0.mk (below_step (by repeat (first | (with_reducible first | exact HB.out | apply below_alloc | apply pw_below_drewN | apply below_drew1) | exact HB.out)) hb); clear HB; have HB := n0_; clear n0_; (try clear hb); (try clear hb2); (try clear hk); (try clear hi)) | ((with_reducible refine gate_callee (f := 22) rfl ?_); refine goesL_ (some 161) rfl rfl Try.func22 (by kernel_rfl) rfl #[.int .i64 t331] rfl (by (try simp only [List.map_toArray, List.map_cons, List.map_nil]); first | done | rfl | (simp only [List.length_drop, List.length_take]; rfl)) ?_; (with_reducible refine (impl_FirstFibonacci.calls kj33 t331 t332 t333 _ A54.out).mono ?_); rintro e w58 ⟨rfl, hb⟩; refine ⟨_, rfl, ?_⟩; have n0_ := Aside0.mk (below_step (by repeat (first | (with_reducible first | exact HB.out | apply below_alloc | apply pw_below_drewN | apply below_drew1) | exact HB.out)) hb); clear HB; have HB := n0_; clear n0_; (try clear hb); (try clear hb2); (try clear hk); (try clear hi)) | ((with_reducible refine gate_callee (f := 23) rfl ?_); refine goesL_ (some 166) rfl rfl Try.func23 (by kernel_rfl) rfl #[.int .i64 t331] rfl (by (try simp only [List.map_toArray, List.map_cons, List.map_nil]); first | done | rfl | (simp only [List.length_drop, List.length_take]; rfl)) ?_; (with_reducible refine (spec_FirstFibonacci.calls kj33 t331 t334 t335 _ A55.out).mono ?_); rintro e w' ⟨rfl, ⟨nd, rfl⟩⟩; refine ⟨_, rfl, ?_⟩))
             (try simp only [Act.put, List.setIfInBounds_toArray, List.set_cons_zero, List.set_cons_succ])
             go_cut [176] (fun v176 wc => ∃ (kq : Nat) (x176_55 : Bool), v176 = .bool x176_55 ∧ Aside0 (laws_FnFibonaccisPolynomials.j7 kq t331 t332 t333 x176_55 = some r) ∧ Aside0 (kq ≤ kj33) ∧ Aside0 (Below w.heap.size w wc))
             case first =>
              have H := HC56.out
              clear HC56
              by_cases c59 : (t333 != t335) = true
              ·rw [if_pos c59] at H
               have c59b0 : (t333 != t335) = true := c59
               (try (have c59b1 : decide (t333 = t335) = false := by simpa using c59))
               (try (have c59b2 : (t333 == t335) = false := by simpa using c59))
               (try (have c59b3 : ¬ (t333 = t335) := by simpa using c59))
               clear c59
               (first | rw [c59b0] | (simp only [i64_w, i32_w]; rw [c59b0]) | skip)
               as_aux_lemma =>
                have H' := Aside0.mk H
                clear H
                go_wp2
                go_meet
                case rel => exact ⟨_, (true), (by first | rfl | (simp; done) | (simp [*]; done)), H', ⟨by have := HJ10.out; have := HJ17.out; have := HJ19.out; have := HJ31.out; have := HJ33.out; first | omega | exact Nat.le_refl _⟩, ⟨by repeat (first | (with_reducible first | exact HB.out | apply below_alloc | apply pw_below_drewN | apply below_drew1) | exact HB.out)⟩⟩
              ·rw [if_neg c59] at H
               have c59b0 : (t333 != t335) = false := by simpa using c59
               (try (have c59b1 : decide (t333 = t335) = true := by simpa using c59))
               (try (have c59b2 : (t333 == t335) = true := by simpa using c59))
               clear c59
               (first | rw [c59b0] | (simp only [i64_w, i32_w]; rw [c59b0]) | skip)
               as_aux_lemma =>
                have H' := Aside0.mk H
                clear H
                go_wp2
                go_meet
                case rel => exact ⟨_, ((t332 != t334)), (by first | rfl | (simp; done) | (simp [*]; done)), H', ⟨by have := HJ10.out; have := HJ17.out; have := HJ19.out; have := HJ31.out; have := HJ33.out; first | omega | exact Nat.le_refl _⟩, ⟨by repeat (first | (with_reducible first | exact HB.out | apply below_alloc | apply pw_below_drewN | apply below_drew1) | exact HB.out)⟩⟩
             case rest =>
              clear HC56;(try clear c1);(try clear c2);(try clear p2);(try clear c3);(try clear c4);(try clear c5);(try clear p6);(try clear c13);(try clear c14);(try clear c14b0);(try clear c14b1);(try clear c14b2);(try clear c15);(try clear c15b0);(try clear c15b1);(try clear c16);(try clear c16b0);(try clear c16b1);(try clear c16b2);(try clear c17);(try clear c18);(try clear c19);(try clear c20);(try clear c21);(try clear c22);(try clear c23);(try clear c25);(try clear c26);(try clear c27);(try clear c27b0);(try clear c27b1);(try clear c33);(try clear c35);(try clear c42);(try clear c43);(try clear c45);(try clear c46);(try clear c48);(try clear c49);(try clear c49b0);(try clear c49b1);(try clear c59);(try clear c59b0);(try clear c59b1);(try clear c59b2);(try clear p2);(try clear p6)
              obtain ⟨kq, x176_55, rfl, HA, HJ55, HB⟩ := hcut
              cases kq with
              | zero => exact absurd HA.out (by simp [laws_FnFibonaccisPolynomials.j7])
              | succ kj55 =>
               have H := HA.out
               clear HA
               simp only [laws_FnFibonaccisPolynomials.j7] at H
               by_cases c60 : x176_55 = true
               ·subst c60
                have H1 : (some false) = some r := by rw [if_pos rfl] at H; exact H
                clear H
                have H := H1
                clear H1
                as_aux_lemma =>
                 obtain rfl := Option.some.inj H
                 go_wp2
                 go_ret
                 exact ⟨by first | rfl | (simp [errW_none, errW_some] <;> rfl) | (simp [*, errW_none, errW_some] <;> rfl), by repeat (first | (with_reducible first | exact HB.out | apply below_alloc | apply pw_below_drewN | apply below_drew1) | exact HB.out)⟩
               ·replace c60 := Bool.eq_false_iff.mpr c60
                subst c60
                have H1 : (if t333 = true then (laws_FnFibonaccisPolynomials.l0 kj55 t331 t332 1) else (some true)) = some r := by rw [if_neg (show ¬ (false = true) by decide)] at H; exact H
                clear H
                have H := H1
                clear H1
                by_cases c61 : t333 = true
                ·subst c61
                 have H1 : (laws_FnFibonaccisPolynomials.l0 kj55 t331 t332 1) = some r := by rw [if_pos rfl] at H; exact H
                 clear H
                 have H := H1
                 clear H1
                 have H' := Aside0.mk H
                 clear H
                 go_wp2
                 go_loopg [32] kj55 (fun kq v32 w' => ∃ (x32_7 : Int), v32 = .int .i64 x32_7 ∧ Aside0 (laws_FnFibonaccisPolynomials.l0 kq t331 t332 x32_7 = some r) ∧ Aside0 (kq ≤ kj55) ∧ Aside0 (Below w.heap.size w w'))
                 case atStart => exact ⟨(1), (by first | rfl | (simp; done) | (simp [*]; done)), H', ⟨Nat.le_refl _⟩, ⟨by repeat (first | (with_reducible first | exact HB.out | apply below_alloc | apply pw_below_drewN | apply below_drew1) | exact HB.out)⟩⟩
                 case round =>
                  clear H'
                  (try clear c1);(try clear c2);(try clear p2);(try clear c3);(try clear c4);(try clear c5);(try clear c6);(try clear p6);(try clear c13);(try clear c14);(try clear c14b0);(try clear c14b1);(try clear c14b2);(try clear c15);(try clear c15b0);(try clear c15b1);(try clear c16);(try clear c16b0);(try clear c16b1);(try clear c16b2);(try clear c17);(try clear c18);(try clear c19);(try clear c20);(try clear c21);(try clear c22);(try clear c23);(try clear c25);(try clear c26);(try clear c27);(try clear c27b0);(try clear c27b1);(try clear c33);(try clear c35);(try clear c42);(try clear c43);(try clear c45);(try clear c46);(try clear c48);(try clear c49);(try clear c49b0);(try clear c49b1);(try clear c59);(try clear c59b0);(try clear c59b1);(try clear c59b2);(try clear c60);(try clear c61);(try clear p2);(try clear p6)
                  obtain ⟨x32_7, rfl, HA, HK7, HB⟩ := hrel
                  cases gk with
                  | zero => exact absurd HA.out (by simp [laws_FnFibonaccisPolynomials.l0])
                  | succ k7 =>
                   have H := HA.out
                   clear HA
                   simp only [laws_FnFibonaccisPolynomials.l0] at H
                   have HC62 := Aside0.mk H
                   clear H
                   go_upto_region 34 with (fail)
                   go_cut [185] (fun v185 wc => ∃ (kq : Nat) (x185_61 : Bool), v185 = .bool x185_61 ∧ Aside0 (laws_FnFibonaccisPolynomials.j9 kq t331 t332 x32_7 x185_61 = some r) ∧ Aside0 (kq ≤ k7) ∧ Aside0 (Below w.heap.size w wc))
                   case first =>
                    have H := HC62.out
                    clear HC62
                    by_cases c63 : x32_7 ≤ t332
                    ·rw [if_pos c63] at H
                     have c63b0 : decide (x32_7 ≤ t332) = true := decide_eq_true c63
                     clear c63
                     (first | rw [c63b0] | (simp only [i64_w, i32_w]; rw [c63b0]) | skip)
                     as_aux_lemma =>
                      have H' := Aside0.mk H
                      clear H
                      go_wp2
                      go_meet
                      case rel => exact ⟨_, (decide (x32_7 ≤ 41)), (by first | rfl | (simp; done) | (simp [*]; done)), H', ⟨by have := HJ10.out; have := HJ17.out; have := HJ19.out; have := HJ31.out; have := HJ33.out; have := HJ55.out; have := HK7.out; first | omega | exact Nat.le_refl _⟩, ⟨by repeat (first | (with_reducible first | exact HB.out | apply below_alloc | apply pw_below_drewN | apply below_drew1) | exact HB.out)⟩⟩
                    ·rw [if_neg c63] at H
                     have c63b0 : decide (x32_7 ≤ t332) = false := decide_eq_false c63
                     clear c63
                     (first | rw [c63b0] | (simp only [i64_w, i32_w]; rw [c63b0]) | skip)
                     as_aux_lemma =>
                      have H' := Aside0.mk H
                      clear H
                      go_wp2
                      go_meet
                      case rel => exact ⟨_, (false), (by first | rfl | (simp; done) | (simp [*]; done)), H', ⟨by have := HJ10.out; have := HJ17.out; have := HJ19.out; have := HJ31.out; have := HJ33.out; have := HJ55.out; have := HK7.out; first | omega | exact Nat.le_refl _⟩, ⟨by repeat (first | (with_reducible first | exact HB.out | apply below_alloc | apply pw_below_drewN | apply below_drew1) | exact HB.out)⟩⟩
                   case rest =>
                    clear HC62;(try clear c1);(try clear c2);(try clear p2);(try clear c3);(try clear c4);(try clear c5);(try clear c6);(try clear p6);(try clear c13);(try clear c14);(try clear c14b0);(try clear c14b1);(try clear c14b2);(try clear c15);(try clear c15b0);(try clear c15b1);(try clear c16);(try clear c16b0);(try clear c16b1);(try clear c16b2);(try clear c17);(try clear c18);(try clear c19);(try clear c20);(try clear c21);(try clear c22);(try clear c23);(try clear c25);(try clear c26);(try clear c27);(try clear c27b0);(try clear c27b1);(try clear c33);(try clear c35);(try clear c42);(try clear c43);(try clear c45);(try clear c46);(try clear c48);(try clear c49);(try clear c49b0);(try clear c49b1);(try clear c59);(try clear c59b0);(try clear c59b1);(try clear c59b2);(try clear c60);(try clear c61);(try clear c63);(try clear c63b0);(try clear p2);(try clear p6)
                    obtain ⟨kq, x185_61, rfl, HA, HJ61, HB⟩ := hcut
                    cases kq with
                    | zero => exact absurd HA.out (by simp [laws_FnFibonaccisPolynomials.j9])
                    | succ kj61 =>
                     have H := HA.out
                     clear HA
                     simp only [laws_FnFibonaccisPolynomials.j9] at H
                     by_cases c64 : x185_61 = true
                     ·subst c64
                      have H1 : ((impl_FibonacciPoly.f kj61 x32_7).bind fun bt336 => ((impl_DividePoly.f kj61 bt336.1 t331).bind fun bt338 => (if bt336.2 = true then (if bt338.2.2 = true then (if ((bt338.2.1 == 0) != (x32_7 == t332)) = true then (some false) else (laws_FnFibonaccisPolynomials.l0 kj61 t331 t332 (wrap64 (x32_7 + 1)))) else (some false)) else (some false)))) = some r := by rw [if_pos rfl] at H; exact H
                      clear H
                      have H := H1
                      clear H1
                      replace H := Option.bind_eq_some_iff.mp H
                      obtain ⟨⟨t336, t337⟩, A650, H⟩ := H
                      replace H : ((impl_DividePoly.f kj61 t336 t331).bind fun bt338 => (if t337 = true then (if bt338.2.2 = true then (if ((bt338.2.1 == 0) != (x32_7 == t332)) = true then (some false) else (laws_FnFibonaccisPolynomials.l0 kj61 t331 t332 (wrap64 (x32_7 + 1)))) else (some false)) else (some false))) = some r := H
                      have A65 := Aside0.mk A650
                      clear A650
                      replace H := Option.bind_eq_some_iff.mp H
                      obtain ⟨⟨t338, t339, t340⟩, A660, H⟩ := H
                      replace H : (if t337 = true then (if t340 = true then (if ((t339 == 0) != (x32_7 == t332)) = true then (some false) else (laws_FnFibonaccisPolynomials.l0 kj61 t331 t332 (wrap64 (x32_7 + 1)))) else (some false)) else (some false)) = some r := H
                      have A66 := Aside0.mk A660
                      clear A660
                      by_cases c67 : t337 = true
                      ·subst c67
                       have H1 : (if t340 = true then (if ((t339 == 0) != (x32_7 == t332)) = true then (some false) else (laws_FnFibonaccisPolynomials.l0 kj61 t331 t332 (wrap64 (x32_7 + 1)))) else (some false)) = some r := by rw [if_pos rfl] at H; exact H
                       clear H
                       have H := H1
                       clear H1
                       by_cases c68 : t340 = true
                       ·subst c68
                        have H1 : (if ((t339 == 0) != (x32_7 == t332)) = true then (some false) else (laws_FnFibonaccisPolynomials.l0 kj61 t331 t332 (wrap64 (x32_7 + 1)))) = some r := by rw [if_pos rfl] at H; exact H
                        clear H
                        have H := H1
                        clear H1
                        by_cases c69 : ((t339 == 0) != (x32_7 == t332)) = true
                        ·rw [if_pos c69] at H
                         have c69b0 : ((t339 == 0) != (x32_7 == t332)) = true := c69
                         (try (have c69b1 : decide ((t339 == 0) = (x32_7 == t332)) = false := by simpa using c69))
                         (try (have c69b2 : ((t339 == 0) == (x32_7 == t332)) = false := by simpa using c69))
                         (try (have c69b3 : ¬ ((t339 == 0) = (x32_7 == t332)) := by simpa using c69))
                         clear c69
                         as_aux_lemma =>
                          obtain rfl := Option.some.inj H
                          go_wp2_with (first | ((with_reducible refine gate_callee (f := 15) rfl ?_); refine goesL_ (some 190) rfl rfl Try.func15 (by kernel_rfl) rfl #[.int .i64 x32_7] rfl (by (try simp only [List.map_toArray, List.map_cons, List.map_nil]); first | done | rfl | (simp only [List.length_drop, List.length_take]; rfl)) ?_; (with_reducible refine (impl_FibonacciPoly.calls kj61 x32_7 t336 true _ A65.out).mono ?_); rintro e w' ⟨rfl, ⟨nd, rfl⟩⟩; refine ⟨_, rfl, ?_⟩) | ((with_reducible refine gate_callee (f := 24) rfl ?_); refine goesL_ (some 196) rfl rfl Try.func24 (by kernel_rfl) rfl #[.int .i64 t336, .int .i64 t331] rfl (by (try simp only [List.map_toArray, List.map_cons, List.map_nil]); first | done | rfl | (simp only [List.length_drop, List.length_take]; rfl)) ?_; (with_reducible refine (impl_DividePoly.calls kj61 t336 t331 t338 t339 true _ A66.out).mono ?_); rintro e w70 ⟨rfl, hb⟩; refine ⟨_, rfl, ?_⟩; have n0_ := Aside0.mk (below_step (by repeat (first | (with_reducible first | exact HB.out | apply below_alloc | apply pw_below_drewN | apply below_drew1) | exact HB.out)) hb); clear HB; have HB := n0_; clear n0_; (try clear hb); (try clear hb2); (try clear hk); (try clear hi)))
                          go_ret
                          exact ⟨by first | rfl | (simp [errW_none, errW_some] <;> rfl) | (simp [*, errW_none, errW_some] <;> rfl), by repeat (first | (with_reducible first | exact HB.out | apply below_alloc | apply pw_below_drewN | apply below_drew1) | exact HB.out)⟩
                        ·rw [if_neg c69] at H
                         have c69b0 : ((t339 == 0) != (x32_7 == t332)) = false := by simpa using c69
                         (try (have c69b1 : decide ((t339 == 0) = (x32_7 == t332)) = true := by simpa using c69))
                         (try (have c69b2 : ((t339 == 0) == (x32_7 == t332)) = true := by simpa using c69))
                         clear c69
                         as_aux_lemma =>
                          have H' := Aside0.mk H
                          clear H
                          go_wp2_with (first | ((with_reducible refine gate_callee (f := 15) rfl ?_); refine goesL_ (some 190) rfl rfl Try.func15 (by kernel_rfl) rfl #[.int .i64 x32_7] rfl (by (try simp only [List.map_toArray, List.map_cons, List.map_nil]); first | done | rfl | (simp only [List.length_drop, List.length_take]; rfl)) ?_; (with_reducible refine (impl_FibonacciPoly.calls kj61 x32_7 t336 true _ A65.out).mono ?_); rintro e w' ⟨rfl, ⟨nd, rfl⟩⟩; refine ⟨_, rfl, ?_⟩) | ((with_reducible refine gate_callee (f := 24) rfl ?_); refine goesL_ (some 196) rfl rfl Try.func24 (by kernel_rfl) rfl #[.int .i64 t336, .int .i64 t331] rfl (by (try simp only [List.map_toArray, List.map_cons, List.map_nil]); first | done | rfl | (simp only [List.length_drop, List.length_take]; rfl)) ?_; (with_reducible refine (impl_DividePoly.calls kj61 t336 t331 t338 t339 true _ A66.out).mono ?_); rintro e w71 ⟨rfl, hb⟩; refine ⟨_, rfl, ?_⟩; have n0_ := Aside0.mk (below_step (by repeat (first | (with_reducible first | exact HB.out | apply below_alloc | apply pw_below_drewN | apply below_drew1) | exact HB.out)) hb); clear HB; have HB := n0_; clear n0_; (try clear hb); (try clear hb2); (try clear hk); (try clear hi)))
                          go_roundg kj61
                          case measure => have := HJ10.out; have := HJ17.out; have := HJ19.out; have := HJ31.out; have := HJ33.out; have := HJ55.out; have := HK7.out; have := HJ61.out; omega
                          case rel => exact ⟨(wrap64 (x32_7 + 1)), (by first | rfl | (simp; done) | (simp [*]; done)), H', ⟨by have := HJ10.out; have := HJ17.out; have := HJ19.out; have := HJ31.out; have := HJ33.out; have := HJ55.out; have := HK7.out; have := HJ61.out; omega⟩, ⟨by repeat (first | (with_reducible first | exact HB.out | apply below_alloc | apply pw_below_drewN | apply below_drew1) | exact HB.out)⟩⟩
                       ·replace c68 := Bool.eq_false_iff.mpr c68
                        subst c68
                        have H1 : (some false) = some r := by rw [if_neg (show ¬ (false = true) by decide)] at H; exact H
                        clear H
                        have H := H1
                        clear H1
                        as_aux_lemma =>
                         obtain rfl := Option.some.inj H
                         go_wp2_with (first | ((with_reducible refine gate_callee (f := 15) rfl ?_); refine goesL_ (some 190) rfl rfl Try.func15 (by kernel_rfl) rfl #[.int .i64 x32_7] rfl (by (try simp only [List.map_toArray, List.map_cons, List.map_nil]); first | done | rfl | (simp only [List.length_drop, List.length_take]; rfl)) ?_; (with_reducible refine (impl_FibonacciPoly.calls kj61 x32_7 t336 true _ A65.out).mono ?_); rintro e w' ⟨rfl, ⟨nd, rfl⟩⟩; refine ⟨_, rfl, ?_⟩) | ((with_reducible refine gate_callee (f := 24) rfl ?_); refine goesL_ (some 196) rfl rfl Try.func24 (by kernel_rfl) rfl #[.int .i64 t336, .int .i64 t331] rfl (by (try simp only [List.map_toArray, List.map_cons, List.map_nil]); first | done | rfl | (simp only [List.length_drop, List.length_take]; rfl)) ?_; (with_reducible refine (impl_DividePoly.calls kj61 t336 t331 t338 t339 false _ A66.out).mono ?_); rintro e w72 ⟨rfl, hb⟩; refine ⟨_, rfl, ?_⟩; have n0_ := Aside0.mk (below_step (by repeat (first | (with_reducible first | exact HB.out | apply below_alloc | apply pw_below_drewN | apply below_drew1) | exact HB.out)) hb); clear HB; have HB := n0_; clear n0_; (try clear hb); (try clear hb2); (try clear hk); (try clear hi)))
                         go_ret
                         exact ⟨by first | rfl | (simp [errW_none, errW_some] <;> rfl) | (simp [*, errW_none, errW_some] <;> rfl), by repeat (first | (with_reducible first | exact HB.out | apply below_alloc | apply pw_below_drewN | apply below_drew1) | exact HB.out)⟩
                      ·replace c67 := Bool.eq_false_iff.mpr c67
                       subst c67
                       have H1 : (some false) = some r := by rw [if_neg (show ¬ (false = true) by decide)] at H; exact H
                       clear H
                       have H := H1
                       clear H1
                       as_aux_lemma =>
                        obtain rfl := Option.some.inj H
                        go_wp2_with (first | ((with_reducible refine gate_callee (f := 15) rfl ?_); refine goesL_ (some 190) rfl rfl Try.func15 (by kernel_rfl) rfl #[.int .i64 x32_7] rfl (by (try simp only [List.map_toArray, List.map_cons, List.map_nil]); first | done | rfl | (simp only [List.length_drop, List.length_take]; rfl)) ?_; (with_reducible refine (impl_FibonacciPoly.calls kj61 x32_7 t336 false _ A65.out).mono ?_); rintro e w' ⟨rfl, ⟨nd, rfl⟩⟩; refine ⟨_, rfl, ?_⟩) | ((with_reducible refine gate_callee (f := 24) rfl ?_); refine goesL_ (some 196) rfl rfl Try.func24 (by kernel_rfl) rfl #[.int .i64 t336, .int .i64 t331] rfl (by (try simp only [List.map_toArray, List.map_cons, List.map_nil]); first | done | rfl | (simp only [List.length_drop, List.length_take]; rfl)) ?_; (with_reducible refine (impl_DividePoly.calls kj61 t336 t331 t338 t339 t340 _ A66.out).mono ?_); rintro e w73 ⟨rfl, hb⟩; refine ⟨_, rfl, ?_⟩; have n0_ := Aside0.mk (below_step (by repeat (first | (with_reducible first | exact HB.out | apply below_alloc | apply pw_below_drewN | apply below_drew1) | exact HB.out)) hb); clear HB; have HB := n0_; clear n0_; (try clear hb); (try clear hb2); (try clear hk); (try clear hi)))
                        go_ret
                        exact ⟨by first | rfl | (simp [errW_none, errW_some] <;> rfl) | (simp [*, errW_none, errW_some] <;> rfl), by repeat (first | (with_reducible first | exact HB.out | apply below_alloc | apply pw_below_drewN | apply below_drew1) | exact HB.out)⟩
                     ·replace c64 := Bool.eq_false_iff.mpr c64
                      subst c64
                      have H1 : (some true) = some r := by rw [if_neg (show ¬ (false = true) by decide)] at H; exact H
                      clear H
                      have H := H1
                      clear H1
                      as_aux_lemma =>
                       obtain rfl := Option.some.inj H
                       go_wp2
                       go_ret
                       exact ⟨by first | rfl | (simp [errW_none, errW_some] <;> rfl) | (simp [*, errW_none, errW_some] <;> rfl), by repeat (first | (with_reducible first | exact HB.out | apply below_alloc | apply pw_below_drewN | apply below_drew1) | exact HB.out)⟩
                ·replace c61 := Bool.eq_false_iff.mpr c61
                 subst c61
                 have H1 : (some true) = some r := by rw [if_neg (show ¬ (false = true) by decide)] at H; exact H
                 clear H
                 have H := H1
                 clear H1
                 as_aux_lemma =>
                  obtain rfl := Option.some.inj H
                  go_wp2
                  go_ret
                  exact ⟨by first | rfl | (simp [errW_none, errW_some] <;> rfl) | (simp [*, errW_none, errW_some] <;> rfl), by repeat (first | (with_reducible first | exact HB.out | apply below_alloc | apply pw_below_drewN | apply below_drew1) | exact HB.out)⟩

/-- THE ONE PURE STATEMENT of laws_FnFibonaccisPolynomials: yours. -/
def laws_FnFibonaccisPolynomials.Pure : Prop := ∀ (l0 : List Int) (l1 : List Int), l0.length ≤ maxLen → l0.length * 1 ≤ 140737488351232 → (∀ x ∈ l0, (Lit.int .u8 x).wf = true) → l1.length ≤ maxLen → l1.length * 1 ≤ 140737488351232 → (∀ x ∈ l1, (Lit.int .u8 x).wf = true) → ∃ k, laws_FnFibonaccisPolynomials.f k l0 l1 = some true
theorem laws_FnFibonaccisPolynomials.walk (P : laws_FnFibonaccisPolynomials.Pure) (a0 : Option Addr) (len0 cap0 : Nat) (z0 : List Int) (a1 : Option Addr) (len1 cap1 : Nat) (z1 : List Int) (w : World) (w0 : (a0 = none ∧ len0 = 0 ∧ cap0 = 0 ∧ z0 = []) ∨ ∃ x, a0 = some x ∧ len0 ≤ cap0 ∧ cap0 ≤ maxLen ∧ z0.length = cap0 ∧ (∀ i, i < z0.length → w.cell? (x.add i) = some (.int .u8 (z0.getD i 0))) ∧ ∀ n ∈ z0, (Lit.int .u8 n).wf = true) (y0 : len0 * 1 ≤ 140737488351232) (w1 : (a1 = none ∧ len1 = 0 ∧ cap1 = 0 ∧ z1 = []) ∨ ∃ x, a1 = some x ∧ len1 ≤ cap1 ∧ cap1 ≤ maxLen ∧ z1.length = cap1 ∧ (∀ i, i < z1.length → w.cell? (x.add i) = some (.int .u8 (z1.getD i 0))) ∧ ∀ n ∈ z1, (Lit.int .u8 n).wf = true) (y1 : len1 * 1 ≤ 140737488351232) :
  Calls Try.prog 5 #[.slice a0 len0 cap0, .slice a1 len1 cap1] w fun e w' => e = .returned (.bool true) ∧ Below w.heap.size w w' := by
 obtain ⟨l0, rfl, hr0, hm0, hw0, hc0⟩ := ReadsInt.ofRowC w0
 obtain ⟨l1, rfl, hr1, hm1, hw1, hc1⟩ := ReadsInt.ofRowC w1
 obtain ⟨k, h⟩ := P l0 l1 hm0 y0 hw0 hm1 y1 hw1
 refine (laws_FnFibonaccisPolynomials.calls k _ _ l0 _ _ l1 true w (Kd.C_of_reads (d := (0 : Int)) (h1 := fun _ => rfl) hr0) hc0 (Kd.C_of_reads (d := (0 : Int)) (h1 := fun _ => rfl) hr1) hc1 h).mono ?_
 rintro e w' ⟨rfl, hd⟩
 exact ⟨rfl, hd⟩

end Go.Proofs.Ytigkmdlbijdoaaa.P
