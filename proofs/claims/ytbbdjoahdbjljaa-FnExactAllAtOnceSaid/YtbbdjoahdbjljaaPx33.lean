-- Written by a program of this session (wip/mp.py), which runs the kit's print with contracts of the session's own.
import Derived.Test.YtbbdjoahdbjljaaPx0
import Derived.Test.YtbbdjoahdbjljaaPx5
namespace Go.Proofs.Ytbbdjoahdbjljaa.P
open Go.RowKit Go.Proofs.YtbbdjoahdbjljaaW.PrintWords Go.Proofs.YtbbdjoahdbjljaaW.PrintLast Go.Proofs.YtbbdjoahdbjljaaW.PrintMore
attribute [local go_sem] max2_int min2_int max_two min_two max_three min_three max_four min_four   -- for this text's walks alone
set_option linter.unusedVariables false
set_option linter.unusedSimpArgs false
/-! ### pseudo_firstNZ: function 120 -/
-- BY HAND
set_option maxHeartbeats 4000000 in
set_option maxRecDepth 100000 in
theorem impl_firstPlaces_1.calls (x : Int) (w : World) : Calls Try.prog 100 #[.int .i64 x] w fun e w' => e = .returned (.bool (x != 0)) ∧ Drawn0 w w' := by
  go_enter Try.func100, Try.ntmps100
  go_wp2
  go_ret
  exact ⟨by first | rfl | (simp; done), by repeat (first | exact Drawn0.refl _ | apply Drawn0.step)⟩
def pseudo_firstNZ.f (l0 : List Int) : Option Int := some (idxP (fun x => (x != 0)) l0 0)
theorem pseudo_firstNZ.calls (A0 : Option Addr) (c0 : Nat) (l0 : List Int) (r : Int) (w : World) (hr0 : Kd.C (Kd.int .i64) w A0 l0.length l0) (hc0 : l0.length ≤ c0) (h : pseudo_firstNZ.f l0 = some r) :
    Calls Try.prog 97 #[.slice A0 l0.length c0, .func (.func 100) #[] #[]] w fun e w' => e = .returned (.int .i64 r) ∧ Drawn0 w w' := by
  unfold pseudo_firstNZ.f at h
  obtain rfl := Option.some.inj h
  exact slices_IndexFunc_int.calls 100 #[] (fun x => (x != 0)) A0 c0 l0 w (fun W x _ => impl_firstPlaces_1.calls x W) (enters_of Try.func100 (by kernel_rfl) rfl) hr0
end Go.Proofs.Ytbbdjoahdbjljaa.P
