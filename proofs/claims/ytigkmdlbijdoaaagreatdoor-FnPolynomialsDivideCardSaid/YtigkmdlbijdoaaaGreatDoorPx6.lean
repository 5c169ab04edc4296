-- Written by a program of this session (wip/mp.py), which runs the kit's print with contracts of the session's own.
import Derived.Test.YtigkmdlbijdoaaaGreatDoorPx0
import Derived.Test.YtigkmdlbijdoaaaGreatDoorPx1
import Derived.Test.YtigkmdlbijdoaaaGreatDoorPx5
namespace Go.Proofs.YtigkmdlbijdoaaaGreatDoor.P
open Go.RowKit Go.Proofs.YtigkmdlbijdoaaaGreatDoorW.PrintWords Go.Proofs.YtigkmdlbijdoaaaGreatDoorW.PrintLast Go.Proofs.YtigkmdlbijdoaaaGreatDoorW.PrintMore
attribute [local go_sem] max2_int min2_int max_two min_two max_three min_three max_four min_four   -- for this text's walks alone
set_option linter.unusedVariables false
set_option linter.unusedSimpArgs false

/-! ### impl_isPoly: function 30 -/
-- BY HAND
set_option maxHeartbeats 4000000 in
set_option maxRecDepth 100000 in
theorem impl_isPoly_1.calls (x : Int) (w : World) : Calls Tryz.prog 58 #[.int .i64 x] w fun e w' => e = .returned (.bool (!(decide (0 ≤ x) && decide (x ≤ 2199023255551)))) ∧ Drawn0 w w' := by
  have h1 := impl_whole.calls 41 2199023255551
  have h2 := fun w => impl_in.calls x 0 2199023255551 (decide (0 ≤ x) && decide (x ≤ 2199023255551)) w (by unfold impl_in.f; by_cases c : 0 ≤ x <;> simp [c])
  have h1' := fun w => h1 w (by decide +kernel)
  clear h1
  generalize (decide (0 ≤ x) && decide (x ≤ 2199023255551)) = b at h2 ⊢
  go_enter Tryz.func58, Tryz.ntmps58
  go_wp2_with (first | (go_at_call 60; refine (h1' _).mono ?_; rintro e w' ⟨rfl, ⟨nd, rfl⟩⟩) | (go_at_call 59; refine (h2 _).mono ?_; rintro e w' ⟨rfl, ⟨nd, rfl⟩⟩))
  go_ret
  exact ⟨rfl, by repeat (first | exact Drawn0.refl _ | apply Drawn0.step)⟩
theorem any_not_all (p : Int → Bool) (l : List Int) : (!(l.any fun x => !(p x))) = l.all p := by
  induction l with
  | nil => rfl
  | cons x l ih => simp only [List.any_cons, List.all_cons, ← ih]; cases p x <;> simp
def impl_isPoly.f (l0 : List Int) : Option (Bool) := some (l0.all fun x => decide (0 ≤ x) && decide (x ≤ 2199023255551))
set_option maxHeartbeats 8000000 in
set_option maxRecDepth 100000 in
theorem impl_isPoly.calls (A0 : Option Addr) (c0 : Nat) (l0 : List Int) (r : Bool) (w : World) (hr0 : Kd.C (Kd.int .i64) w A0 l0.length l0) (hc0 : l0.length ≤ c0) (h : impl_isPoly.f l0 = some r) :
    Calls Tryz.prog 30 #[.slice A0 l0.length c0] w fun e w' => e = .returned (.bool r) ∧ Drawn0 w w' := by
  unfold impl_isPoly.f at h
  obtain rfl := Option.some.inj h
  clear h
  have HR0 := Aside0.mk hr0
  have EG := Aside0.mk (enters_of Tryz.func58 (by kernel_rfl) rfl)
  clear hr0
  rw [← any_not_all]
  go_enter Tryz.func30, Tryz.ntmps30
  go_wp2_with (go_at_call 57; refine (slices_ContainsFunc_int.calls 58 #[] (fun x => !(decide (0 ≤ x) && decide (x ≤ 2199023255551))) A0 c0 l0 _ (fun W x _ => impl_isPoly_1.calls x W) EG.out HR0.out).mono ?_; rintro e w' ⟨rfl, ⟨nd, rfl⟩⟩)
  go_ret
  exact ⟨by first | rfl | (simp; done), by repeat (first | exact Drawn0.refl _ | apply Drawn0.step)⟩

end Go.Proofs.YtigkmdlbijdoaaaGreatDoor.P
