-- Written by a program of this session (wip/mp.py), which runs the kit's print with contracts of the session's own.
import Derived.Test.YtcdobojoijmaaaaPx0
import Derived.Test.YtcdobojoijmaaaaPx3
import Derived.Test.YtcdobojoijmaaaaPx7
namespace Go.Proofs.Ytcdobojoijmaaaa.P
open Go.RowKit Go.Proofs.YtcdobojoijmaaaaW.PrintWords Go.Proofs.YtcdobojoijmaaaaW.PrintLast Go.Proofs.YtcdobojoijmaaaaW.PrintMore
attribute [local go_sem] max2_int min2_int max_two min_two max_three min_three max_four min_four   -- for this text's walks alone
set_option linter.unusedVariables false
set_option linter.unusedSimpArgs false

/-! ### impl_isDigits: function 50 -/
-- BY HAND
set_option maxHeartbeats 4000000 in
set_option maxRecDepth 100000 in
theorem impl_isDigits_1.calls (x : Int) (w : World) : Calls Try.prog 71 #[.int .i64 x] w fun e w' => e = .returned (.bool (!(decide (0 ≤ x) && decide (x ≤ 9)))) ∧ Drawn0 w w' := by
  have h2 := fun w => impl_in.calls x 0 9 (decide (0 ≤ x) && decide (x ≤ 9)) w (by unfold impl_in.f; by_cases c : 0 ≤ x <;> simp [c])
  generalize (decide (0 ≤ x) && decide (x ≤ 9)) = b at h2 ⊢
  go_enter Try.func71, Try.ntmps71
  go_wp2_with (first | (go_at_call 47; refine (h2 _).mono ?_; rintro e w' ⟨rfl, ⟨nd, rfl⟩⟩))
  go_ret
  exact ⟨rfl, by repeat (first | exact Drawn0.refl _ | apply Drawn0.step)⟩
theorem any_not_all' (p : Int → Bool) (l : List Int) : (!(l.any fun x => !(p x))) = l.all p := by
  induction l with
  | nil => rfl
  | cons x l ih => simp only [List.any_cons, List.all_cons, ← ih]; cases p x <;> simp
def impl_isDigits.f (l0 : List Int) : Option (Bool) := some (decide (1 ≤ (l0.length : Int)) && decide ((l0.length : Int) ≤ 10) && l0.all fun x => decide (0 ≤ x) && decide (x ≤ 9))
set_option maxHeartbeats 8000000 in
set_option maxRecDepth 100000 in
theorem impl_isDigits.calls (A0 : Option Addr) (c0 : Nat) (l0 : List Int) (r : Bool) (w : World) (hr0 : Kd.C (Kd.int .i64) w A0 l0.length l0) (hc0 : l0.length ≤ c0) (h : impl_isDigits.f l0 = some r) :
    Calls Try.prog 50 #[.slice A0 l0.length c0] w fun e w' => e = .returned (.bool r) ∧ Drawn0 w w' := by
  unfold impl_isDigits.f at h
  obtain rfl := Option.some.inj h
  clear h
  have HR0 := Aside0.mk hr0
  have EG := Aside0.mk (enters_of Try.func71 (by kernel_rfl) rfl)
  clear hr0
  rw [← any_not_all']
  have h2 := fun w => impl_in.calls (l0.length : Int) 1 10 (decide (1 ≤ (l0.length : Int)) && decide ((l0.length : Int) ≤ 10)) w (by unfold impl_in.f; by_cases c : 1 ≤ (l0.length : Int) <;> simp [c])
  have h3 := fun w' (hd : Drawn0 w w') => slices_ContainsFunc_int.calls 71 #[] (fun x => !(decide (0 ≤ x) && decide (x ≤ 9))) A0 c0 l0 w' (fun W x _ => impl_isDigits_1.calls x W) EG.out (by obtain ⟨n, rfl⟩ := hd.out; exact Kd.C_below HR0.out (Drawn0.below ⟨⟨n, rfl⟩⟩))
  generalize (decide (1 ≤ (l0.length : Int)) && decide ((l0.length : Int) ≤ 10)) = b at h2 ⊢
  generalize (l0.any fun x => !(decide (0 ≤ x) && decide (x ≤ 9))) = c at h3 ⊢
  cases b
  · go_enter Try.func50, Try.ntmps50
    go_wp2_with (go_at_call 47; refine (h2 _).mono ?_; rintro e w' ⟨rfl, ⟨nd, rfl⟩⟩)
    go_ret
    exact ⟨by first | rfl | (simp; done), by repeat (first | exact Drawn0.refl _ | apply Drawn0.step)⟩
  · go_enter Try.func50, Try.ntmps50
    go_wp2_with (first | (go_at_call 47; refine (h2 _).mono ?_; rintro e w' ⟨rfl, ⟨nd, rfl⟩⟩) | (go_at_call 70; refine (h3 _ ⟨⟨_, rfl⟩⟩).mono ?_; rintro e w' ⟨rfl, ⟨nd, rfl⟩⟩))
    go_ret
    exact ⟨by first | rfl | (simp; done), by repeat (first | exact Drawn0.refl _ | apply Drawn0.step)⟩

end Go.Proofs.Ytcdobojoijmaaaa.P
