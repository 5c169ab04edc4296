-- Written by a program of this session (wip/mp.py), which runs the kit's print with contracts of the session's own.
import Derived.Test.YtigkmdlbijdoaaaDoorPx0
import Derived.Test.YtigkmdlbijdoaaaDoorPx1
import Derived.Test.YtigkmdlbijdoaaaDoorPx2
namespace Go.Proofs.YtigkmdlbijdoaaaDoor.P
open Go.RowKit Go.Proofs.YtigkmdlbijdoaaaDoorW.PrintWords Go.Proofs.YtigkmdlbijdoaaaDoorW.PrintLast Go.Proofs.YtigkmdlbijdoaaaDoorW.PrintMore
attribute [local go_sem] max2_int min2_int max_two min_two max_three min_three max_four min_four   -- for this text's walks alone
set_option linter.unusedVariables false
set_option linter.unusedSimpArgs false

/-! ### impl_isPoly: function 11 -/
-- BY HAND
set_option maxHeartbeats 4000000 in
set_option maxRecDepth 100000 in
theorem impl_isPoly_1.calls (x : Int) (w : World) : Calls Tryd.prog 22 #[.int .i64 x] w fun e w' => e = .returned (.bool (!(decide (0 ≤ x) && decide (x ≤ 2199023255551)))) ∧ Drawn0 w w' := by
  have h1 := impl_whole.calls 41 2199023255551
  have h2 := fun w => impl_in.calls x 0 2199023255551 (decide (0 ≤ x) && decide (x ≤ 2199023255551)) w (by unfold impl_in.f; by_cases c : 0 ≤ x <;> simp [c])
  have h1' := fun w => h1 w (by decide +kernel)
  clear h1
  generalize (decide (0 ≤ x) && decide (x ≤ 2199023255551)) = b at h2 ⊢
  go_enter Tryd.func22, Tryd.ntmps22
  go_wp2_with (first | (go_at_call 24; refine (h1' _).mono ?_; rintro e w' ⟨rfl, ⟨nd, rfl⟩⟩) | (go_at_call 23; refine (h2 _).mono ?_; rintro e w' ⟨rfl, ⟨nd, rfl⟩⟩))
  go_ret
  exact ⟨rfl, by repeat (first | exact Drawn0.refl _ | apply Drawn0.step)⟩
theorem any_not_all (p : Int → Bool) (l : List Int) : (!(l.any fun x => !(p x))) = l.all p := by
  induction l with
  | nil => rfl
  | cons x l ih => simp only [List.any_cons, List.all_cons, ← ih]; cases p x <;> simp
def impl_isPoly.f (l0 : List Int) : Option (Bool) := some (l0.all fun x => decide (0 ≤ x) && decide (x ≤ 2199023255551))
set_option maxHeartbeats 8000000 in
set_option maxRecDepth 100000 in
theorem impl_isPoly.calls (A0 : Option Addr) (c0 : Nat) (l0 : List Int) (r : Bool) (w : World) (hr0 : Kd.C (Kd.int .i64) w A0 l0.length l0) (hc0 : l0.length ≤ c0) (h : impl_isPoly.f l0 = some r) :
    Calls Tryd.prog 11 #[.slice A0 l0.length c0] w fun e w' => e = .returned (.bool r) ∧ Drawn0 w w' := by
  unfold impl_isPoly.f at h
  obtain rfl := Option.some.inj h
  clear h
  have HR0 := Aside0.mk hr0
  have EG := Aside0.mk (enters_of Tryd.func22 (by kernel_rfl) rfl)
  clear hr0
  rw [← any_not_all]
  go_enter Tryd.func11, Tryd.ntmps11
  go_wp2_with (go_at_call 21; refine (slices_ContainsFunc_int.calls 22 #[] (fun x => !(decide (0 ≤ x) && decide (x ≤ 2199023255551))) A0 c0 l0 _ (fun W x _ => impl_isPoly_1.calls x W) EG.out HR0.out).mono ?_; rintro e w' ⟨rfl, ⟨nd, rfl⟩⟩)
  go_ret
  exact ⟨by first | rfl | (simp; done), by repeat (first | exact Drawn0.refl _ | apply Drawn0.step)⟩

/-! ### strconv_Itoa_27: function 27 -/
-- BY HAND
def strconv_Itoa_27.f (a0 : Int) : Option (ByteArray) := if 0 ≤ a0 then (if a0 < 100 then some ⟨(Go.Lib.decDigits a0.toNat).toArray⟩ else none) else none
set_option maxHeartbeats 8000000 in
set_option maxRecDepth 100000 in
theorem strconv_Itoa_27.calls (a0 : Int) (r : ByteArray) (w : World) (h : strconv_Itoa_27.f a0 = some r) :
    Calls Tryd.prog 27 #[.int .i64 a0] w fun e w' => e = .returned (.string r) ∧ Drawn0 w w' := by
  unfold strconv_Itoa_27.f at h
  split at h
  · rename_i h0
    split at h
    · rename_i h1
      obtain rfl := Option.some.inj h
      have := Tryd.strconv_Itoa_small a0.toNat (by omega) w
      rw [Int.toNat_of_nonneg h0] at this
      refine this.mono ?_
      rintro e w' ⟨rfl, rfl⟩
      exact ⟨rfl, Drawn0.refl _⟩
    · cases h
  · cases h

end Go.Proofs.YtigkmdlbijdoaaaDoor.P
