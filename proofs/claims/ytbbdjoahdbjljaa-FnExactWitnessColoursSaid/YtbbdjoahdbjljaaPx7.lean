-- Written by a program of this session (wip/mp.py), which runs the kit's print with contracts of the session's own.
import Derived.Test.YtbbdjoahdbjljaaPx0
import Derived.Test.YtbbdjoahdbjljaaPx1
import Derived.Test.YtbbdjoahdbjljaaPx2
import Derived.Test.YtbbdjoahdbjljaaPx6
namespace Go.Proofs.Ytbbdjoahdbjljaa.P
open Go.RowKit Go.Proofs.YtbbdjoahdbjljaaW.PrintWords Go.Proofs.YtbbdjoahdbjljaaW.PrintLast Go.Proofs.YtbbdjoahdbjljaaW.PrintMore
attribute [local go_sem] max2_int min2_int max_two min_two max_three min_three max_four min_four   -- for this text's walks alone
set_option linter.unusedVariables false
set_option linter.unusedSimpArgs false
/-! ### impl_areColours: function 54 -/
-- BY HAND
theorem any_not_allc (p : Int → Bool) (l : List Int) : (!(l.any fun x => !(p x))) = l.all p := by
  induction l with
  | nil => rfl
  | cons x l ih => simp only [List.any_cons, List.all_cons, ← ih]; cases p x <;> simp
set_option maxHeartbeats 4000000 in
set_option maxRecDepth 100000 in
theorem impl_areColours_1.calls (B : Nat) (x m : Int) (w : World) (hc : w.cell? ⟨B, 0, none⟩ = some (.int .i64 m)) :
    Calls Try.prog 74 #[.int .i64 x, .pointer (some ⟨B, 0, none⟩)] w fun e w' => e = .returned (.bool (!(decide (0 ≤ x) && decide (x ≤ wrap64 (m - 1))))) ∧ Drawn0 w w' := by
  have h2 := fun w => impl_in.calls x 0 (wrap64 (m - 1)) (decide (0 ≤ x) && decide (x ≤ wrap64 (m - 1))) w (by unfold impl_in.f; by_cases c : 0 ≤ x <;> simp [c])
  generalize (decide (0 ≤ x) && decide (x ≤ wrap64 (m - 1))) = b at h2 ⊢
  go_enter Try.func74, Try.ntmps74
  go_wp2_with (go_at_call 75; refine (h2 _).mono ?_; rintro e w' ⟨rfl, ⟨nd, rfl⟩⟩)
  go_ret
  exact ⟨rfl, by repeat (first | exact Drawn0.refl _ | apply Drawn0.step)⟩
def impl_areColours.f (k : Nat) (l0_0 : List Int) (a0_1 : Bool) (a1 : Int) (l2 : List Int) : Option (Bool) := (impl_isColoured.f k l0_0 a0_1 a1).bind fun t => if t = true then (if (l2.length : Int) = (l0_0.length : Int) then some (l2.all fun x => decide (0 ≤ x) && decide (x ≤ wrap64 (a1 - 1))) else some false) else some false
set_option maxHeartbeats 8000000 in
set_option maxRecDepth 100000 in
theorem impl_areColours.calls (k : Nat) (A0_0 : Option Addr) (c0_0 : Nat) (l0_0 : List Int) (a0_1 : Bool) (a1 : Int) (A2 : Option Addr) (c2 : Nat) (l2 : List Int) (r : Bool) (w : World) (hr0_0 : Kd.C (Kd.int .i64) w A0_0 l0_0.length l0_0) (hc0_0 : l0_0.length ≤ c0_0) (hr2 : Kd.C (Kd.int .i64) w A2 l2.length l2) (hc2 : l2.length ≤ c2) (h : impl_areColours.f k l0_0 a0_1 a1 l2 = some r) :
    Calls Try.prog 54 #[.agg #[.slice A0_0 l0_0.length c0_0, .bool a0_1], .int .i64 a1, .slice A2 l2.length c2] w fun e w' => e = .returned (.bool r) ∧ Below w.heap.size w w' := by
  have HR0 := Aside0.mk hr0_0
  have HR2 := Aside0.mk hr2
  have EG := Aside0.mk (enters_of Try.func74 (by kernel_rfl) rfl)
  clear hr0_0 hr2
  unfold impl_areColours.f at h
  replace h := Option.bind_eq_some_iff.mp h
  obtain ⟨t, hg, h⟩ := h
  have HG := Aside0.mk hg
  clear hg
  cases t with
  | false =>
    rw [if_neg (by simp)] at h
    obtain rfl := Option.some.inj h
    clear h
    go_enter Try.func54, Try.ntmps54
    go_wp2_with (go_at_call 53; refine (impl_isColoured.calls k _ _ l0_0 a0_1 a1 false _ ?s1 hc0_0 HG.out).mono ?_; (case s1 => exact Kd.C_below HR0.out (((Below.refl _ _).alloc (Nat.le_refl _) _).alloc (by simp) _)); rintro e w1 ⟨rfl, hb⟩; have HB := Aside0.mk hb; clear hb)
    go_ret
    exact ⟨by first | rfl | (simp; done), (((Below.refl _ _).alloc (Nat.le_refl _) _).alloc (by simp) _).trans (HB.out.mono (by simp; omega))⟩
  | true =>
    rw [if_pos rfl] at h
    by_cases hlen : (l2.length : Int) = (l0_0.length : Int)
    · rw [if_pos hlen] at h
      obtain rfl := Option.some.inj h
      clear h
      rw [← any_not_allc]
      go_enter Try.func54, Try.ntmps54
      go_wp2_with (first
        | (go_at_call 53; refine (impl_isColoured.calls k _ _ l0_0 a0_1 a1 true _ ?s1 hc0_0 HG.out).mono ?_; (case s1 => exact Kd.C_below HR0.out (((Below.refl _ _).alloc (Nat.le_refl _) _).alloc (by simp) _)); rintro e w1 ⟨rfl, hb⟩; have HB := Aside0.mk hb; have HX := Aside0.mk ((hb.cell (p := ⟨w.heap.size + 1, 0, none⟩) (by simp)).trans (by simp : _ = some (Value.int .i64 a1))); have hy := (hb.cell (p := ⟨w.heap.size, 0, none⟩) (by simp; omega)).trans (by simp : _ = some (Value.slice A0_0 l0_0.length c0_0)); clear hb)
        | (go_at_call 73; refine (slices_ContainsFunc_int.calls 74 #[.pointer (some ⟨w.heap.size + 1, 0, none⟩)] (fun x => !(decide (0 ≤ x) && decide (x ≤ wrap64 (a1 - 1)))) A2 c2 l2 _ (fun W x hd => ?s2) EG.out ?s3).mono ?_; (case s2 => (obtain ⟨nd, rfl⟩ := hd.out; exact impl_areColours_1.calls (w.heap.size + 1) x a1 _ (by first | exact HX.out | (simp; exact HX.out)))); (case s3 => exact Kd.C_below HR2.out ((((Below.refl _ _).alloc (Nat.le_refl _) _).alloc (by simp) _).trans (HB.out.mono (by simp; omega)))); rintro e w' ⟨rfl, ⟨nd, rfl⟩⟩))
      go_ret
      exact ⟨by first | rfl | (simp; done), by repeat (first | exact (((Below.refl _ _).alloc (Nat.le_refl _) _).alloc (by simp) _).trans (HB.out.mono (by simp; omega)) | apply pw_below_drewN)⟩
    · rw [if_neg hlen] at h
      obtain rfl := Option.some.inj h
      clear h
      go_enter Try.func54, Try.ntmps54
      go_wp2_with (go_at_call 53; refine (impl_isColoured.calls k _ _ l0_0 a0_1 a1 true _ ?s1 hc0_0 HG.out).mono ?_; (case s1 => exact Kd.C_below HR0.out (((Below.refl _ _).alloc (Nat.le_refl _) _).alloc (by simp) _)); rintro e w1 ⟨rfl, hb⟩; have HB := Aside0.mk hb; have hy := (hb.cell (p := ⟨w.heap.size, 0, none⟩) (by simp; omega)).trans (by simp : _ = some (Value.slice A0_0 l0_0.length c0_0)); clear hb)
      go_ret
      exact ⟨by first | rfl | (simp; done), by repeat (first | exact (((Below.refl _ _).alloc (Nat.le_refl _) _).alloc (by simp) _).trans (HB.out.mono (by simp; omega)) | apply pw_below_drewN)⟩
end Go.Proofs.Ytbbdjoahdbjljaa.P
