-- Written by a program of this session (wip/mp.py), which runs the kit's print with contracts of the session's own.
import Derived.Test.YtfhbkgbhogndfaaPx0
import Derived.Test.YtfhbkgbhogndfaaPx3
import Derived.Test.YtfhbkgbhogndfaaPx4
namespace Go.Proofs.Ytfhbkgbhogndfaa.P
open Go.RowKit Go.Proofs.YtfhbkgbhogndfaaW.PrintWords Go.Proofs.YtfhbkgbhogndfaaW.PrintLast Go.Proofs.YtfhbkgbhogndfaaW.PrintMore
attribute [local go_sem] max2_int min2_int max_two min_two max_three min_three max_four min_four   -- for this text's walks alone
set_option linter.unusedVariables false
set_option linter.unusedSimpArgs false

/-! ### impl_hasButton: function 19 -/
-- BY HAND
theorem any_not_allh (p : Int → Bool) (l : List Int) : (!(l.any fun x => !(p x))) = l.all p := by
  induction l with
  | nil => rfl
  | cons x l ih => simp only [List.any_cons, List.all_cons, ← ih]; cases p x <;> simp
set_option maxHeartbeats 4000000 in
set_option maxRecDepth 100000 in
theorem impl_hasButton_1.calls (B : Nat) (A : Option Addr) (n c : Nat) (x m : Int) (w : World) (hc : w.cell? ⟨B, 0, none⟩ = some (.slice A n c)) (hm : wrap64 ((n : Int) - 1) = m) (hn : n ≤ 9223372036854775807) :
    Calls Try.prog 28 #[.int .i64 x, .pointer (some ⟨B, 0, none⟩)] w fun e w' => e = .returned (.bool (!(decide (0 ≤ x) && decide (x ≤ m)))) ∧ Drawn0 w w' := by
  have hm' : (n : Int) - 1 = m := by unfold wrap64 at hm; omega
  subst hm'
  clear hm
  have h2 := fun w => impl_in.calls x 0 ((n : Int) - 1) (decide (0 ≤ x) && decide (x ≤ (n : Int) - 1)) w (by unfold impl_in.f; by_cases c : 0 ≤ x <;> simp [c])
  generalize (decide (0 ≤ x) && decide (x ≤ (n : Int) - 1)) = b at h2 ⊢
  go_enter Try.func28, Try.ntmps28
  go_wp2_with (go_at_call 25; refine (h2 _).mono ?_; rintro e w' ⟨rfl, ⟨nd, rfl⟩⟩)
  go_ret
  exact ⟨rfl, by repeat (first | exact Drawn0.refl _ | apply Drawn0.step)⟩
def impl_hasButton.f (k : Nat) (l0_0 : List Int) (a0_1 : Bool) (l1 : List Int) : Option (Bool) := (impl_isGraph.f k l0_0 a0_1).bind fun t => if t = true then some (l1.all fun x => decide (0 ≤ x) && decide (x ≤ wrap64 ((l0_0.length : Int) - 1))) else some false
theorem impl_hasButton.mono : ∀ a0 a1 a2 k, LeO (impl_hasButton.f k a0 a1 a2) (impl_hasButton.f (k + 1) a0 a1 a2) := by
  intro a0 a1 a2 k
  unfold impl_hasButton.f
  repeat' first
      | (with_reducible exact impl_isGraph.mono _ _ _)
      | (with_reducible exact LeO.refl _)
      | (with_reducible exact LeO.none _)
      | (with_reducible refine LeO.ite ?_ ?_)
      | (with_reducible refine LeO.bind ?_ (fun _ => ?_))
      | exact impl_isGraph.mono _ _ _
      | exact LeO.none _
      | refine LeO.ite ?_ ?_
      | refine LeO.bind ?_ (fun _ => ?_)
set_option maxHeartbeats 8000000 in
set_option maxRecDepth 100000 in
theorem impl_hasButton.calls (k : Nat) (A0_0 : Option Addr) (c0_0 : Nat) (l0_0 : List Int) (a0_1 : Bool) (A1 : Option Addr) (c1 : Nat) (l1 : List Int) (r : Bool) (w : World) (hr0_0 : Kd.C (Kd.int .i64) w A0_0 l0_0.length l0_0) (hc0_0 : l0_0.length ≤ c0_0) (hr1 : Kd.C (Kd.int .i64) w A1 l1.length l1) (hc1 : l1.length ≤ c1) (h : impl_hasButton.f k l0_0 a0_1 l1 = some r) :
    Calls Try.prog 19 #[.agg #[.slice A0_0 l0_0.length c0_0, .bool a0_1], .slice A1 l1.length c1] w fun e w' => e = .returned (.bool r) ∧ Below w.heap.size w w' := by
  have hn0 := Kd.C_max hr0_0
  have HR0 := Aside0.mk hr0_0
  have HR1 := Aside0.mk hr1
  have EG := Aside0.mk (enters_of Try.func28 (by kernel_rfl) rfl)
  clear hr0_0 hr1
  unfold impl_hasButton.f at h
  replace h := Option.bind_eq_some_iff.mp h
  obtain ⟨t, hg, h⟩ := h
  have HG := Aside0.mk hg
  clear hg
  cases t with
  | false =>
    rw [if_neg (by simp)] at h
    obtain rfl := Option.some.inj h
    clear h
    go_enter Try.func19, Try.ntmps19
    go_wp2_with (go_at_call 18; refine (impl_isGraph.calls k _ _ l0_0 a0_1 false _ ?s1 hc0_0 HG.out).mono ?_; (case s1 => exact Kd.C_below HR0.out ((Below.refl _ _).alloc (Nat.le_refl _) _)); rintro e w1 ⟨rfl, hb⟩; have HB := Aside0.mk hb; clear hb)
    go_ret
    exact ⟨by first | rfl | (simp; done), ((Below.refl _ _).alloc (Nat.le_refl _) _).trans (HB.out.mono (by simp))⟩
  | true =>
    rw [if_pos rfl] at h
    obtain rfl := Option.some.inj h
    clear h
    rw [← any_not_allh]
    obtain ⟨m, hm⟩ : ∃ m, wrap64 ((l0_0.length : Int) - 1) = m := ⟨_, rfl⟩
    rw [hm]
    have HM := Aside0.mk hm
    clear hm
    go_enter Try.func19, Try.ntmps19
    go_wp2_with (first
      | (go_at_call 18; refine (impl_isGraph.calls k _ _ l0_0 a0_1 true _ ?s1 hc0_0 HG.out).mono ?_; (case s1 => exact Kd.C_below HR0.out ((Below.refl _ _).alloc (Nat.le_refl _) _)); rintro e w1 ⟨rfl, hb⟩; have HB := Aside0.mk hb; have HX := Aside0.mk ((hb.cell (p := ⟨w.heap.size, 0, none⟩) (by simp)).trans (by simp : _ = some (Value.slice A0_0 l0_0.length c0_0))); clear hb)
      | (go_at_call 27; refine (slices_ContainsFunc_int.calls 28 #[.pointer (some ⟨w.heap.size, 0, none⟩)] (fun x => !(decide (0 ≤ x) && decide (x ≤ m))) A1 c1 l1 _ (fun W x hd => ?s2) EG.out ?s3).mono ?_; (case s2 => (obtain ⟨nd, rfl⟩ := hd.out; exact impl_hasButton_1.calls w.heap.size A0_0 l0_0.length c0_0 x m _ (by first | exact HX.out | (simp; exact HX.out)) HM.out hn0)); (case s3 => exact Kd.C_below HR1.out (((Below.refl _ _).alloc (Nat.le_refl _) _).trans (HB.out.mono (by simp)))); rintro e w' ⟨rfl, ⟨nd, rfl⟩⟩))
    go_ret
    exact ⟨by first | rfl | (simp; done), by repeat (first | exact ((Below.refl _ _).alloc (Nat.le_refl _) _).trans (HB.out.mono (by simp)) | apply pw_below_drewN)⟩

end Go.Proofs.Ytfhbkgbhogndfaa.P
