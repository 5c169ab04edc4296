-- Written by a program of this session (wip/mp.py), which runs the kit's print with contracts of the session's own.
import Derived.Test.YtfhbkgbhogndfaaPx0
namespace Go.Proofs.Ytfhbkgbhogndfaa.P
open Go.RowKit Go.Proofs.YtfhbkgbhogndfaaW.PrintWords Go.Proofs.YtfhbkgbhogndfaaW.PrintLast Go.Proofs.YtfhbkgbhogndfaaW.PrintMore
attribute [local go_sem] max2_int min2_int max_two min_two max_three min_three max_four min_four   -- for this text's walks alone
set_option linter.unusedVariables false
set_option linter.unusedSimpArgs false

/-! ### slices_IndexFunc_int_int: function 29 -/
-- BY HAND
/-- The first place, from i on, at which p holds; -1 where there is none. -/
def idxP (p : Int → Bool) : List Int → Nat → Int
  | [], _ => -1
  | x :: l, i => if p x = true then (i : Int) else idxP p l (i + 1)
theorem idxP_step (p : Int → Bool) (l : List Int) (k : Nat) (h : k < l.length) : idxP p (l.drop k) k = if p (l.getD k 0) = true then (k : Int) else idxP p (l.drop (k + 1)) (k + 1) := by
  rw [List.drop_eq_getElem_cons h]
  simp [idxP, List.getD_eq_getElem?_getD, h]
theorem idxP_end (p : Int → Bool) (l : List Int) : idxP p (l.drop l.length) l.length = -1 := by simp [idxP]
theorem idxP_pos (p : Int → Bool) (l : List Int) (i : Nat) : 0 ≤ idxP p l i ↔ l.any p = true := by
  induction l generalizing i with
  | nil => simp [idxP]
  | cons x l ih =>
    have h2 := ih (i + 1)
    rw [List.any_cons, idxP]
    split
    · rename_i hx; rw [hx]; simp
    · rename_i hx; rw [h2, Bool.eq_false_iff.mpr hx, Bool.false_or]
theorem idxP_any (p : Int → Bool) (l : List Int) (i : Nat) : decide (0 ≤ idxP p l i) = l.any p := by
  rw [Bool.eq_iff_iff, decide_eq_true_iff]
  exact idxP_pos p l i
set_option maxHeartbeats 4000000 in
set_option maxRecDepth 100000 in
theorem slices_IndexFunc_int.calls (g : Nat) (lb : Array Value) (p : Int → Bool) (A0 : Option Addr) (c0 : Nat) (l0 : List Int) (w : World)
    (hp : ∀ (W : World) (x : Int), Drawn0 w W → Calls Try.prog g (#[.int .i64 x] ++ lb) W fun e w' => e = .returned (.bool (p x)) ∧ Drawn0 W w')
    (eg : ∀ args w, (callFunc g args).run Try.prog w = .ok (.enter g args) w)
    (hr0 : Kd.C (Kd.int .i64) w A0 l0.length l0) :
    Calls Try.prog 29 #[.slice A0 l0.length c0, .func (.func g) #[] lb] w fun e w' => e = .returned (.int .i64 (idxP p l0 0)) ∧ Drawn0 w w' := by
  have hm := Kd.C_max hr0
  have HR0 := Aside0.mk hr0
  clear hr0
  go_enter Try.func29, Try.ntmps29
  go_wp2
  go_loopg [5, 8] l0.length (fun kq _ v8 w' => ∃ kk : Nat, kk ≤ l0.length ∧ l0.length - kk ≤ kq ∧ v8 = .int .i64 kk ∧ Aside0 (idxP p l0 0 = idxP p (l0.drop kk) kk) ∧ Drawn0 w w')
  case atStart => exact ⟨0, Nat.zero_le _, by omega, rfl, ⟨rfl⟩, by repeat (first | exact Drawn0.refl _ | apply Drawn0.step)⟩
  case round =>
    obtain ⟨kk, hkk, hg, rfl, HA, ⟨m1, rfl⟩⟩ := hrel
    by_cases hlt : kk < l0.length
    · have hltz : (kk : Int) < (l0.length : Int) := by omega
      have hstep := idxP_step p l0 kk hlt
      have hcall := hp (w.drewN m1) (rd l0 kk) ⟨⟨m1, rfl⟩⟩
      have p101 : 0 ≤ (kk : Int) := by omega
      obtain ⟨ad101, e101, hx101_0⟩ := Kd.at_int HR0.out kk p101 hltz
      cases e101
      rw [Int.toNat_natCast] at hx101_0
      have hrd : rd l0 kk = l0.getD kk 0 := rfl
      cases hq : p (rd l0 kk) with
      | true =>
        rw [hq] at hcall
        rw [← hrd, hq, if_pos rfl] at hstep
        have HS := Aside0.mk (HA.out.trans hstep)
        clear hstep HA hrd hq
        go_wp2_with (go_at_fn g; refine hcall.mono ?_; rintro e w' ⟨rfl, ⟨nd, rfl⟩⟩)
        go_ret
        exact ⟨by first | (rw [HS.out]; done) | (rw [HS.out]; rfl), by repeat (first | exact Drawn0.refl _ | apply Drawn0.step)⟩
      | false =>
        rw [hq] at hcall
        rw [← hrd, hq, if_neg (by simp)] at hstep
        have HS := Aside0.mk (HA.out.trans hstep)
        clear hstep HA hrd hq
        go_wp2_with (go_at_fn g; refine hcall.mono ?_; rintro e w' ⟨rfl, ⟨nd, rfl⟩⟩)
        go_roundg (l0.length - (kk + 1))
        case measure => omega
        case rel => exact ⟨kk + 1, by omega, by omega, by go_num, HS, by repeat (first | exact Drawn0.refl _ | apply Drawn0.step)⟩
    · have hltz : ¬ (kk : Int) < (l0.length : Int) := by omega
      obtain rfl : kk = l0.length := by omega
      have HS := Aside0.mk (HA.out.trans (idxP_end p l0))
      clear HA
      go_wp2
      go_ret
      exact ⟨by first | (rw [HS.out]; done) | (rw [HS.out]; rfl), by repeat (first | exact Drawn0.refl _ | apply Drawn0.step)⟩

/-! ### slices_ContainsFunc_int_int: function 27 -/
-- BY HAND
set_option maxHeartbeats 4000000 in
set_option maxRecDepth 100000 in
theorem slices_ContainsFunc_int.calls (g : Nat) (lb : Array Value) (p : Int → Bool) (A0 : Option Addr) (c0 : Nat) (l0 : List Int) (w : World)
    (hp : ∀ (W : World) (x : Int), Drawn0 w W → Calls Try.prog g (#[.int .i64 x] ++ lb) W fun e w' => e = .returned (.bool (p x)) ∧ Drawn0 W w')
    (eg : ∀ args w, (callFunc g args).run Try.prog w = .ok (.enter g args) w)
    (hr0 : Kd.C (Kd.int .i64) w A0 l0.length l0) :
    Calls Try.prog 27 #[.slice A0 l0.length c0, .func (.func g) #[] lb] w fun e w' => e = .returned (.bool (l0.any p)) ∧ Drawn0 w w' := by
  have HP := Aside0.mk hp
  have EG := Aside0.mk eg
  have HR0 := Aside0.mk hr0
  clear hr0 hp eg
  rw [← idxP_any p l0 0]
  generalize hr : idxP p l0 0 = r
  have HRR := Aside0.mk hr
  clear hr
  go_enter Try.func27, Try.ntmps27
  go_wp2_with (go_at_call 29; refine (slices_IndexFunc_int.calls g lb p A0 c0 l0 _ HP.out EG.out HR0.out).mono ?_; rintro e w' ⟨rfl, ⟨nd, rfl⟩⟩; rw [HRR.out])
  go_ret
  exact ⟨by first | rfl | (simp; done), by repeat (first | exact Drawn0.refl _ | apply Drawn0.step)⟩

/-! ### pseudo_met: function 47 -/
-- BY HAND
def pseudo_met.f (l0 : List (List Int)) (a1 : Int) (l2 : List Int) : Option Bool := some ((l0.take a1.toNat).contains l2)

end Go.Proofs.Ytfhbkgbhogndfaa.P
