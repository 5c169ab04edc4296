-- Written by a program of this session (wip/mp.py), which runs the kit's print with contracts of the session's own.
import Derived.Test.YtcdobojoijmaaaaPx0
import Derived.Test.YtcdobojoijmaaaaPx1
namespace Go.Proofs.Ytcdobojoijmaaaa.P
open Go.RowKit Go.Proofs.YtcdobojoijmaaaaW.PrintWords Go.Proofs.YtcdobojoijmaaaaW.PrintLast Go.Proofs.YtcdobojoijmaaaaW.PrintMore
attribute [local go_sem] max2_int min2_int max_two min_two max_three min_three max_four min_four   -- for this text's walks alone
set_option linter.unusedVariables false
set_option linter.unusedSimpArgs false

/-! ### slices_IndexFunc_int_int: function 78 -/
-- BY HAND
/-- The first place, from i on, at which p holds; -1 where there is none. -/
def idxP (p : Int → Bool) : List Int → Nat → Int
  | [], _ => -1
  | x :: l, i => if p x = true then (i : Int) else idxP p l (i + 1)
theorem idxP_step (p : Int → Bool) (l : List Int) (k : Nat) (h : k < l.length) : idxP p (l.drop k) k = if p (l.getD k 0) = true then (k : Int) else idxP p (l.drop (k + 1)) (k + 1) := by
  rw [List.drop_eq_getElem_cons h]
  simp [idxP, List.getD_eq_getElem?_getD, h]
theorem idxP_end (p : Int → Bool) (l : List Int) : idxP p (l.drop l.length) l.length = -1 := by simp [idxP]
theorem idxP_pos (p : Int → Bool) (l : List Int) (i : Nat) : 0 ≤ idxP p l i ↔ l.any p = true := by
  induction l generalizing i with
  | nil => simp [idxP]
  | cons x l ih =>
    have h2 := ih (i + 1)
    rw [List.any_cons, idxP]
    split
    · rename_i hx; rw [hx]; simp
    · rename_i hx; rw [h2, Bool.eq_false_iff.mpr hx, Bool.false_or]
theorem idxP_any (p : Int → Bool) (l : List Int) (i : Nat) : decide (0 ≤ idxP p l i) = l.any p := by
  rw [Bool.eq_iff_iff, decide_eq_true_iff]
  exact idxP_pos p l i
set_option maxHeartbeats 4000000 in
set_option maxRecDepth 100000 in
theorem slices_IndexFunc_int.calls (g : Nat) (lb : Array Value) (p : Int → Bool) (A0 : Option Addr) (c0 : Nat) (l0 : List Int) (w : World)
    (hp : ∀ (W : World) (x : Int), Drawn0 w W → Calls Try.prog g (#[.int .i64 x] ++ lb) W fun e w' => e = .returned (.bool (p x)) ∧ Drawn0 W w')
    (eg : ∀ args w, (callFunc g args).run Try.prog w = .ok (.enter g args) w)
    (hr0 : Kd.C (Kd.int .i64) w A0 l0.length l0) :
    Calls Try.prog 78 #[.slice A0 l0.length c0, .func (.func g) #[] lb] w fun e w' => e = .returned (.int .i64 (idxP p l0 0)) ∧ Drawn0 w w' := by
  have hm := Kd.C_max hr0
  have HR0 := Aside0.mk hr0
  clear hr0
  go_enter Try.func78, Try.ntmps78
  go_wp2
  go_loopg [5, 8] l0.length (fun kq _ v8 w' => ∃ kk : Nat, kk ≤ l0.length ∧ l0.length - kk ≤ kq ∧ v8 = .int .i64 kk ∧ Aside0 (idxP p l0 0 = idxP p (l0.drop kk) kk) ∧ Drawn0 w w')
  case atStart => exact ⟨0, Nat.zero_le _, by omega, rfl, ⟨rfl⟩, by repeat (first | exact Drawn0.refl _ | apply Drawn0.step)⟩
  case round =>
    obtain ⟨kk, hkk, hg, rfl, HA, ⟨m1, rfl⟩⟩ := hrel
    by_cases hlt : kk < l0.length
    · have hltz : (kk : Int) < (l0.length : Int) := by omega
      have hstep := idxP_step p l0 kk hlt
      have hcall := hp (w.drewN m1) (rd l0 kk) ⟨⟨m1, rfl⟩⟩
      have p101 : 0 ≤ (kk : Int) := by omega
      obtain ⟨ad101, e101, hx101_0⟩ := Kd.at_int HR0.out kk p101 hltz
      cases e101
      rw [Int.toNat_natCast] at hx101_0
      have hrd : rd l0 kk = l0.getD kk 0 := rfl
      cases hq : p (rd l0 kk) with
      | true =>
        rw [hq] at hcall
        rw [← hrd, hq, if_pos rfl] at hstep
        have HS := Aside0.mk (HA.out.trans hstep)
        clear hstep HA hrd hq
        go_wp2_with (go_at_fn g; refine hcall.mono ?_; rintro e w' ⟨rfl, ⟨nd, rfl⟩⟩)
        go_ret
        exact ⟨by first | (rw [HS.out]; done) | (rw [HS.out]; rfl), by repeat (first | exact Drawn0.refl _ | apply Drawn0.step)⟩
      | false =>
        rw [hq] at hcall
        rw [← hrd, hq, if_neg (by simp)] at hstep
        have HS := Aside0.mk (HA.out.trans hstep)
        clear hstep HA hrd hq
        go_wp2_with (go_at_fn g; refine hcall.mono ?_; rintro e w' ⟨rfl, ⟨nd, rfl⟩⟩)
        go_roundg (l0.length - (kk + 1))
        case measure => omega
        case rel => exact ⟨kk + 1, by omega, by omega, by go_num, HS, by repeat (first | exact Drawn0.refl _ | apply Drawn0.step)⟩
    · have hltz : ¬ (kk : Int) < (l0.length : Int) := by omega
      obtain rfl : kk = l0.length := by omega
      have HS := Aside0.mk (HA.out.trans (idxP_end p l0))
      clear HA
      go_wp2
      go_ret
      exact ⟨by first | (rw [HS.out]; done) | (rw [HS.out]; rfl), by repeat (first | exact Drawn0.refl _ | apply Drawn0.step)⟩

/-! ### slices_ContainsFunc_int_int: function 70 -/
-- BY HAND
set_option maxHeartbeats 4000000 in
set_option maxRecDepth 100000 in
theorem slices_ContainsFunc_int.calls (g : Nat) (lb : Array Value) (p : Int → Bool) (A0 : Option Addr) (c0 : Nat) (l0 : List Int) (w : World)
    (hp : ∀ (W : World) (x : Int), Drawn0 w W → Calls Try.prog g (#[.int .i64 x] ++ lb) W fun e w' => e = .returned (.bool (p x)) ∧ Drawn0 W w')
    (eg : ∀ args w, (callFunc g args).run Try.prog w = .ok (.enter g args) w)
    (hr0 : Kd.C (Kd.int .i64) w A0 l0.length l0) :
    Calls Try.prog 70 #[.slice A0 l0.length c0, .func (.func g) #[] lb] w fun e w' => e = .returned (.bool (l0.any p)) ∧ Drawn0 w w' := by
  have HP := Aside0.mk hp
  have EG := Aside0.mk eg
  have HR0 := Aside0.mk hr0
  clear hr0 hp eg
  rw [← idxP_any p l0 0]
  generalize hr : idxP p l0 0 = r
  have HRR := Aside0.mk hr
  clear hr
  go_enter Try.func70, Try.ntmps70
  go_wp2_with (go_at_call 78; refine (slices_IndexFunc_int.calls g lb p A0 c0 l0 _ HP.out EG.out HR0.out).mono ?_; rintro e w' ⟨rfl, ⟨nd, rfl⟩⟩; rw [HRR.out])
  go_ret
  exact ⟨by first | rfl | (simp; done), by repeat (first | exact Drawn0.refl _ | apply Drawn0.step)⟩

/-! ### impl_isDigits: function 50 -/
-- BY HAND
set_option maxHeartbeats 4000000 in
set_option maxRecDepth 100000 in
theorem impl_isDigits_1.calls (x : Int) (w : World) : Calls Try.prog 71 #[.int .i64 x] w fun e w' => e = .returned (.bool (!(decide (0 ≤ x) && decide (x ≤ 9)))) ∧ Drawn0 w w' := by
  have h2 := fun w => impl_in.calls x 0 9 (decide (0 ≤ x) && decide (x ≤ 9)) w (by unfold impl_in.f; by_cases c : 0 ≤ x <;> simp [c])
  generalize (decide (0 ≤ x) && decide (x ≤ 9)) = b at h2 ⊢
  go_enter Try.func71, Try.ntmps71
  go_wp2_with (first | (go_at_call 47; refine (h2 _).mono ?_; rintro e w' ⟨rfl, ⟨nd, rfl⟩⟩))
  go_ret
  exact ⟨rfl, by repeat (first | exact Drawn0.refl _ | apply Drawn0.step)⟩
theorem any_not_all' (p : Int → Bool) (l : List Int) : (!(l.any fun x => !(p x))) = l.all p := by
  induction l with
  | nil => rfl
  | cons x l ih => simp only [List.any_cons, List.all_cons, ← ih]; cases p x <;> simp
def impl_isDigits.f (l0 : List Int) : Option (Bool) := some (decide (1 ≤ (l0.length : Int)) && decide ((l0.length : Int) ≤ 10) && l0.all fun x => decide (0 ≤ x) && decide (x ≤ 9))
set_option maxHeartbeats 8000000 in
set_option maxRecDepth 100000 in
theorem impl_isDigits.calls (A0 : Option Addr) (c0 : Nat) (l0 : List Int) (r : Bool) (w : World) (hr0 : Kd.C (Kd.int .i64) w A0 l0.length l0) (hc0 : l0.length ≤ c0) (h : impl_isDigits.f l0 = some r) :
    Calls Try.prog 50 #[.slice A0 l0.length c0] w fun e w' => e = .returned (.bool r) ∧ Drawn0 w w' := by
  unfold impl_isDigits.f at h
  obtain rfl := Option.some.inj h
  clear h
  have HR0 := Aside0.mk hr0
  have EG := Aside0.mk (enters_of Try.func71 (by kernel_rfl) rfl)
  clear hr0
  rw [← any_not_all']
  have h2 := fun w => impl_in.calls (l0.length : Int) 1 10 (decide (1 ≤ (l0.length : Int)) && decide ((l0.length : Int) ≤ 10)) w (by unfold impl_in.f; by_cases c : 1 ≤ (l0.length : Int) <;> simp [c])
  have h3 := fun w' (hd : Drawn0 w w') => slices_ContainsFunc_int.calls 71 #[] (fun x => !(decide (0 ≤ x) && decide (x ≤ 9))) A0 c0 l0 w' (fun W x _ => impl_isDigits_1.calls x W) EG.out (by obtain ⟨n, rfl⟩ := hd.out; exact Kd.C_below HR0.out (Drawn0.below ⟨⟨n, rfl⟩⟩))
  generalize (decide (1 ≤ (l0.length : Int)) && decide ((l0.length : Int) ≤ 10)) = b at h2 ⊢
  generalize (l0.any fun x => !(decide (0 ≤ x) && decide (x ≤ 9))) = c at h3 ⊢
  cases b
  · go_enter Try.func50, Try.ntmps50
    go_wp2_with (go_at_call 47; refine (h2 _).mono ?_; rintro e w' ⟨rfl, ⟨nd, rfl⟩⟩)
    go_ret
    exact ⟨by first | rfl | (simp; done), by repeat (first | exact Drawn0.refl _ | apply Drawn0.step)⟩
  · go_enter Try.func50, Try.ntmps50
    go_wp2_with (first | (go_at_call 47; refine (h2 _).mono ?_; rintro e w' ⟨rfl, ⟨nd, rfl⟩⟩) | (go_at_call 70; refine (h3 _ ⟨⟨_, rfl⟩⟩).mono ?_; rintro e w' ⟨rfl, ⟨nd, rfl⟩⟩))
    go_ret
    exact ⟨by first | rfl | (simp; done), by repeat (first | exact Drawn0.refl _ | apply Drawn0.step)⟩

end Go.Proofs.Ytcdobojoijmaaaa.P
