-- Written by a program of this session (wip/mp.py), which runs the kit's print with contracts of the session's own.
import Derived.Test.YtoobofnpdiapgaaPx0
import Derived.Test.YtoobofnpdiapgaaPx1
namespace Go.Proofs.Ytoobofnpdiapgaa.P
open Go.RowKit Go.Proofs.YtoobofnpdiapgaaW.PrintWords Go.Proofs.YtoobofnpdiapgaaW.PrintLast Go.Proofs.YtoobofnpdiapgaaW.PrintMore
attribute [local go_sem] max2_int min2_int max_two min_two max_three min_three max_four min_four   -- for this text's walks alone
set_option linter.unusedVariables false
set_option linter.unusedSimpArgs false
/-! ### slices_IndexFunc_int_int: function 129 -/
-- BY HAND
/-- The first place, from i on, at which p holds; -1 where there is none. -/
def idxP (p : Int → Bool) : List Int → Nat → Int
  | [], _ => -1
  | x :: l, i => if p x = true then (i : Int) else idxP p l (i + 1)
theorem idxP_step (p : Int → Bool) (l : List Int) (k : Nat) (h : k < l.length) : idxP p (l.drop k) k = if p (l.getD k 0) = true then (k : Int) else idxP p (l.drop (k + 1)) (k + 1) := by
  rw [List.drop_eq_getElem_cons h]
  simp [idxP, List.getD_eq_getElem?_getD, h]
theorem idxP_end (p : Int → Bool) (l : List Int) : idxP p (l.drop l.length) l.length = -1 := by simp [idxP]
theorem idxP_pos (p : Int → Bool) (l : List Int) (i : Nat) : 0 ≤ idxP p l i ↔ l.any p = true := by
  induction l generalizing i with
  | nil => simp [idxP]
  | cons x l ih =>
    have h2 := ih (i + 1)
    rw [List.any_cons, idxP]
    split
    · rename_i hx; rw [hx]; simp
    · rename_i hx; rw [h2, Bool.eq_false_iff.mpr hx, Bool.false_or]
theorem idxP_any (p : Int → Bool) (l : List Int) (i : Nat) : decide (0 ≤ idxP p l i) = l.any p := by
  rw [Bool.eq_iff_iff, decide_eq_true_iff]
  exact idxP_pos p l i
set_option maxHeartbeats 4000000 in
set_option maxRecDepth 100000 in
theorem slices_IndexFunc_int.calls (g : Nat) (lb : Array Value) (p : Int → Bool) (A0 : Option Addr) (c0 : Nat) (l0 : List Int) (w : World)
    (hp : ∀ (W : World) (x : Int), Drawn0 w W → Calls Try.prog g (#[.int .i64 x] ++ lb) W fun e w' => e = .returned (.bool (p x)) ∧ Drawn0 W w')
    (eg : ∀ args w, (callFunc g args).run Try.prog w = .ok (.enter g args) w)
    (hr0 : Kd.C (Kd.int .i64) w A0 l0.length l0) :
    Calls Try.prog 129 #[.slice A0 l0.length c0, .func (.func g) #[] lb] w fun e w' => e = .returned (.int .i64 (idxP p l0 0)) ∧ Drawn0 w w' := by
  have hm := Kd.C_max hr0
  have HR0 := Aside0.mk hr0
  clear hr0
  go_enter Try.func129, Try.ntmps129
  go_wp2
  go_loopg [5, 8] l0.length (fun kq _ v8 w' => ∃ kk : Nat, kk ≤ l0.length ∧ l0.length - kk ≤ kq ∧ v8 = .int .i64 kk ∧ Aside0 (idxP p l0 0 = idxP p (l0.drop kk) kk) ∧ Drawn0 w w')
  case atStart => exact ⟨0, Nat.zero_le _, by omega, rfl, ⟨rfl⟩, by repeat (first | exact Drawn0.refl _ | apply Drawn0.step)⟩
  case round =>
    obtain ⟨kk, hkk, hg, rfl, HA, ⟨m1, rfl⟩⟩ := hrel
    by_cases hlt : kk < l0.length
    · have hltz : (kk : Int) < (l0.length : Int) := by omega
      have hstep := idxP_step p l0 kk hlt
      have hcall := hp (w.drewN m1) (rd l0 kk) ⟨⟨m1, rfl⟩⟩
      have p101 : 0 ≤ (kk : Int) := by omega
      obtain ⟨ad101, e101, hx101_0⟩ := Kd.at_int HR0.out kk p101 hltz
      cases e101
      rw [Int.toNat_natCast] at hx101_0
      have hrd : rd l0 kk = l0.getD kk 0 := rfl
      cases hq : p (rd l0 kk) with
      | true =>
        rw [hq] at hcall
        rw [← hrd, hq, if_pos rfl] at hstep
        have HS := Aside0.mk (HA.out.trans hstep)
        clear hstep HA hrd hq
        go_wp2_with (go_at_fn g; refine hcall.mono ?_; rintro e w' ⟨rfl, ⟨nd, rfl⟩⟩)
        go_ret
        exact ⟨by first | (rw [HS.out]; done) | (rw [HS.out]; rfl), by repeat (first | exact Drawn0.refl _ | apply Drawn0.step)⟩
      | false =>
        rw [hq] at hcall
        rw [← hrd, hq, if_neg (by simp)] at hstep
        have HS := Aside0.mk (HA.out.trans hstep)
        clear hstep HA hrd hq
        go_wp2_with (go_at_fn g; refine hcall.mono ?_; rintro e w' ⟨rfl, ⟨nd, rfl⟩⟩)
        go_roundg (l0.length - (kk + 1))
        case measure => omega
        case rel => exact ⟨kk + 1, by omega, by omega, by go_num, HS, by repeat (first | exact Drawn0.refl _ | apply Drawn0.step)⟩
    · have hltz : ¬ (kk : Int) < (l0.length : Int) := by omega
      obtain rfl : kk = l0.length := by omega
      have HS := Aside0.mk (HA.out.trans (idxP_end p l0))
      clear HA
      go_wp2
      go_ret
      exact ⟨by first | (rw [HS.out]; done) | (rw [HS.out]; rfl), by repeat (first | exact Drawn0.refl _ | apply Drawn0.step)⟩
/-! ### slices_ContainsFunc_int_int: function 112 -/
-- BY HAND
set_option maxHeartbeats 4000000 in
set_option maxRecDepth 100000 in
theorem slices_ContainsFunc_int.calls (g : Nat) (lb : Array Value) (p : Int → Bool) (A0 : Option Addr) (c0 : Nat) (l0 : List Int) (w : World)
    (hp : ∀ (W : World) (x : Int), Drawn0 w W → Calls Try.prog g (#[.int .i64 x] ++ lb) W fun e w' => e = .returned (.bool (p x)) ∧ Drawn0 W w')
    (eg : ∀ args w, (callFunc g args).run Try.prog w = .ok (.enter g args) w)
    (hr0 : Kd.C (Kd.int .i64) w A0 l0.length l0) :
    Calls Try.prog 112 #[.slice A0 l0.length c0, .func (.func g) #[] lb] w fun e w' => e = .returned (.bool (l0.any p)) ∧ Drawn0 w w' := by
  have HP := Aside0.mk hp
  have EG := Aside0.mk eg
  have HR0 := Aside0.mk hr0
  clear hr0 hp eg
  rw [← idxP_any p l0 0]
  generalize hr : idxP p l0 0 = r
  have HRR := Aside0.mk hr
  clear hr
  go_enter Try.func112, Try.ntmps112
  go_wp2_with (go_at_call 129; refine (slices_IndexFunc_int.calls g lb p A0 c0 l0 _ HP.out EG.out HR0.out).mono ?_; rintro e w' ⟨rfl, ⟨nd, rfl⟩⟩; rw [HRR.out])
  go_ret
  exact ⟨by first | rfl | (simp; done), by repeat (first | exact Drawn0.refl _ | apply Drawn0.step)⟩
/-! ### impl_isSet: function 86 -/
-- BY HAND
theorem any_not_alls (p : Int → Bool) (l : List Int) : (!(l.any fun x => !(p x))) = l.all p := by
  induction l with
  | nil => rfl
  | cons x l ih => simp only [List.any_cons, List.all_cons, ← ih]; cases p x <;> simp
set_option maxHeartbeats 4000000 in
set_option maxRecDepth 100000 in
theorem impl_isSet_1.calls (B : Nat) (A : Option Addr) (n c : Nat) (x m : Int) (w : World) (hc : w.cell? ⟨B, 0, none⟩ = some (.slice A n c)) (hm : impl_whole.f (n : Int) = some m) :
    Calls Try.prog 113 #[.int .i64 x, .pointer (some ⟨B, 0, none⟩)] w fun e w' => e = .returned (.bool (!(decide (0 ≤ x) && decide (x ≤ m)))) ∧ Drawn0 w w' := by
  have h1 := fun w => impl_whole.calls (n : Int) m w hm
  have h2 := fun w => impl_in.calls x 0 m (decide (0 ≤ x) && decide (x ≤ m)) w (by unfold impl_in.f; by_cases c : 0 ≤ x <;> simp [c])
  clear hm
  generalize (decide (0 ≤ x) && decide (x ≤ m)) = b at h2 ⊢
  go_enter Try.func113, Try.ntmps113
  go_wp2_with (first | (go_at_call 90; refine (h1 _).mono ?_; rintro e w' ⟨rfl, ⟨nd, rfl⟩⟩) | (go_at_call 96; refine (h2 _).mono ?_; rintro e w' ⟨rfl, ⟨nd, rfl⟩⟩))
  go_ret
  exact ⟨rfl, by repeat (first | exact Drawn0.refl _ | apply Drawn0.step)⟩
def impl_isSet.f (k : Nat) (l0_0 : List Int) (a0_1 : Bool) (l1 : List Int) : Option (Bool) := (impl_isGraph.f k l0_0 a0_1).bind fun t => if t = true then ((impl_whole.f (l0_0.length : Int)).bind fun m => some (l1.all fun x => decide (0 ≤ x) && decide (x ≤ m))) else some false
set_option maxHeartbeats 8000000 in
set_option maxRecDepth 100000 in
theorem impl_isSet.calls (k : Nat) (A0_0 : Option Addr) (c0_0 : Nat) (l0_0 : List Int) (a0_1 : Bool) (A1 : Option Addr) (c1 : Nat) (l1 : List Int) (r : Bool) (w : World) (hr0_0 : Kd.C (Kd.int .i64) w A0_0 l0_0.length l0_0) (hc0_0 : l0_0.length ≤ c0_0) (hr1 : Kd.C (Kd.int .i64) w A1 l1.length l1) (hc1 : l1.length ≤ c1) (h : impl_isSet.f k l0_0 a0_1 l1 = some r) :
    Calls Try.prog 86 #[.agg #[.slice A0_0 l0_0.length c0_0, .bool a0_1], .slice A1 l1.length c1] w fun e w' => e = .returned (.bool r) ∧ Below w.heap.size w w' := by
  have HR0 := Aside0.mk hr0_0
  have HR1 := Aside0.mk hr1
  have EG := Aside0.mk (enters_of Try.func113 (by kernel_rfl) rfl)
  clear hr0_0 hr1
  unfold impl_isSet.f at h
  replace h := Option.bind_eq_some_iff.mp h
  obtain ⟨t, hg, h⟩ := h
  have HG := Aside0.mk hg
  clear hg
  cases t with
  | false =>
    rw [if_neg (by simp)] at h
    obtain rfl := Option.some.inj h
    clear h
    go_enter Try.func86, Try.ntmps86
    go_wp2_with (go_at_call 74; refine (impl_isGraph.calls k _ _ l0_0 a0_1 false _ ?s1 hc0_0 HG.out).mono ?_; (case s1 => exact Kd.C_below HR0.out ((Below.refl _ _).alloc (Nat.le_refl _) _)); rintro e w1 ⟨rfl, hb⟩; have HB := Aside0.mk hb; clear hb)
    go_ret
    exact ⟨by first | rfl | (simp; done), ((Below.refl _ _).alloc (Nat.le_refl _) _).trans (HB.out.mono (by simp))⟩
  | true =>
    rw [if_pos rfl] at h
    replace h := Option.bind_eq_some_iff.mp h
    obtain ⟨m, hm, h⟩ := h
    obtain rfl := Option.some.inj h
    clear h
    have HM := Aside0.mk hm
    clear hm
    rw [← any_not_alls]
    go_enter Try.func86, Try.ntmps86
    go_wp2_with (first
      | (go_at_call 74; refine (impl_isGraph.calls k _ _ l0_0 a0_1 true _ ?s1 hc0_0 HG.out).mono ?_; (case s1 => exact Kd.C_below HR0.out ((Below.refl _ _).alloc (Nat.le_refl _) _)); rintro e w1 ⟨rfl, hb⟩; have HB := Aside0.mk hb; have HX := Aside0.mk ((hb.cell (p := ⟨w.heap.size, 0, none⟩) (by simp)).trans (by simp : _ = some (Value.slice A0_0 l0_0.length c0_0))); clear hb)
      | (go_at_call 112; refine (slices_ContainsFunc_int.calls 113 #[.pointer (some ⟨w.heap.size, 0, none⟩)] (fun x => !(decide (0 ≤ x) && decide (x ≤ m))) A1 c1 l1 _ (fun W x hd => ?s2) EG.out ?s3).mono ?_; (case s2 => (obtain ⟨nd, rfl⟩ := hd.out; exact impl_isSet_1.calls w.heap.size A0_0 l0_0.length c0_0 x m _ (by first | exact HX.out | (simp; exact HX.out)) HM.out)); (case s3 => exact Kd.C_below HR1.out (((Below.refl _ _).alloc (Nat.le_refl _) _).trans (HB.out.mono (by simp)))); rintro e w' ⟨rfl, ⟨nd, rfl⟩⟩))
    go_ret
    exact ⟨by first | rfl | (simp; done), by repeat (first | exact ((Below.refl _ _).alloc (Nat.le_refl _) _).trans (HB.out.mono (by simp)) | apply pw_below_drewN)⟩
end Go.Proofs.Ytoobofnpdiapgaa.P
