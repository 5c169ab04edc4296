-- Written by a program of this session (wip/mp.py), which runs the kit's print with contracts of the session's own.
import Derived.Test.YtigkmdlbijdoaaaPx0
import Derived.Test.YtigkmdlbijdoaaaPx3
import Derived.Test.YtigkmdlbijdoaaaPx4
import Derived.Test.YtigkmdlbijdoaaaPx6
namespace Go.Proofs.Ytigkmdlbijdoaaa.P
open Go.RowKit Go.Proofs.YtigkmdlbijdoaaaW.PrintWords Go.Proofs.YtigkmdlbijdoaaaW.PrintLast Go.Proofs.YtigkmdlbijdoaaaW.PrintMore
attribute [local go_sem] max2_int min2_int max_two min_two max_three min_three max_four min_four   -- for this text's walks alone
set_option linter.unusedVariables false
set_option linter.unusedSimpArgs false

/-! ### impl_isPoly: function 52 -/
-- BY HAND
set_option maxHeartbeats 4000000 in
set_option maxRecDepth 100000 in
theorem impl_isPoly_1.calls (x : Int) (w : World) : Calls Try.prog 77 #[.int .i64 x] w fun e w' => e = .returned (.bool (!(decide (0 ≤ x) && decide (x ≤ 2199023255551)))) ∧ Drawn0 w w' := by
  have h1 := impl_whole.calls 41 2199023255551
  have h2 := fun w => impl_in.calls x 0 2199023255551 (decide (0 ≤ x) && decide (x ≤ 2199023255551)) w (by unfold impl_in.f; by_cases c : 0 ≤ x <;> simp [c])
  have h1' := fun w => h1 w (by decide +kernel)
  clear h1
  generalize (decide (0 ≤ x) && decide (x ≤ 2199023255551)) = b at h2 ⊢
  go_enter Try.func77, Try.ntmps77
  go_wp2_with (first | (go_at_call 75; refine (h1' _).mono ?_; rintro e w' ⟨rfl, ⟨nd, rfl⟩⟩) | (go_at_call 53; refine (h2 _).mono ?_; rintro e w' ⟨rfl, ⟨nd, rfl⟩⟩))
  go_ret
  exact ⟨rfl, by repeat (first | exact Drawn0.refl _ | apply Drawn0.step)⟩
theorem any_not_all (p : Int → Bool) (l : List Int) : (!(l.any fun x => !(p x))) = l.all p := by
  induction l with
  | nil => rfl
  | cons x l ih => simp only [List.any_cons, List.all_cons, ← ih]; cases p x <;> simp
def impl_isPoly.f (l0 : List Int) : Option (Bool) := some (l0.all fun x => decide (0 ≤ x) && decide (x ≤ 2199023255551))
set_option maxHeartbeats 8000000 in
set_option maxRecDepth 100000 in
theorem impl_isPoly.calls (A0 : Option Addr) (c0 : Nat) (l0 : List Int) (r : Bool) (w : World) (hr0 : Kd.C (Kd.int .i64) w A0 l0.length l0) (hc0 : l0.length ≤ c0) (h : impl_isPoly.f l0 = some r) :
    Calls Try.prog 52 #[.slice A0 l0.length c0] w fun e w' => e = .returned (.bool r) ∧ Drawn0 w w' := by
  unfold impl_isPoly.f at h
  obtain rfl := Option.some.inj h
  clear h
  have HR0 := Aside0.mk hr0
  have EG := Aside0.mk (enters_of Try.func77 (by kernel_rfl) rfl)
  clear hr0
  rw [← any_not_all]
  go_enter Try.func52, Try.ntmps52
  go_wp2_with (go_at_call 73; refine (slices_ContainsFunc_int.calls 77 #[] (fun x => !(decide (0 ≤ x) && decide (x ≤ 2199023255551))) A0 c0 l0 _ (fun W x _ => impl_isPoly_1.calls x W) EG.out HR0.out).mono ?_; rintro e w' ⟨rfl, ⟨nd, rfl⟩⟩)
  go_ret
  exact ⟨by first | rfl | (simp; done), by repeat (first | exact Drawn0.refl _ | apply Drawn0.step)⟩

/-! ### bits_Len64: function 85 -/
-- BY HAND
@[local go_sem high] theorem fold_len8tab' : (⟨((List.append ([0, 1, 2, 2, 3, 3, 3, 3, 4, 4, 4, 4, 4, 4, 4, 4, 5, 5, 5, 5, 5, 5, 5, 5, 5, 5, 5, 5, 5, 5, 5, 5, 6, 6, 6, 6, 6, 6, 6, 6, 6, 6, 6, 6, 6, 6, 6, 6, 6, 6, 6, 6, 6, 6, 6, 6, 6, 6, 6, 6, 6, 6, 6, 6] : List UInt8) [7, 7, 7, 7, 7, 7, 7, 7, 7, 7, 7, 7, 7, 7, 7, 7, 7, 7, 7, 7, 7, 7, 7, 7, 7, 7, 7, 7, 7, 7, 7, 7, 7, 7, 7, 7, 7, 7, 7, 7, 7, 7, 7, 7, 7, 7, 7, 7, 7, 7, 7, 7, 7, 7, 7, 7, 7, 7, 7, 7, 7, 7, 7, 7]).append (List.append ([8, 8, 8, 8, 8, 8, 8, 8, 8, 8, 8, 8, 8, 8, 8, 8, 8, 8, 8, 8, 8, 8, 8, 8, 8, 8, 8, 8, 8, 8, 8, 8, 8, 8, 8, 8, 8, 8, 8, 8, 8, 8, 8, 8, 8, 8, 8, 8, 8, 8, 8, 8, 8, 8, 8, 8, 8, 8, 8, 8, 8, 8, 8, 8] : List UInt8) [8, 8, 8, 8, 8, 8, 8, 8, 8, 8, 8, 8, 8, 8, 8, 8, 8, 8, 8, 8, 8, 8, 8, 8, 8, 8, 8, 8, 8, 8, 8, 8, 8, 8, 8, 8, 8, 8, 8, 8, 8, 8, 8, 8, 8, 8, 8, 8, 8, 8, 8, 8, 8, 8, 8, 8, 8, 8, 8, 8, 8, 8, 8, 8])).toArray⟩ : ByteArray) = Go.Lib.len8tab := by decide +kernel
theorem len_get (n : Nat) (h : n < Go.Lib.len8tab.size) : ((Go.Lib.len8tab[n]'h).toNat : Int) = (Go.Lib.bitLen n : Int) := by
  have h2 : n < 256 := by rw [Go.Lib.len8tab_size] at h; exact h
  have e := Go.Lib.len8_eq ⟨n, h2⟩
  have e2 : Go.Lib.len8 (n : Int) = (Go.Lib.bitLen n : Int) := e
  rw [← e2]
  simp only [Go.Lib.len8, Int.toNat_natCast, ByteArray.getElem?_lt' _ _ h, Option.getD_some]
theorem bitLen_small (a : Nat) (h : a < 256) : Go.Lib.bitLen a ≤ 8 := Go.Lib.bitLen_le8 ⟨a, h⟩
theorem bitLen_up (c a : Nat) (h : 2 ^ c ≤ a) (ha : a < 18446744073709551616) : Go.Lib.bitLen a = c + Go.Lib.bitLen (a / 2 ^ c) := Go.Lib.bitLen_shift c a h ha
theorem wrap_sum (x b c : Nat) (e : x = c + b) (hc : c ≤ 64) (hb : b ≤ 8) : wrap64 ((c : Int) + wrap64 (b : Int)) = (x : Int) := by
  subst e
  unfold wrap64
  omega
theorem len_close (a c m : Nat) (hm : m = 2 ^ c) (ha : a < 18446744073709551616) (hc : c ≤ 64) (h1 : m ≤ a) (i : Int) (hi : i.toNat = a / m) (h : i.toNat < Go.Lib.len8tab.size) :
    wrap64 ((c : Int) + wrap64 ((Go.Lib.len8tab[i.toNat]'h).toNat : Int)) = (Go.Lib.bitLen a : Int) := by
  rw [len_get]
  have h2 : i.toNat < 256 := by rw [Go.Lib.len8tab_size] at h; exact h
  have l := bitLen_small i.toNat h2
  have e := bitLen_up c a (hm ▸ h1) ha
  rw [← hm, ← hi] at e
  exact wrap_sum _ _ c e hc l
theorem len_close0 (a : Nat) (i : Int) (hi : i.toNat = a) (h : i.toNat < Go.Lib.len8tab.size) : wrap64 (wrap64 ((Go.Lib.len8tab[i.toNat]'h).toNat : Int)) = (Go.Lib.bitLen a : Int) := by
  rw [len_get]
  have h2 : i.toNat < 256 := by rw [Go.Lib.len8tab_size] at h; exact h
  have l := bitLen_small i.toNat h2
  rw [← hi]
  generalize Go.Lib.bitLen i.toNat = b at l ⊢
  unfold wrap64
  omega
def bits_Len64.f (a0 : Int) : Option (Int) := if 0 ≤ a0 ∧ a0 ≤ 18446744073709551615 then some (Go.Lib.bitLen a0.toNat : Int) else none
set_option maxHeartbeats 8000000 in
set_option maxRecDepth 100000 in
theorem bits_Len64.calls (a0 : Int) (r : Int) (w : World) (h : bits_Len64.f a0 = some r) :
    Calls Try.prog 85 #[.int .u64 a0] w fun e w' => e = .returned (.int .i64 r) ∧ Drawn0 w w' := by
  unfold bits_Len64.f at h
  by_cases hb : 0 ≤ a0 ∧ a0 ≤ 18446744073709551615
  · rw [if_pos hb] at h
    obtain rfl := Option.some.inj h
    obtain ⟨h0, h1⟩ := hb
    clear h
    go_enter Try.func85, Try.ntmps85
    go_wp2
    all_goals first
      | (rename_i hno; exact absurd (by rw [Go.Lib.len8tab_size]; omega) hno)
      | (go_ret; refine ⟨congrArg Ending.returned (congrArg (Value.int IntKind.i64) ?_), Drawn0.refl _⟩)
    · exact len_close a0.toNat 56 72057594037927936 (by decide) (by omega) (by omega) (by omega) _ (by omega) _
    · exact len_close a0.toNat 48 281474976710656 (by decide) (by omega) (by omega) (by omega) _ (by omega) _
    · exact len_close a0.toNat 40 1099511627776 (by decide) (by omega) (by omega) (by omega) _ (by omega) _
    · exact len_close a0.toNat 32 4294967296 (by decide) (by omega) (by omega) (by omega) _ (by omega) _
    · exact len_close a0.toNat 24 16777216 (by decide) (by omega) (by omega) (by omega) _ (by omega) _
    · exact len_close a0.toNat 16 65536 (by decide) (by omega) (by omega) (by omega) _ (by omega) _
    · exact len_close a0.toNat 8 256 (by decide) (by omega) (by omega) (by omega) _ (by omega) _
    · exact len_close0 a0.toNat _ rfl _
  · rw [if_neg hb] at h
    cases h

end Go.Proofs.Ytigkmdlbijdoaaa.P
