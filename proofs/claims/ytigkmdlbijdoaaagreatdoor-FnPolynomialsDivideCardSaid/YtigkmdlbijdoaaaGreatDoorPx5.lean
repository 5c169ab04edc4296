-- Written by a program of this session (wip/mp.py), which runs the kit's print with contracts of the session's own.
import Derived.Test.YtigkmdlbijdoaaaGreatDoorPx0
namespace Go.Proofs.YtigkmdlbijdoaaaGreatDoor.P
open Go.RowKit Go.Proofs.YtigkmdlbijdoaaaGreatDoorW.PrintWords Go.Proofs.YtigkmdlbijdoaaaGreatDoorW.PrintLast Go.Proofs.YtigkmdlbijdoaaaGreatDoorW.PrintMore
attribute [local go_sem] max2_int min2_int max_two min_two max_three min_three max_four min_four   -- for this text's walks alone
set_option linter.unusedVariables false
set_option linter.unusedSimpArgs false

/-! ### slices_IndexFunc_int_int: function 71 -/
-- BY HAND
/-- The first place, from i on, at which p holds; -1 where there is none. -/
def idxP (p : Int → Bool) : List Int → Nat → Int
  | [], _ => -1
  | x :: l, i => if p x = true then (i : Int) else idxP p l (i + 1)
theorem idxP_step (p : Int → Bool) (l : List Int) (k : Nat) (h : k < l.length) : idxP p (l.drop k) k = if p (l.getD k 0) = true then (k : Int) else idxP p (l.drop (k + 1)) (k + 1) := by
  rw [List.drop_eq_getElem_cons h]
  simp [idxP, List.getD_eq_getElem?_getD, h]
theorem idxP_end (p : Int → Bool) (l : List Int) : idxP p (l.drop l.length) l.length = -1 := by simp [idxP]
theorem idxP_pos (p : Int → Bool) (l : List Int) (i : Nat) : 0 ≤ idxP p l i ↔ l.any p = true := by
  induction l generalizing i with
  | nil => simp [idxP]
  | cons x l ih =>
    have h2 := ih (i + 1)
    rw [List.any_cons, idxP]
    split
    · rename_i hx; rw [hx]; simp
    · rename_i hx; rw [h2, Bool.eq_false_iff.mpr hx, Bool.false_or]
theorem idxP_any (p : Int → Bool) (l : List Int) (i : Nat) : decide (0 ≤ idxP p l i) = l.any p := by
  rw [Bool.eq_iff_iff, decide_eq_true_iff]
  exact idxP_pos p l i
set_option maxHeartbeats 4000000 in
set_option maxRecDepth 100000 in
theorem slices_IndexFunc_int.calls (g : Nat) (lb : Array Value) (p : Int → Bool) (A0 : Option Addr) (c0 : Nat) (l0 : List Int) (w : World)
    (hp : ∀ (W : World) (x : Int), Drawn0 w W → Calls Tryz.prog g (#[.int .i64 x] ++ lb) W fun e w' => e = .returned (.bool (p x)) ∧ Drawn0 W w')
    (eg : ∀ args w, (callFunc g args).run Tryz.prog w = .ok (.enter g args) w)
    (hr0 : Kd.C (Kd.int .i64) w A0 l0.length l0) :
    Calls Tryz.prog 71 #[.slice A0 l0.length c0, .func (.func g) #[] lb] w fun e w' => e = .returned (.int .i64 (idxP p l0 0)) ∧ Drawn0 w w' := by
  have hm := Kd.C_max hr0
  have HR0 := Aside0.mk hr0
  clear hr0
  go_enter Tryz.func71, Tryz.ntmps71
  go_wp2
  go_loopg [5, 8] l0.length (fun kq _ v8 w' => ∃ kk : Nat, kk ≤ l0.length ∧ l0.length - kk ≤ kq ∧ v8 = .int .i64 kk ∧ Aside0 (idxP p l0 0 = idxP p (l0.drop kk) kk) ∧ Drawn0 w w')
  case atStart => exact ⟨0, Nat.zero_le _, by omega, rfl, ⟨rfl⟩, by repeat (first | exact Drawn0.refl _ | apply Drawn0.step)⟩
  case round =>
    obtain ⟨kk, hkk, hg, rfl, HA, ⟨m1, rfl⟩⟩ := hrel
    by_cases hlt : kk < l0.length
    · have hltz : (kk : Int) < (l0.length : Int) := by omega
      have hstep := idxP_step p l0 kk hlt
      have hcall := hp (w.drewN m1) (rd l0 kk) ⟨⟨m1, rfl⟩⟩
      have p101 : 0 ≤ (kk : Int) := by omega
      obtain ⟨ad101, e101, hx101_0⟩ := Kd.at_int HR0.out kk p101 hltz
      cases e101
      rw [Int.toNat_natCast] at hx101_0
      have hrd : rd l0 kk = l0.getD kk 0 := rfl
      cases hq : p (rd l0 kk) with
      | true =>
        rw [hq] at hcall
        rw [← hrd, hq, if_pos rfl] at hstep
        have HS := Aside0.mk (HA.out.trans hstep)
        clear hstep HA hrd hq
        go_wp2_with (go_at_fn g; refine hcall.mono ?_; rintro e w' ⟨rfl, ⟨nd, rfl⟩⟩)
        go_ret
        exact ⟨by first | (rw [HS.out]; done) | (rw [HS.out]; rfl), by repeat (first | exact Drawn0.refl _ | apply Drawn0.step)⟩
      | false =>
        rw [hq] at hcall
        rw [← hrd, hq, if_neg (by simp)] at hstep
        have HS := Aside0.mk (HA.out.trans hstep)
        clear hstep HA hrd hq
        go_wp2_with (go_at_fn g; refine hcall.mono ?_; rintro e w' ⟨rfl, ⟨nd, rfl⟩⟩)
        go_roundg (l0.length - (kk + 1))
        case measure => omega
        case rel => exact ⟨kk + 1, by omega, by omega, by go_num, HS, by repeat (first | exact Drawn0.refl _ | apply Drawn0.step)⟩
    · have hltz : ¬ (kk : Int) < (l0.length : Int) := by omega
      obtain rfl : kk = l0.length := by omega
      have HS := Aside0.mk (HA.out.trans (idxP_end p l0))
      clear HA
      go_wp2
      go_ret
      exact ⟨by first | (rw [HS.out]; done) | (rw [HS.out]; rfl), by repeat (first | exact Drawn0.refl _ | apply Drawn0.step)⟩

/-! ### slices_ContainsFunc_int_int: function 57 -/
-- BY HAND
set_option maxHeartbeats 4000000 in
set_option maxRecDepth 100000 in
theorem slices_ContainsFunc_int.calls (g : Nat) (lb : Array Value) (p : Int → Bool) (A0 : Option Addr) (c0 : Nat) (l0 : List Int) (w : World)
    (hp : ∀ (W : World) (x : Int), Drawn0 w W → Calls Tryz.prog g (#[.int .i64 x] ++ lb) W fun e w' => e = .returned (.bool (p x)) ∧ Drawn0 W w')
    (eg : ∀ args w, (callFunc g args).run Tryz.prog w = .ok (.enter g args) w)
    (hr0 : Kd.C (Kd.int .i64) w A0 l0.length l0) :
    Calls Tryz.prog 57 #[.slice A0 l0.length c0, .func (.func g) #[] lb] w fun e w' => e = .returned (.bool (l0.any p)) ∧ Drawn0 w w' := by
  have HP := Aside0.mk hp
  have EG := Aside0.mk eg
  have HR0 := Aside0.mk hr0
  clear hr0 hp eg
  rw [← idxP_any p l0 0]
  generalize hr : idxP p l0 0 = r
  have HRR := Aside0.mk hr
  clear hr
  go_enter Tryz.func57, Tryz.ntmps57
  go_wp2_with (go_at_call 71; refine (slices_IndexFunc_int.calls g lb p A0 c0 l0 _ HP.out EG.out HR0.out).mono ?_; rintro e w' ⟨rfl, ⟨nd, rfl⟩⟩; rw [HRR.out])
  go_ret
  exact ⟨by first | rfl | (simp; done), by repeat (first | exact Drawn0.refl _ | apply Drawn0.step)⟩

/-! ### bits_Len64: function 82 -/
-- BY HAND
@[local go_sem high] theorem fold_len8tab' : (⟨((List.append ([0, 1, 2, 2, 3, 3, 3, 3, 4, 4, 4, 4, 4, 4, 4, 4, 5, 5, 5, 5, 5, 5, 5, 5, 5, 5, 5, 5, 5, 5, 5, 5, 6, 6, 6, 6, 6, 6, 6, 6, 6, 6, 6, 6, 6, 6, 6, 6, 6, 6, 6, 6, 6, 6, 6, 6, 6, 6, 6, 6, 6, 6, 6, 6] : List UInt8) [7, 7, 7, 7, 7, 7, 7, 7, 7, 7, 7, 7, 7, 7, 7, 7, 7, 7, 7, 7, 7, 7, 7, 7, 7, 7, 7, 7, 7, 7, 7, 7, 7, 7, 7, 7, 7, 7, 7, 7, 7, 7, 7, 7, 7, 7, 7, 7, 7, 7, 7, 7, 7, 7, 7, 7, 7, 7, 7, 7, 7, 7, 7, 7]).append (List.append ([8, 8, 8, 8, 8, 8, 8, 8, 8, 8, 8, 8, 8, 8, 8, 8, 8, 8, 8, 8, 8, 8, 8, 8, 8, 8, 8, 8, 8, 8, 8, 8, 8, 8, 8, 8, 8, 8, 8, 8, 8, 8, 8, 8, 8, 8, 8, 8, 8, 8, 8, 8, 8, 8, 8, 8, 8, 8, 8, 8, 8, 8, 8, 8] : List UInt8) [8, 8, 8, 8, 8, 8, 8, 8, 8, 8, 8, 8, 8, 8, 8, 8, 8, 8, 8, 8, 8, 8, 8, 8, 8, 8, 8, 8, 8, 8, 8, 8, 8, 8, 8, 8, 8, 8, 8, 8, 8, 8, 8, 8, 8, 8, 8, 8, 8, 8, 8, 8, 8, 8, 8, 8, 8, 8, 8, 8, 8, 8, 8, 8])).toArray⟩ : ByteArray) = Go.Lib.len8tab := by decide +kernel
theorem len_get (n : Nat) (h : n < Go.Lib.len8tab.size) : ((Go.Lib.len8tab[n]'h).toNat : Int) = (Go.Lib.bitLen n : Int) := by
  have h2 : n < 256 := by rw [Go.Lib.len8tab_size] at h; exact h
  have e := Go.Lib.len8_eq ⟨n, h2⟩
  have e2 : Go.Lib.len8 (n : Int) = (Go.Lib.bitLen n : Int) := e
  rw [← e2]
  simp only [Go.Lib.len8, Int.toNat_natCast, ByteArray.getElem?_lt' _ _ h, Option.getD_some]
theorem bitLen_small (a : Nat) (h : a < 256) : Go.Lib.bitLen a ≤ 8 := Go.Lib.bitLen_le8 ⟨a, h⟩
theorem bitLen_up (c a : Nat) (h : 2 ^ c ≤ a) (ha : a < 18446744073709551616) : Go.Lib.bitLen a = c + Go.Lib.bitLen (a / 2 ^ c) := Go.Lib.bitLen_shift c a h ha
theorem wrap_sum (x b c : Nat) (e : x = c + b) (hc : c ≤ 64) (hb : b ≤ 8) : wrap64 ((c : Int) + wrap64 (b : Int)) = (x : Int) := by
  subst e
  unfold wrap64
  omega
theorem len_close (a c m : Nat) (hm : m = 2 ^ c) (ha : a < 18446744073709551616) (hc : c ≤ 64) (h1 : m ≤ a) (i : Int) (hi : i.toNat = a / m) (h : i.toNat < Go.Lib.len8tab.size) :
    wrap64 ((c : Int) + wrap64 ((Go.Lib.len8tab[i.toNat]'h).toNat : Int)) = (Go.Lib.bitLen a : Int) := by
  rw [len_get]
  have h2 : i.toNat < 256 := by rw [Go.Lib.len8tab_size] at h; exact h
  have l := bitLen_small i.toNat h2
  have e := bitLen_up c a (hm ▸ h1) ha
  rw [← hm, ← hi] at e
  exact wrap_sum _ _ c e hc l
theorem len_close0 (a : Nat) (i : Int) (hi : i.toNat = a) (h : i.toNat < Go.Lib.len8tab.size) : wrap64 (wrap64 ((Go.Lib.len8tab[i.toNat]'h).toNat : Int)) = (Go.Lib.bitLen a : Int) := by
  rw [len_get]
  have h2 : i.toNat < 256 := by rw [Go.Lib.len8tab_size] at h; exact h
  have l := bitLen_small i.toNat h2
  rw [← hi]
  generalize Go.Lib.bitLen i.toNat = b at l ⊢
  unfold wrap64
  omega
def bits_Len64.f (a0 : Int) : Option (Int) := if 0 ≤ a0 ∧ a0 ≤ 18446744073709551615 then some (Go.Lib.bitLen a0.toNat : Int) else none
set_option maxHeartbeats 8000000 in
set_option maxRecDepth 100000 in
theorem bits_Len64.calls (a0 : Int) (r : Int) (w : World) (h : bits_Len64.f a0 = some r) :
    Calls Tryz.prog 82 #[.int .u64 a0] w fun e w' => e = .returned (.int .i64 r) ∧ Drawn0 w w' := by
  unfold bits_Len64.f at h
  by_cases hb : 0 ≤ a0 ∧ a0 ≤ 18446744073709551615
  · rw [if_pos hb] at h
    obtain rfl := Option.some.inj h
    obtain ⟨h0, h1⟩ := hb
    clear h
    go_enter Tryz.func82, Tryz.ntmps82
    go_wp2
    all_goals first
      | (rename_i hno; exact absurd (by rw [Go.Lib.len8tab_size]; omega) hno)
      | (go_ret; refine ⟨congrArg Ending.returned (congrArg (Value.int IntKind.i64) ?_), Drawn0.refl _⟩)
    · exact len_close a0.toNat 56 72057594037927936 (by decide) (by omega) (by omega) (by omega) _ (by omega) _
    · exact len_close a0.toNat 48 281474976710656 (by decide) (by omega) (by omega) (by omega) _ (by omega) _
    · exact len_close a0.toNat 40 1099511627776 (by decide) (by omega) (by omega) (by omega) _ (by omega) _
    · exact len_close a0.toNat 32 4294967296 (by decide) (by omega) (by omega) (by omega) _ (by omega) _
    · exact len_close a0.toNat 24 16777216 (by decide) (by omega) (by omega) (by omega) _ (by omega) _
    · exact len_close a0.toNat 16 65536 (by decide) (by omega) (by omega) (by omega) _ (by omega) _
    · exact len_close a0.toNat 8 256 (by decide) (by omega) (by omega) (by omega) _ (by omega) _
    · exact len_close0 a0.toNat _ rfl _
  · rw [if_neg hb] at h
    cases h

/-! ### strconv_Itoa_64: function 64 -/
-- BY HAND
def strconv_Itoa_64.f (a0 : Int) : Option (ByteArray) := if 0 ≤ a0 then (if a0 < 100 then some ⟨(Go.Lib.decDigits a0.toNat).toArray⟩ else none) else none
set_option maxHeartbeats 8000000 in
set_option maxRecDepth 100000 in
theorem strconv_Itoa_64.calls (a0 : Int) (r : ByteArray) (w : World) (h : strconv_Itoa_64.f a0 = some r) :
    Calls Tryz.prog 64 #[.int .i64 a0] w fun e w' => e = .returned (.string r) ∧ Drawn0 w w' := by
  unfold strconv_Itoa_64.f at h
  split at h
  · rename_i h0
    split at h
    · rename_i h1
      obtain rfl := Option.some.inj h
      have := Tryz.strconv_Itoa_small a0.toNat (by omega) w
      rw [Int.toNat_of_nonneg h0] at this
      refine this.mono ?_
      rintro e w' ⟨rfl, rfl⟩
      exact ⟨rfl, Drawn0.refl _⟩
    · cases h
  · cases h

/-! ### strings_Join: function 65 -/
-- BY HAND
def strings_Join.f (l0 : List ByteArray) (a1 : ByteArray) : Option (ByteArray) := if (Go.Lib.join (l0.map (·.data.toList)) a1.data.toList).length ≤ 140737488355328 then (if l0.length ≤ 140737488355328 then some ⟨(Go.Lib.join (l0.map (·.data.toList)) a1.data.toList).toArray⟩ else none) else none
set_option maxHeartbeats 8000000 in
set_option maxRecDepth 100000 in
theorem strings_Join.calls (A0 : Option Addr) (c0 : Nat) (l0 : List ByteArray) (a1 : ByteArray) (r : ByteArray) (w : World) (hr0 : Kd.C Kd.string w A0 l0.length l0) (hc0 : l0.length ≤ c0) (h : strings_Join.f l0 a1 = some r) :
    Calls Tryz.prog 65 #[.slice A0 l0.length c0, .string a1] w fun e w' => e = .returned (.string r) ∧ Below w.heap.size w w' := by
  unfold strings_Join.f at h
  split at h
  · rename_i hlen
    split at h
    · rename_i hN
      obtain rfl := Option.some.inj h
      clear h
      cases l0 with
      | nil =>
        refine (Tryz.strings_Join_none A0 c0 a1 w).mono ?_
        rintro e w' ⟨rfl, rfl⟩
        exact ⟨rfl, Below.refl _ _⟩
      | cons x xs =>
        obtain ⟨ad, rfl, hx0⟩ := Kd.at_string hr0 0 (by omega) (by simp)
        obtain ⟨b, o, pth⟩ := ad
        have hall : ∀ (j : Nat) y, (x :: xs)[j]? = some y → w.cell? ((⟨b, o, pth⟩ : Addr).add j) = some (.string y) := by
          intro j y hj
          obtain ⟨hjl, hjy⟩ := List.getElem?_eq_some_iff.1 hj
          obtain ⟨ad', e, hc⟩ := Kd.at_string hr0 (j : Int) (by omega) (by omega)
          injection e with e
          subst e
          rw [Int.toNat_natCast] at hc
          rw [hc]
          have e5 : rdOf ByteArray.empty (x :: xs) (j : Int) = y := by
            unfold rdOf
            rw [Int.toNat_natCast, List.getD_eq_getElem?_getD, hj]
            rfl
          rw [e5]
        cases pth with
        | some q =>
          simp only [Int.toNat_zero, Go.Addr.add, ↓reduceIte, World.cell?] at hx0
          split at hx0 <;> simp at hx0
        | none =>
          have hcells : ∀ (j : Nat) y, (x :: xs)[j]? = some y → w.cell? ⟨b, o + j, none⟩ = some (.string y) := fun j y hj => by
            have h5 := hall j y hj
            have e : ((⟨b, o, none⟩ : Addr).add j) = ⟨b, o + j, none⟩ := by
              unfold Go.Addr.add
              by_cases c : j = 0
              · rw [if_pos c, c]
                rfl
              · rw [if_neg c]
            rwa [e] at h5
          refine (Tryz.strings_Join b o c0 (x :: xs) a1 w hcells (World.block_lt_of_cell? w _ (hcells 0 x rfl)) hN hc0 hlen).mono ?_
          rintro e w' ⟨rfl, hb⟩
          exact ⟨rfl, hb⟩
    · cases h
  · cases h

end Go.Proofs.YtigkmdlbijdoaaaGreatDoor.P
