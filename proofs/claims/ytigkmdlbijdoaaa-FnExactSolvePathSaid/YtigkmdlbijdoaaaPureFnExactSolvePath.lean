/- The law FnExactSolvePath, with no program in sight. -/
import Derived.Test.YtigkmdlbijdoaaaTog
import Derived.Test.YtigkmdlbijdoaaaPx1
import Derived.Test.YtigkmdlbijdoaaaPx2
import Derived.Test.YtigkmdlbijdoaaaPx3
import Derived.Test.YtigkmdlbijdoaaaPx7
import Derived.Test.YtigkmdlbijdoaaaPx8
namespace Go.Proofs.Ytigkmdlbijdoaaa.Pure
open Go.RowKit Go.Proofs.Ytigkmdlbijdoaaa.P Go.Proofs.Ytigkmdlbijdoaaa.Bt Go.Proofs.Ytigkmdlbijdoaaa.Lw Go.Proofs.Ytigkmdlbijdoaaa.Gr Go.Proofs.Ytigkmdlbijdoaaa.Tg Go.Proofs.YtigkmdlbijdoaaaW.PrintWords Go.Proofs.YtigkmdlbijdoaaaW.PrintLast Go.Proofs.YtigkmdlbijdoaaaW.PrintMore
set_option linter.unusedVariables false
set_option linter.unusedSimpArgs false

theorem ofMono {α : Type} {f : Nat → Option α} {r : α} {k0 : Nat} (hm : ∀ k, LeO (f k) (f (k + 1))) (h : f k0 = some r) : ∀ k, k0 ≤ k → f k = some r := by
  intro k hk
  obtain ⟨d, rfl⟩ : ∃ d, k = k0 + d := ⟨k - k0, by omega⟩
  clear hk
  induction d with
  | zero => exact h
  | succ d ih => exact hm _ _ ih
section
variable (l : List Int) (own : Bool) (G : Gr.Good l) (L : Nat) (hL : L < 2 ^ l.length)
include G hL
theorem rows (f : Nat) (hf : f ≤ 2) (next : ∃ r : Int × Bool, Ev (fun k => spec_SolvePath.l0 k (l.length : Int) (L : Int) ((f + 1 : Nat) : Int) l own) r ∧ Ev (fun k => impl_SolvePath.l0 k (l.length : Int) (L : Int) ((f + 1 : Nat) : Int) l own) r) :
    ∀ (d i S : Nat), i + 1 + d = l.length → S < 2 ^ (i + 1) →
      ∃ r : Int × Bool, Ev (fun k => spec_SolvePath.l1 k (l.length : Int) (L : Int) (f : Int) (S : Int) (i : Int) l own) r ∧
        Ev (fun k => impl_SolvePath.l1 k (l.length : Int) (L : Int) (f : Int) (S : Int) ((L ^^^ effA (tg l own) S l.length : Nat) : Int) (f : Int) (l.length : Int) ((i + 1 : Nat) : Int) l own) r := by
  have hl := G.2.1
  have hp := pow16 hl
  intro d
  induction d with
  | zero =>
    intro i S hi hS
    have hS' : S < 2 ^ l.length := by rw [← hi]; exact hS
    have he : effA (tg l own) S l.length < 2 ^ l.length := effA_lt l.length fun j hj => tg_lt G own hj
    by_cases c : effA (tg l own) S l.length = L
    · refine ⟨((S : Int), true), Ev.konst 18 fun k hk => ?_, Ev.konst 1 fun k hk => ?_⟩
      · obtain ⟨k, rfl⟩ : ∃ m, k = m + 1 := ⟨k - 1, by omega⟩
        rw [spec_SolvePath.l1, step1 (by omega), if_neg (by omega), effect_at G own S (by omega) k (by omega), Option.bind_some, if_pos (by rw [c])]
      · obtain ⟨k, rfl⟩ : ∃ m, k = m + 1 := ⟨k - 1, by omega⟩
        rw [impl_SolvePath.l1, if_neg (by omega), c, Nat.xor_self, if_pos (by omega)]
    · obtain ⟨r, e1, e2⟩ := next
      refine ⟨r, Ev.succ e1 17 fun k hk => ?_, Ev.succ e2 0 fun k hk => ?_⟩
      · rw [spec_SolvePath.l1, step1 (by omega), if_neg (by omega), effect_at G own S (by omega) k (by omega), Option.bind_some, if_neg (by omega), step1 (by omega)]
      · have hx : L ^^^ effA (tg l own) S l.length ≠ 0 := fun h => c (Gf.xor_eq_zero.1 h).symm
        rw [impl_SolvePath.l1, if_neg (by omega), if_neg (by omega), step1 (by omega)]
  | succ d ih =>
    intro i S hi hS
    have hS1 : S < 2 ^ l.length := Nat.lt_of_lt_of_le hS (Nat.pow_le_pow_right (by omega) (by omega))
    have he : effA (tg l own) S l.length < 2 ^ l.length := effA_lt l.length fun j hj => tg_lt G own hj
    have hx : L ^^^ effA (tg l own) S l.length < 2 ^ l.length := Nat.xor_lt_two_pow hL he
    have hS2 : S < 2 ^ (i + 1 + 1) := Nat.lt_of_lt_of_le hS (Nat.pow_le_pow_right (by omega) (by omega))
    have hm1 : wrap64 (((i + 1 : Nat) : Int) - 1) = (i : Int) := by rw [Bt.wrap_id (by omega) (by omega)]; omega
    by_cases c : (L ^^^ effA (tg l own) S l.length).testBit i = true
    · have hb : 1 <<< (i + 1) < 2 ^ (i + 1 + 1) := by rw [Nat.one_shiftLeft]; exact Nat.pow_lt_pow_right (by omega) (by omega)
      have hb' : 1 <<< (i + 1) < 2 ^ l.length := by rw [Nat.one_shiftLeft]; exact Nat.pow_lt_pow_right (by omega) (by omega)
      have hfr : S.testBit (i + 1) = false := Nat.testBit_lt_two_pow hS
      obtain ⟨r, e1, e2⟩ := ih (i + 1) (S ||| 1 <<< (i + 1)) (by omega) (Nat.or_lt_two_pow hS2 hb)
      have ht := tg_lt G own (i := i + 1) (by omega)
      have eadd : L ^^^ effA (tg l own) (S ||| 1 <<< (i + 1)) l.length = L ^^^ effA (tg l own) S l.length ^^^ tg l own (i + 1) := by
        rw [effA_add _ _ _ hfr, if_pos (show i + 1 < l.length by omega), Nat.xor_assoc]
      rw [eadd] at e2
      refine ⟨r, Ev.succ e1 17 fun k hk => ?_, Ev.succ e2 0 fun k hk => ?_⟩
      · rw [spec_SolvePath.l1, step1 (by omega), if_pos (by omega), effect_at G own S (by omega) k (by omega), Option.bind_some, bits_xor (by omega) (by omega), grIn_nat _ i (by omega), c, Option.bind_some, if_pos rfl, if_pos (by omega), shl_bit (by omega), bits_or (by omega) (by omega)]
      · rw [impl_SolvePath.l1, if_pos (by omega), if_neg (by omega), if_pos (by omega), hm1, has_nat _ i (by omega), c, Option.bind_some, if_pos rfl, if_pos (by omega), (toggles_at G own (i := i + 1) (by omega)).2, Option.bind_some, shl_bit (by omega), bits_or (by omega) (by omega), bits_xor (by omega) (by omega), step1 (by omega)]
    · obtain ⟨r, e1, e2⟩ := ih (i + 1) S (by omega) hS2
      refine ⟨r, Ev.succ e1 17 fun k hk => ?_, Ev.succ e2 0 fun k hk => ?_⟩
      · rw [spec_SolvePath.l1, step1 (by omega), if_pos (by omega), effect_at G own S (by omega) k (by omega), Option.bind_some, bits_xor (by omega) (by omega), grIn_nat _ i (by omega), Bool.eq_false_iff.mpr c, Option.bind_some, if_neg (by simp)]
      · rw [impl_SolvePath.l1, if_pos (by omega), if_neg (by omega), if_pos (by omega), hm1, has_nat _ i (by omega), Bool.eq_false_iff.mpr c, Option.bind_some, if_neg (by simp), step1 (by omega)]
theorem firsts : ∀ (e f : Nat), f + e = 2 → ∃ r : Int × Bool, Ev (fun k => spec_SolvePath.l0 k (l.length : Int) (L : Int) (f : Int) l own) r ∧ Ev (fun k => impl_SolvePath.l0 k (l.length : Int) (L : Int) (f : Int) l own) r := by
  have hl := G.2.1
  have hl1 := G.1
  have hp := pow16 hl
  intro e
  induction e with
  | zero =>
    intro f hf
    refine ⟨(0, false), Ev.konst 1 fun k hk => ?_, Ev.konst 1 fun k hk => ?_⟩
    · obtain ⟨k, rfl⟩ : ∃ m, k = m + 1 := ⟨k - 1, by omega⟩
      rw [spec_SolvePath.l0, if_neg (by omega)]
    · obtain ⟨k, rfl⟩ : ∃ m, k = m + 1 := ⟨k - 1, by omega⟩
      rw [impl_SolvePath.l0, if_neg (by omega)]
  | succ e ih =>
    intro f hf
    have next := ih (f + 1) (by omega)
    obtain ⟨r, e1, e2⟩ := rows l own G L hL f (by omega) next (l.length - 1) 0 f (by omega) (by omega)
    refine ⟨r, Ev.succ e1 0 fun k _ => ?_, ?_⟩
    · rw [spec_SolvePath.l0, if_pos (by omega)]; rfl
    · have ht := tg_lt G own (i := 0) (by omega)
      have h2 : Ev (fun k => impl_SolvePath.l1 k (l.length : Int) (L : Int) (f : Int) ((0 : Nat) : Int) (L : Int) (f : Int) (l.length : Int) ((0 : Nat) : Int) l own) r := by
        rcases (by omega : f = 0 ∨ f = 1) with rfl | rfl
        · rw [effA_zero, Nat.xor_zero] at e2
          refine Ev.succ e2 0 fun k _ => ?_
          rw [impl_SolvePath.l1, if_pos (by omega), if_pos (by omega), if_neg (by omega), if_neg (by omega), step1 (by omega)]
        · have h1 : effA (tg l own) 1 l.length = tg l own 0 := by
            have := effA_add (tg l own) 0 0 (by simp) l.length
            rw [effA_zero, if_pos (show 0 < l.length by omega)] at this
            simpa using this
          rw [h1] at e2
          refine Ev.succ e2 0 fun k _ => ?_
          have hs : shl .i64 1 ((0 : Nat) : Int) = ((1 : Nat) : Int) := shl_bit (i := 0) (by omega)
          rw [impl_SolvePath.l1, if_pos (by omega), if_pos (by omega), if_pos (by omega), if_pos (by omega), (toggles_at G own (i := 0) (by omega)).2, Option.bind_some, hs, bits_or (by omega) (by omega), bits_xor (by omega) (by omega), step1 (by omega)]
          rfl
      refine Ev.succ h2 0 fun k _ => ?_
      rw [impl_SolvePath.l0, if_pos (by omega)]; rfl
end
/-- The path's rows. -/
def pathL (n : Nat) : List Int := (List.range n).map fun i => ((((if 0 < i then 2 ^ (i - 1) else 0) + (if i + 1 < n then 2 ^ (i + 1) else 0) : Nat)) : Int)
def okPath (own : Bool) (n : Nat) : Bool :=
  spec_grPath.f 60 (n : Int) own == some (pathL n, own) && impl_PathGraph.f 60 (n : Int) own == some (pathL n, own, true) && impl_isGraph.f 400 (pathL n) own == some true
theorem path_t : ∀ i : Fin 16, okPath true (i.val + 1) = true := by decide +kernel
theorem path_f : ∀ i : Fin 16, okPath false (i.val + 1) = true := by decide +kernel
theorem path_ok (own : Bool) {n : Nat} (h1 : 1 ≤ n) (h : n ≤ 16) : okPath own n = true := by
  cases own with
  | true => have := path_t ⟨n - 1, by omega⟩; simp only at this; rwa [show n - 1 + 1 = n by omega] at this
  | false => have := path_f ⟨n - 1, by omega⟩; simp only at this; rwa [show n - 1 + 1 = n by omega] at this
theorem both (n : Int) (own : Bool) (a : Int) : ∃ r : Int × Bool, Ev (fun k => spec_SolvePath.f k n own a) r ∧ Ev (fun k => impl_SolvePath.f k n own a) r := by
  have z1 : spec_grSize.f n = some (decide (1 ≤ n) && decide (n ≤ 16)) := by
    unfold spec_grSize.f spec_l1In.f
    by_cases c : (1 : Int) ≤ n
    · rw [if_pos c]; simp [c]
    · rw [if_neg c]; simp [c]
  have z2 : impl_isCount.f n = some (decide (1 ≤ n) && decide (n ≤ 16)) := by
    unfold impl_isCount.f
    rw [in_nat]; rfl
  by_cases c : (decide (1 ≤ n) && decide (n ≤ 16)) = true
  · have hc := c
    simp only [Bool.and_eq_true, decide_eq_true_eq] at hc
    obtain ⟨m, rfl⟩ : ∃ m : Nat, n = m := ⟨n.toNat, by omega⟩
    have hm : m ≤ 16 := by omega
    have ok := path_ok own (n := m) (by omega) hm
    simp only [okPath, Bool.and_eq_true, beq_iff_eq] at ok
    obtain ⟨⟨p1, p2⟩, p3⟩ := ok
    have hlen : (pathL m).length = m := by simp [pathL]
    obtain ⟨b, hb, ⟨Kg, eg⟩⟩ := good_impl (pathL m) own
    simp only at eg
    have hbt : b = true := by
      have h1 := eg (Kg + 400) (by omega)
      have h2 := ofMono (f := fun k => impl_isGraph.f k (pathL m) own) (fun k => impl_isGraph.mono (pathL m) own k) p3 (Kg + 400) (by omega)
      rw [h2] at h1
      exact (Option.some.inj h1).symm
    have G := hb.1 hbt
    subst hbt
    have hp := pow16 hm
    have ep : ((2 ^ m : Nat) : Int) = (2 : Int) ^ m := by simp
    have hp0 := Nat.two_pow_pos m
    have q1 : ∀ k, 60 ≤ k → spec_grPath.f k (m : Int) own = some (pathL m, own) := fun k hk => ofMono (f := fun k => spec_grPath.f k (m : Int) own) (fun k => spec_grPath.mono (m : Int) own k) p1 k hk
    have q2 : ∀ k, 60 ≤ k → impl_PathGraph.f k (m : Int) own = some (pathL m, own, true) := fun k hk => ofMono (f := fun k => impl_PathGraph.f k (m : Int) own) (fun k => impl_PathGraph.mono (m : Int) own k) p2 k hk
    have s1 : spec_l1In.f a 0 (wrap64 (shl .i64 1 (m : Int) - 1)) = some (decide (0 ≤ a) && decide (a ≤ ((2 ^ m - 1 : Nat) : Int))) := by
      rw [shl1 hm]
      unfold spec_l1In.f
      by_cases c : (0 : Int) ≤ a
      · rw [if_pos c]; simp [c]
      · rw [if_neg c]; simp [c]
    have s2 : ∀ k, Kg ≤ k → impl_isSet.f k (pathL m) own [a] = some (decide (0 ≤ a) && decide (a ≤ ((2 ^ m - 1 : Nat) : Int))) := by
      intro k hk
      unfold impl_isSet.f
      rw [eg k hk, Option.bind_some, if_pos rfl, hlen, whole_nat hm, Option.bind_some]
      simp
    by_cases ca : (decide (0 ≤ a) && decide (a ≤ ((2 ^ m - 1 : Nat) : Int))) = true
    · have hca := ca
      simp only [Bool.and_eq_true, decide_eq_true_eq] at hca
      obtain ⟨L, rfl⟩ : ∃ L : Nat, a = L := ⟨a.toNat, by omega⟩
      obtain ⟨r, ⟨K1, e1⟩, ⟨K2, e2⟩⟩ := firsts (pathL m) own G L (by rw [hlen]; omega) 2 0 (by omega)
      simp only [hlen] at e1 e2
      refine ⟨r, ⟨K1 + 61, fun k hk => ?_⟩, ⟨K2 + Kg + 61, fun k hk => ?_⟩⟩
      · obtain ⟨k, rfl⟩ : ∃ q, k = q + 1 := ⟨k - 1, by omega⟩
        show spec_SolvePath.f (k + 1) (m : Int) own (L : Int) = _
        unfold spec_SolvePath.f
        rw [z1, c, Option.bind_some, if_pos rfl, if_pos (by omega), s1, ca, Option.bind_some, Bool.not_true, spec_SolvePath.j0, if_neg (by simp), q1 k (by omega), Option.bind_some]
        exact e1 k (by omega)
      · obtain ⟨k, rfl⟩ : ∃ q, k = q + 1 := ⟨k - 1, by omega⟩
        show impl_SolvePath.f (k + 1) (m : Int) own (L : Int) = _
        unfold impl_SolvePath.f
        rw [q2 (k + 1) (by omega), Option.bind_some, if_pos rfl, s2 (k + 1) (by omega), ca, Option.bind_some, Bool.not_true, impl_SolvePath.j0, if_neg (by simp)]
        exact e2 k (by omega)
    · refine ⟨(0, false), ⟨62, fun k hk => ?_⟩, ⟨Kg + 62, fun k hk => ?_⟩⟩
      · obtain ⟨k, rfl⟩ : ∃ q, k = q + 1 := ⟨k - 1, by omega⟩
        show spec_SolvePath.f (k + 1) (m : Int) own a = _
        unfold spec_SolvePath.f
        rw [z1, c, Option.bind_some, if_pos rfl, if_pos (by omega), s1, Bool.eq_false_iff.mpr ca, Option.bind_some, Bool.not_false, spec_SolvePath.j0, if_pos rfl]
      · obtain ⟨k, rfl⟩ : ∃ q, k = q + 1 := ⟨k - 1, by omega⟩
        show impl_SolvePath.f (k + 1) (m : Int) own a = _
        unfold impl_SolvePath.f
        rw [q2 (k + 1) (by omega), Option.bind_some, if_pos rfl, s2 (k + 1) (by omega), Bool.eq_false_iff.mpr ca, Option.bind_some, Bool.not_false, impl_SolvePath.j0, if_pos rfl]
  · refine ⟨(0, false), ⟨1, fun k hk => ?_⟩, ⟨1, fun k hk => ?_⟩⟩
    · obtain ⟨k, rfl⟩ : ∃ q, k = q + 1 := ⟨k - 1, by omega⟩
      show spec_SolvePath.f (k + 1) n own a = _
      unfold spec_SolvePath.f
      rw [z1, Bool.eq_false_iff.mpr c, Option.bind_some, if_neg (by simp), spec_SolvePath.j0, if_pos rfl]
    · obtain ⟨k, rfl⟩ : ∃ q, k = q + 1 := ⟨k - 1, by omega⟩
      show impl_SolvePath.f (k + 1) n own a = _
      unfold impl_SolvePath.f impl_PathGraph.f
      rw [z2, Bool.eq_false_iff.mpr c, Option.bind_some, if_neg (by simp), Option.bind_some, if_neg (by simp), impl_SolvePath.j0, if_pos rfl]
theorem FnExactSolvePath : laws_FnExactSolvePath.Pure := by
  intro n own a _ _
  obtain ⟨r, ⟨K1, e1⟩, ⟨K2, e2⟩⟩ := both n own a
  simp only at e1 e2
  refine ⟨K1 + K2, ?_⟩
  unfold laws_FnExactSolvePath.f
  rw [e1 _ (by omega), Option.bind_some, e2 _ (by omega), Option.bind_some, if_pos rfl, bne_self_eq_false, if_neg (by simp)]
end Go.Proofs.Ytigkmdlbijdoaaa.Pure
