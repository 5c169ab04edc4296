/- What 'is it a graph' answers on both sides. -/
import Derived.Test.YtfhbkgbhogndfaaGraphImpl
import Derived.Test.YtfhbkgbhogndfaaAll
import Derived.Test.YtfhbkgbhogndfaaPx1
import Derived.Test.YtfhbkgbhogndfaaPx3
namespace Go.Proofs.Ytfhbkgbhogndfaa.Gr
open Go.RowKit Go.Proofs.Ytfhbkgbhogndfaa.P Go.Proofs.Ytfhbkgbhogndfaa.Bt Go.Proofs.Ytfhbkgbhogndfaa.Lw Go.Proofs.YtfhbkgbhogndfaaW.PrintWords Go.Proofs.YtfhbkgbhogndfaaW.PrintLast Go.Proofs.YtfhbkgbhogndfaaW.PrintMore
set_option linter.unusedVariables false
set_option linter.unusedSimpArgs false

section
variable (l : List Int) (own : Bool) (hl : l.length ≤ 16) (hr : Rng l)
include hl hr
theorem grGood_l0 : ∀ (d i : Nat), l.length - i = d → i ≤ l.length →
    ∃ b : Bool, Ev (fun k => spec_grGood.l0 k l (l.length : Int) (i : Int) l own) b ∧ (b = true ↔ ∀ i', i ≤ i' → i' < l.length → ∀ j, j < l.length → OkE l i' j) := by
  intro d
  induction d with
  | zero =>
    intro i hd hi
    refine ⟨true, Ev.konst 1 fun k hk => ?_, ⟨fun _ i' h1 h2 => by omega, fun _ => rfl⟩⟩
    obtain ⟨k, rfl⟩ : ∃ m, k = m + 1 := ⟨k - 1, by omega⟩
    rw [spec_grGood.l0, if_neg (by omega)]
  | succ d ih =>
    intro i hd hi
    obtain ⟨b0, e0, h0⟩ := ih (i + 1) (by omega) (by omega)
    have inner : ∀ (e j : Nat), l.length - j = e → j ≤ l.length →
        ∃ b : Bool, Ev (fun k => spec_grGood.l1 k (i : Int) (rd l (i : Int)) l (l.length : Int) (i : Int) (l.length : Int) (j : Int) l own) b ∧ (b = true ↔ (∀ j', j ≤ j' → j' < l.length → OkE l i j') ∧ b0 = true) := by
      intro e
      induction e with
      | zero =>
        intro j hj1 hj2
        refine ⟨b0, Ev.succ e0 0 fun k _ => ?_, ⟨fun h => ⟨fun j' h1 h2 => by omega, h⟩, fun h => h.2⟩⟩
        rw [spec_grGood.l1, if_neg (by omega), step1 (by omega)]
      | succ e ihe =>
        intro j hj1 hj2
        obtain ⟨b1, e1, h1⟩ := ihe (j + 1) (by omega) (by omega)
        have hri : rd l (i : Int) = (nr l i : Int) := by rw [rd_nat]; exact nr_cast hr (by omega)
        have hrj : rd l (j : Int) = (nr l j : Int) := by rw [rd_nat]; exact nr_cast hr (by omega)
        have hsi := nr_small hl hr (i := i) (by omega)
        have hsj := nr_small hl hr (i := j) (by omega)
        by_cases hb : (nr l i).testBit j = true
        · by_cases hij : i = j
          · refine ⟨false, Ev.konst 1 fun k hk => ?_, ⟨fun h => (by cases h), fun h => absurd hij (h.1 j (Nat.le_refl _) (by omega) hb).1⟩⟩
            obtain ⟨k, rfl⟩ : ∃ m, k = m + 1 := ⟨k - 1, by omega⟩
            rw [spec_grGood.l1, if_pos (by omega), hri, grIn_nat _ _ (by omega), hb]
            simp only [Option.bind_some, if_true]
            rw [if_pos (by omega)]
          · by_cases hb2 : (nr l j).testBit i = true
            · refine ⟨b1, Ev.succ e1 0 fun k _ => ?_, ?_⟩
              · rw [spec_grGood.l1, if_pos (by omega), hrj, grIn_nat (nr l j) i (by omega), hb2, hri, grIn_nat (nr l i) j (by omega), hb]
                simp only [Option.bind_some, if_true]
                rw [if_neg (by omega), if_pos (by omega), if_pos (by omega), step1 (by omega), ← hri]
              · rw [h1]
                constructor
                · rintro ⟨h2, h3⟩
                  refine ⟨fun j' h4 h5 => ?_, h3⟩
                  by_cases e : j' = j
                  · subst e; exact fun _ => ⟨hij, hb2⟩
                  · exact h2 j' (by omega) h5
                · rintro ⟨h2, h3⟩
                  exact ⟨fun j' h4 h5 => h2 j' (by omega) h5, h3⟩
            · refine ⟨false, Ev.konst 1 fun k hk => ?_, ⟨fun h => (by cases h), fun h => absurd (h.1 j (Nat.le_refl _) (by omega) hb).2 hb2⟩⟩
              obtain ⟨k, rfl⟩ : ∃ m, k = m + 1 := ⟨k - 1, by omega⟩
              rw [spec_grGood.l1, if_pos (by omega), hrj, grIn_nat (nr l j) i (by omega), Bool.eq_false_iff.mpr hb2, hri, grIn_nat (nr l i) j (by omega), hb]
              simp only [Option.bind_some, if_true]
              rw [if_neg (by omega), if_pos (by omega), if_pos (by omega), if_neg (by simp)]
        · refine ⟨b1, Ev.succ e1 0 fun k _ => ?_, ?_⟩
          · rw [spec_grGood.l1, if_pos (by omega), hri, grIn_nat _ _ (by omega), Bool.eq_false_iff.mpr hb]
            simp only [Option.bind_some]
            rw [if_neg (by simp), step1 (by omega)]
          · rw [h1]
            constructor
            · rintro ⟨h2, h3⟩
              refine ⟨fun j' h4 h5 => ?_, h3⟩
              by_cases e : j' = j
              · subst e; exact fun h => absurd h hb
              · exact h2 j' (by omega) h5
            · rintro ⟨h2, h3⟩
              exact ⟨fun j' h4 h5 => h2 j' (by omega) h5, h3⟩
    obtain ⟨b, eb, hb⟩ := inner l.length 0 (by omega) (by omega)
    refine ⟨b, Ev.succ eb 0 fun k _ => ?_, ?_⟩
    · rw [spec_grGood.l0, if_pos (by omega), if_pos (by omega), if_pos (by omega)]
      rfl
    · rw [hb, h0]
      constructor
      · rintro ⟨h1, h2⟩ i' h3 h4 j h5
        by_cases e : i' = i
        · subst e; exact h1 j (Nat.zero_le _) h5
        · exact h2 i' (by omega) h4 j h5
      · intro h
        exact ⟨fun j' _ h2 => h i (Nat.le_refl _) (by omega) j' h2, fun i' h1 h2 => h i' (by omega) h2⟩
end

theorem size_spec (l : List Int) : spec_grSize.f (l.length : Int) = some (decide (1 ≤ (l.length : Int)) && decide ((l.length : Int) ≤ 16)) := by
  unfold spec_grSize.f; rw [l1In_val]; rfl
/-- Both say of a list whether it is a graph's. -/
theorem good_both (l : List Int) (own : Bool) (hlen : l.length ≤ 4611686018427387904) : ∃ b : Bool, (b = true ↔ Good l) ∧ Ev (fun k => spec_grGood.f k l own) b ∧ Ev (fun k => impl_isGraph.f k l own) b := by
  by_cases c : (decide (1 ≤ (l.length : Int)) && decide ((l.length : Int) ≤ 16)) = true
  · have hc := c
    simp only [Bool.and_eq_true, decide_eq_true_eq] at hc
    have hl : l.length ≤ 16 := by omega
    obtain ⟨b2, e2, h2⟩ := isGraph_l0 l own hl l.length 0 (by omega) (by omega) (fun i' h => by omega)
    have hp0 := Nat.two_pow_pos l.length
    have ep : ((2 ^ l.length : Nat) : Int) = (2 : Int) ^ l.length := by simp
    have i2 : Ev (fun k => impl_isGraph.f k l own) b2 := by
      obtain ⟨K, h⟩ := e2
      refine ⟨K, fun k hk => ?_⟩
      show impl_isGraph.f k l own = _
      unfold impl_isGraph.f
      rw [size_impl, c]
      exact h k hk
    have hI : b2 = true ↔ Good l := by
      rw [h2]
      constructor
      · intro h
        have hr : Rng l := fun i hi => ⟨(h i (Nat.zero_le _) hi).1, (h i (Nat.zero_le _) hi).2.1⟩
        refine ⟨by omega, hl, hr, fun i hi j hj hb => ?_⟩
        have h3 := (h i (Nat.zero_le _) hi).2.2
        have h4 := (h j (Nat.zero_le _) hj).2.2
        have hne : i ≠ j := fun e => by subst e; rw [h3.1] at hb; cases hb
        refine ⟨hne, ?_⟩
        rcases Nat.lt_or_ge i j with h5 | h5
        · rw [h4.2 i h5]; exact hb
        · rw [← h3.2 j (by omega)]; exact hb
      · rintro ⟨g1, g2, g3, g4⟩ i _ hi
        refine ⟨(g3 i hi).1, (g3 i hi).2, ?_, fun j hj => ?_⟩
        · rw [Bool.eq_false_iff]; intro hb; exact (g4 i hi i hi hb).1 rfl
        · rw [Bool.eq_iff_iff]
          exact ⟨fun hb => (g4 i hi j (by omega) hb).2, fun hb => (g4 j (by omega) i hi hb).2⟩
    have hall := l1All_at l 0 ((2 ^ l.length - 1 : Nat) : Int) hlen
    by_cases a : (l.all fun x => decide (0 ≤ x) && decide (x ≤ ((2 ^ l.length - 1 : Nat) : Int))) = true
    · have hr : Rng l := by
        intro i hi
        simp only [List.all_eq_true, Bool.and_eq_true, decide_eq_true_eq] at a
        have := a (l.getD i 0) (by rw [List.getD_eq_getElem?_getD, List.getElem?_eq_getElem hi]; exact List.getElem_mem _)
        omega
      obtain ⟨b1, e1, h1⟩ := grGood_l0 l own hl hr l.length 0 (by omega) (by omega)
      have hS : b1 = true ↔ Good l := by
        rw [h1]
        exact ⟨fun h => ⟨by omega, hl, hr, fun i hi j hj => h i (Nat.zero_le _) hi j hj⟩, fun h i _ hi j hj => h.2.2.2 i hi j hj⟩
      have e : b1 = b2 := by rw [Bool.eq_iff_iff, hS, hI]
      subst e
      refine ⟨b1, hS, ?_, i2⟩
      have e1' : Ev (fun k => spec_grGood.j0 k false l own) b1 := Ev.succ e1 0 fun k _ => by
        rw [spec_grGood.j0, if_neg (by simp)]
        rfl
      obtain ⟨K, h⟩ := e1'
      refine ⟨K + l.length + 1, fun k hk => ?_⟩
      show spec_grGood.f k l own = _
      unfold spec_grGood.f
      rw [size_spec, c, shl1 hl]
      simp only [Option.bind_some, if_true]
      rw [hall k (by omega), a]
      simp only [Option.bind_some, Bool.not_true]
      exact h k (by omega)
    · refine ⟨b2, hI, ?_, i2⟩
      have hn : ¬ Good l := by
        rintro ⟨_, _, g3, _⟩
        apply a
        simp only [List.all_eq_true, Bool.and_eq_true, decide_eq_true_eq]
        intro x hx
        obtain ⟨i, hi, rfl⟩ := List.getElem_of_mem hx
        have := g3 i hi
        rw [List.getD_eq_getElem?_getD, List.getElem?_eq_getElem hi] at this
        simp only [Option.getD_some] at this
        omega
      have : b2 = false := by rw [Bool.eq_false_iff]; exact fun h => hn (hI.1 h)
      subst this
      refine ⟨l.length + 2, fun k hk => ?_⟩
      obtain ⟨k, rfl⟩ : ∃ m, k = m + 1 := ⟨k - 1, by omega⟩
      show spec_grGood.f (k + 1) l own = _
      unfold spec_grGood.f
      rw [size_spec, c, shl1 hl]
      simp only [Option.bind_some, if_true]
      rw [hall (k + 1) (by omega), Bool.eq_false_iff.mpr a]
      simp only [Option.bind_some, Bool.not_false]
      rw [spec_grGood.j0, if_pos rfl]
  · refine ⟨false, ⟨fun h => (by cases h), fun h => absurd (by simp only [Bool.and_eq_true, decide_eq_true_eq]; have := h.1; have := h.2.1; omega) c⟩, ⟨1, fun k hk => ?_⟩, ⟨0, fun k _ => ?_⟩⟩
    · obtain ⟨k, rfl⟩ : ∃ m, k = m + 1 := ⟨k - 1, by omega⟩
      show spec_grGood.f (k + 1) l own = _
      unfold spec_grGood.f
      rw [size_spec, Bool.eq_false_iff.mpr c]
      simp only [Option.bind_some]
      rw [if_neg (by simp), spec_grGood.j0, if_pos rfl]
    · show impl_isGraph.f k l own = _
      unfold impl_isGraph.f
      rw [size_impl, Bool.eq_false_iff.mpr c]
      rfl
end Go.Proofs.Ytfhbkgbhogndfaa.Gr
