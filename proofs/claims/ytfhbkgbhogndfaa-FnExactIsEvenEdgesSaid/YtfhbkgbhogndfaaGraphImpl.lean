/- What the program's 'is it a graph' answers. -/
import Derived.Test.YtfhbkgbhogndfaaGraphDef
import Derived.Test.YtfhbkgbhogndfaaPx3
namespace Go.Proofs.Ytfhbkgbhogndfaa.Gr
open Go.RowKit Go.Proofs.Ytfhbkgbhogndfaa.P Go.Proofs.Ytfhbkgbhogndfaa.Bt Go.Proofs.Ytfhbkgbhogndfaa.Lw Go.Proofs.YtfhbkgbhogndfaaW.PrintWords Go.Proofs.YtfhbkgbhogndfaaW.PrintLast Go.Proofs.YtfhbkgbhogndfaaW.PrintMore
set_option linter.unusedVariables false
set_option linter.unusedSimpArgs false

/-- The program's side: the ranges are asked one by one, and each pair once. -/
def Im (l : List Int) (i : Nat) : Prop := 0 ≤ l.getD i 0 ∧ l.getD i 0 < 2 ^ l.length ∧ (nr l i).testBit i = false ∧ ∀ j, j < i → (nr l i).testBit j = (nr l j).testBit i
theorem isGraph_l0 (l : List Int) (own : Bool) (hl : l.length ≤ 16) : ∀ (d i : Nat), l.length - i = d → i ≤ l.length → (∀ i', i' < i → 0 ≤ l.getD i' 0 ∧ l.getD i' 0 < 2 ^ l.length) →
    ∃ b : Bool, Ev (fun k => impl_isGraph.l0 k (l.length : Int) l (l.length : Int) (i : Int) l own) b ∧ (b = true ↔ ∀ i', i ≤ i' → i' < l.length → Im l i') := by
  have hp := pow16 hl
  have ep : ((2 ^ l.length : Nat) : Int) = (2 : Int) ^ l.length := by simp
  have hp0 := Nat.two_pow_pos l.length
  intro d
  induction d with
  | zero =>
    intro i hd hi _
    refine ⟨true, Ev.konst 1 fun k hk => ?_, ⟨fun _ i' h1 h2 => by omega, fun _ => rfl⟩⟩
    obtain ⟨k, rfl⟩ : ∃ m, k = m + 1 := ⟨k - 1, by omega⟩
    rw [impl_isGraph.l0, if_neg (by omega)]
  | succ d ih =>
    intro i hd hi hpre
    by_cases hri : 0 ≤ l.getD i 0 ∧ l.getD i 0 < 2 ^ l.length
    · obtain ⟨b0, e0, h0⟩ := ih (i + 1) (by omega) (by omega) (fun i' h => by
        by_cases e : i' = i
        · subst e; exact hri
        · exact hpre i' (by omega))
      have hcast : ∀ j, j ≤ i → rd l (j : Int) = (nr l j : Int) ∧ nr l j < 65536 := by
        intro j hj
        have : 0 ≤ l.getD j 0 ∧ l.getD j 0 < 2 ^ l.length := by
          by_cases e : j = i
          · subst e; exact hri
          · exact hpre j (by omega)
        rw [rd_nat]
        unfold nr
        omega
      obtain ⟨hc, hs⟩ := hcast i (Nat.le_refl _)
      have hin : impl_in.f (rd l (i : Int)) 0 (((2 ^ l.length - 1 : Nat)) : Int) = some true := by
        rw [in_nat, rd_nat]
        congr 1
        simp only [Bool.and_eq_true, decide_eq_true_eq]
        omega
      by_cases hb : (nr l i).testBit i = true
      · refine ⟨false, Ev.konst 2 fun k hk => ?_, ⟨fun h => (by cases h), fun h => by have := (h i (Nat.le_refl _) (by omega)).2.2.1; rw [hb] at this; cases this⟩⟩
        obtain ⟨k, rfl⟩ : ∃ m, k = m + 2 := ⟨k - 2, by omega⟩
        rw [impl_isGraph.l0, if_pos (by omega), if_pos (by omega), if_pos (by omega), whole_nat hl]
        simp only [Option.bind_some]
        rw [hin]
        simp only [Option.bind_some, if_true]
        rw [hc, has_nat _ _ (by omega), hb]
        simp only [Option.bind_some]
        rw [impl_isGraph.j1, if_pos rfl]
      · have inner : ∀ (e j : Nat), i - j = e → j ≤ i →
            ∃ b : Bool, Ev (fun k => impl_isGraph.l1 k (l.length : Int) (i : Int) (rd l (i : Int)) l (l.length : Int) (i : Int) (i : Int) (j : Int) l own) b ∧ (b = true ↔ (∀ j', j ≤ j' → j' < i → (nr l i).testBit j' = (nr l j').testBit i) ∧ b0 = true) := by
          intro e
          induction e with
          | zero =>
            intro j hj1 hj2
            refine ⟨b0, Ev.succ e0 0 fun k _ => ?_, ⟨fun h => ⟨fun j' h1 h2 => by omega, h⟩, fun h => h.2⟩⟩
            rw [impl_isGraph.l1, if_neg (by omega), step1 (by omega)]
          | succ e ihe =>
            intro j hj1 hj2
            obtain ⟨b1, e1, h1⟩ := ihe (j + 1) (by omega) (by omega)
            obtain ⟨hcj, hsj⟩ := hcast j hj2
            have red : ∀ k, impl_isGraph.l1 (k + 1) (l.length : Int) (i : Int) (rd l (i : Int)) l (l.length : Int) (i : Int) (i : Int) (j : Int) l own =
                if ((nr l i).testBit j != (nr l j).testBit i) = true then some false else impl_isGraph.l1 k (l.length : Int) (i : Int) (rd l (i : Int)) l (l.length : Int) (i : Int) (i : Int) ((j + 1 : Nat) : Int) l own := by
              intro k
              have a1 : impl_has.f (rd l (i : Int)) (j : Int) = some ((nr l i).testBit j) := by rw [hc, has_nat _ _ (by omega)]
              have a2 : impl_has.f (rd l (j : Int)) (i : Int) = some ((nr l j).testBit i) := by rw [hcj, has_nat _ _ (by omega)]
              rw [impl_isGraph.l1, if_pos (by omega), a1]
              simp only [Option.bind_some]
              rw [if_pos (by omega), if_pos (by omega), a2]
              simp only [Option.bind_some]
              rw [step1 (by omega)]
            by_cases hq : (nr l i).testBit j = (nr l j).testBit i
            · refine ⟨b1, Ev.succ e1 0 fun k _ => ?_, ?_⟩
              · rw [red, if_neg (by simp [hq])]
              · rw [h1]
                constructor
                · rintro ⟨h2, h3⟩
                  refine ⟨fun j' h4 h5 => ?_, h3⟩
                  by_cases e : j' = j
                  · subst e; exact hq
                  · exact h2 j' (by omega) h5
                · rintro ⟨h2, h3⟩
                  exact ⟨fun j' h4 h5 => h2 j' (by omega) h5, h3⟩
            · refine ⟨false, Ev.konst 1 fun k hk => ?_, ⟨fun h => (by cases h), fun h => absurd (h.1 j (Nat.le_refl _) (by omega)) hq⟩⟩
              obtain ⟨k, rfl⟩ : ∃ m, k = m + 1 := ⟨k - 1, by omega⟩
              rw [red, if_pos (by simp [hq])]
        obtain ⟨b, eb, hbb⟩ := inner i 0 (by omega) (by omega)
        have eb2 : Ev (fun k => impl_isGraph.j1 k (l.length : Int) (i : Int) (rd l (i : Int)) l (l.length : Int) (i : Int) false l own) b := Ev.succ eb 0 fun k _ => by
          rw [impl_isGraph.j1, if_neg (by simp)]
          rfl
        refine ⟨b, Ev.succ eb2 0 fun k _ => ?_, ?_⟩
        · have a1 : impl_has.f (rd l (i : Int)) (i : Int) = some false := by rw [hc, has_nat _ _ (by omega), Bool.eq_false_iff.mpr hb]
          rw [impl_isGraph.l0, if_pos (by omega), if_pos (by omega), if_pos (by omega), whole_nat hl]
          simp only [Option.bind_some]
          rw [hin]
          simp only [Option.bind_some, if_true]
          rw [a1]
          rfl
        · rw [hbb, h0]
          constructor
          · rintro ⟨h1, h2⟩ i' h3 h4
            by_cases e : i' = i
            · subst e; exact ⟨hri.1, hri.2, Bool.eq_false_iff.mpr hb, fun j hj => h1 j (Nat.zero_le _) hj⟩
            · exact h2 i' (by omega) h4
          · intro h
            exact ⟨fun j' _ h2 => (h i (Nat.le_refl _) (by omega)).2.2.2 j' h2, fun i' h1 h2 => h i' (by omega) h2⟩
    · refine ⟨false, Ev.konst 2 fun k hk => ?_, ⟨fun h => (by cases h), fun h => absurd ⟨(h i (Nat.le_refl _) (by omega)).1, (h i (Nat.le_refl _) (by omega)).2.1⟩ hri⟩⟩
      obtain ⟨k, rfl⟩ : ∃ m, k = m + 2 := ⟨k - 2, by omega⟩
      have hin : impl_in.f (rd l (i : Int)) 0 (((2 ^ l.length - 1 : Nat)) : Int) = some false := by
        rw [in_nat, rd_nat]
        congr 1
        rw [Bool.eq_false_iff]
        simp only [ne_eq, Bool.and_eq_true, decide_eq_true_eq]
        omega
      rw [impl_isGraph.l0, if_pos (by omega), if_pos (by omega), if_pos (by omega), whole_nat hl]
      simp only [Option.bind_some]
      rw [hin]
      simp only [Option.bind_some]
      rw [if_neg (by simp), impl_isGraph.j1, if_pos rfl]
theorem size_impl (l : List Int) : impl_isCount.f (l.length : Int) = some (decide (1 ≤ (l.length : Int)) && decide ((l.length : Int) ≤ 16)) := by
  unfold impl_isCount.f; rw [in_nat]; rfl
/-- The program says of a list whether it is a graph. -/
theorem good_impl (l : List Int) (own : Bool) : ∃ b : Bool, (b = true ↔ Good l) ∧ Ev (fun k => impl_isGraph.f k l own) b := by
  by_cases c : (decide (1 ≤ (l.length : Int)) && decide ((l.length : Int) ≤ 16)) = true
  · have hc := c
    simp only [Bool.and_eq_true, decide_eq_true_eq] at hc
    have hl : l.length ≤ 16 := by omega
    obtain ⟨b2, e2, h2⟩ := isGraph_l0 l own hl l.length 0 (by omega) (by omega) (fun i' h => by omega)
    refine ⟨b2, ?_, ?_⟩
    · rw [h2]
      constructor
      · intro h
        have hr : Rng l := fun i hi => ⟨(h i (Nat.zero_le _) hi).1, (h i (Nat.zero_le _) hi).2.1⟩
        refine ⟨by omega, hl, hr, fun i hi j hj hb => ?_⟩
        have h3 := (h i (Nat.zero_le _) hi).2.2
        have h4 := (h j (Nat.zero_le _) hj).2.2
        have hne : i ≠ j := fun e => by subst e; rw [h3.1] at hb; cases hb
        refine ⟨hne, ?_⟩
        rcases Nat.lt_or_ge i j with h5 | h5
        · rw [h4.2 i h5]; exact hb
        · rw [← h3.2 j (by omega)]; exact hb
      · rintro ⟨g1, g2, g3, g4⟩ i _ hi
        refine ⟨(g3 i hi).1, (g3 i hi).2, ?_, fun j hj => ?_⟩
        · rw [Bool.eq_false_iff]; intro hb; exact (g4 i hi i hi hb).1 rfl
        · rw [Bool.eq_iff_iff]
          exact ⟨fun hb => (g4 i hi j (by omega) hb).2, fun hb => (g4 j (by omega) i hi hb).2⟩
    · obtain ⟨K, h⟩ := e2
      refine ⟨K, fun k hk => ?_⟩
      show impl_isGraph.f k l own = _
      unfold impl_isGraph.f
      rw [size_impl, c]
      exact h k hk
  · refine ⟨false, ⟨fun h => (by cases h), fun h => absurd (by simp only [Bool.and_eq_true, decide_eq_true_eq]; have := h.1; have := h.2.1; omega) c⟩, ⟨0, fun k _ => ?_⟩⟩
    show impl_isGraph.f k l own = _
    unfold impl_isGraph.f
    rw [size_impl, Bool.eq_false_iff.mpr c]
    rfl
end Go.Proofs.Ytfhbkgbhogndfaa.Gr
