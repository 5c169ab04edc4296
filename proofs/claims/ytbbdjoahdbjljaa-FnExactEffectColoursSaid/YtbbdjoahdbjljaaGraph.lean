/- What 'is it a graph' answers on both sides. -/
import Derived.Test.YtbbdjoahdbjljaaBits
import Derived.Test.YtbbdjoahdbjljaaAll
import Derived.Test.YtbbdjoahdbjljaaPx1
import Derived.Test.YtbbdjoahdbjljaaPx2
namespace Go.Proofs.Ytbbdjoahdbjljaa.Gr
open Go.RowKit Go.Proofs.Ytbbdjoahdbjljaa.P Go.Proofs.Ytbbdjoahdbjljaa.Bt Go.Proofs.Ytbbdjoahdbjljaa.Lw Go.Proofs.YtbbdjoahdbjljaaW.PrintWords Go.Proofs.YtbbdjoahdbjljaaW.PrintLast Go.Proofs.YtbbdjoahdbjljaaW.PrintMore
set_option linter.unusedVariables false
set_option linter.unusedSimpArgs false

theorem Ev.succ {α : Type} {f g : Nat → Option α} {r : α} (h : Ev g r) (K : Nat) (hs : ∀ k, K ≤ k → f (k + 1) = g k) : Ev f r := by
  obtain ⟨K1, h1⟩ := h
  refine ⟨K + K1 + 1, fun k hk => ?_⟩
  obtain ⟨k, rfl⟩ : ∃ m, k = m + 1 := ⟨k - 1, by omega⟩
  rw [hs k (by omega)]
  exact h1 k (by omega)
theorem Ev.konst {α : Type} {f : Nat → Option α} {r : α} (K : Nat) (hs : ∀ k, K ≤ k → f k = some r) : Ev f r := ⟨K, hs⟩
theorem Ev.unique {α : Type} {f : Nat → Option α} {r q : α} (h : Ev f r) (h' : Ev f q) : r = q := by
  obtain ⟨K, a⟩ := h
  obtain ⟨K', b⟩ := h'
  have h1 := a (K + K') (by omega)
  rw [b (K + K') (by omega)] at h1
  exact (Option.some.inj h1).symm

/-- The neighbours of i, as a natural number. -/
def nr (l : List Int) (i : Nat) : Nat := (l.getD i 0).toNat
/-- No loop, and whoever is a neighbour has one. -/
def OkE (l : List Int) (i j : Nat) : Prop := (nr l i).testBit j = true → i ≠ j ∧ (nr l j).testBit i = true
def Rng (l : List Int) : Prop := ∀ i, i < l.length → 0 ≤ l.getD i 0 ∧ l.getD i 0 < 2 ^ l.length
def Good (l : List Int) : Prop := 1 ≤ l.length ∧ l.length ≤ 16 ∧ Rng l ∧ ∀ i, i < l.length → ∀ j, j < l.length → OkE l i j
theorem pow16 {n : Nat} (h : n ≤ 16) : (2 : Nat) ^ n ≤ 65536 := Nat.le_trans (Nat.pow_le_pow_right (by omega) h) (by decide)
theorem nr_cast {l : List Int} (h : Rng l) {i : Nat} (hi : i < l.length) : l.getD i 0 = (nr l i : Int) := by
  have := (h i hi).1
  unfold nr; omega
theorem nr_lt {l : List Int} (h : Rng l) {i : Nat} (hi : i < l.length) : nr l i < 2 ^ l.length := by
  have := h i hi
  have e : ((2 ^ l.length : Nat) : Int) = (2 : Int) ^ l.length := by simp
  unfold nr; omega
theorem nr_small {l : List Int} (hl : l.length ≤ 16) (h : Rng l) {i : Nat} (hi : i < l.length) : nr l i < 65536 := Nat.lt_of_lt_of_le (nr_lt h hi) (pow16 hl)
theorem grIn_nat (s i : Nat) (hs : s < 9223372036854775808) : spec_grIn.f (s : Int) (i : Int) = some (s.testBit i) := by
  unfold spec_grIn.f; rw [if_pos (by omega), grIn_val hs]
theorem has_nat (s i : Nat) (hs : s < 9223372036854775808) : impl_has.f (s : Int) (i : Int) = some (s.testBit i) := by
  unfold impl_has.f; rw [if_pos (by omega), has_val hs]
theorem in_nat (a b c : Int) : impl_in.f a b c = some (decide (b ≤ a) && decide (a ≤ c)) := by
  unfold impl_in.f
  by_cases h : b ≤ a
  · rw [if_pos h]; simp [h]
  · rw [if_neg h]; simp [h]
theorem shl1 {n : Nat} (h : n ≤ 16) : wrap64 (shl .i64 1 (n : Int) - 1) = ((2 ^ n - 1 : Nat) : Int) := by
  have h2 := pow16 h
  have h3 := Nat.two_pow_pos n
  rw [show (1 : Int) = ((1 : Nat) : Int) from rfl, shl_nat (by omega) (by omega), Nat.shiftLeft_eq, Nat.one_mul, Bt.wrap_id (by omega) (by omega)]
  omega
theorem whole_nat {n : Nat} (h : n ≤ 16) : impl_whole.f (n : Int) = some ((2 ^ n - 1 : Nat) : Int) := by
  unfold impl_whole.f
  rw [if_pos (by omega), shl1 h]
theorem step1 {i : Nat} (h : i ≤ 1000) : wrap64 ((i : Int) + 1) = ((i + 1 : Nat) : Int) := by rw [Bt.wrap_id (by omega) (by omega)]; omega

section
variable (l : List Int) (own : Bool) (hl : l.length ≤ 16) (hr : Rng l)
include hl hr
theorem grGood_l0 : ∀ (d i : Nat), l.length - i = d → i ≤ l.length →
    ∃ b : Bool, Ev (fun k => spec_grGood.l0 k l (l.length : Int) (i : Int) l own) b ∧ (b = true ↔ ∀ i', i ≤ i' → i' < l.length → ∀ j, j < l.length → OkE l i' j) := by
  intro d
  induction d with
  | zero =>
    intro i hd hi
    refine ⟨true, Ev.konst 1 fun k hk => ?_, ⟨fun _ i' h1 h2 => by omega, fun _ => rfl⟩⟩
    obtain ⟨k, rfl⟩ : ∃ m, k = m + 1 := ⟨k - 1, by omega⟩
    rw [spec_grGood.l0, if_neg (by omega)]
  | succ d ih =>
    intro i hd hi
    obtain ⟨b0, e0, h0⟩ := ih (i + 1) (by omega) (by omega)
    have inner : ∀ (e j : Nat), l.length - j = e → j ≤ l.length →
        ∃ b : Bool, Ev (fun k => spec_grGood.l1 k (i : Int) (rd l (i : Int)) l (l.length : Int) (i : Int) (l.length : Int) (j : Int) l own) b ∧ (b = true ↔ (∀ j', j ≤ j' → j' < l.length → OkE l i j') ∧ b0 = true) := by
      intro e
      induction e with
      | zero =>
        intro j hj1 hj2
        refine ⟨b0, Ev.succ e0 0 fun k _ => ?_, ⟨fun h => ⟨fun j' h1 h2 => by omega, h⟩, fun h => h.2⟩⟩
        rw [spec_grGood.l1, if_neg (by omega), step1 (by omega)]
      | succ e ihe =>
        intro j hj1 hj2
        obtain ⟨b1, e1, h1⟩ := ihe (j + 1) (by omega) (by omega)
        have hri : rd l (i : Int) = (nr l i : Int) := by rw [rd_nat]; exact nr_cast hr (by omega)
        have hrj : rd l (j : Int) = (nr l j : Int) := by rw [rd_nat]; exact nr_cast hr (by omega)
        have hsi := nr_small hl hr (i := i) (by omega)
        have hsj := nr_small hl hr (i := j) (by omega)
        by_cases hb : (nr l i).testBit j = true
        · by_cases hij : i = j
          · refine ⟨false, Ev.konst 1 fun k hk => ?_, ⟨fun h => (by cases h), fun h => absurd hij (h.1 j (Nat.le_refl _) (by omega) hb).1⟩⟩
            obtain ⟨k, rfl⟩ : ∃ m, k = m + 1 := ⟨k - 1, by omega⟩
            rw [spec_grGood.l1, if_pos (by omega), hri, grIn_nat _ _ (by omega), hb]
            simp only [Option.bind_some, if_true]
            rw [if_pos (by omega)]
          · by_cases hb2 : (nr l j).testBit i = true
            · refine ⟨b1, Ev.succ e1 0 fun k _ => ?_, ?_⟩
              · rw [spec_grGood.l1, if_pos (by omega), hrj, grIn_nat (nr l j) i (by omega), hb2, hri, grIn_nat (nr l i) j (by omega), hb]
                simp only [Option.bind_some, if_true]
                rw [if_neg (by omega), if_pos (by omega), if_pos (by omega), step1 (by omega), ← hri]
              · rw [h1]
                constructor
                · rintro ⟨h2, h3⟩
                  refine ⟨fun j' h4 h5 => ?_, h3⟩
                  by_cases e : j' = j
                  · subst e; exact fun _ => ⟨hij, hb2⟩
                  · exact h2 j' (by omega) h5
                · rintro ⟨h2, h3⟩
                  exact ⟨fun j' h4 h5 => h2 j' (by omega) h5, h3⟩
            · refine ⟨false, Ev.konst 1 fun k hk => ?_, ⟨fun h => (by cases h), fun h => absurd (h.1 j (Nat.le_refl _) (by omega) hb).2 hb2⟩⟩
              obtain ⟨k, rfl⟩ : ∃ m, k = m + 1 := ⟨k - 1, by omega⟩
              rw [spec_grGood.l1, if_pos (by omega), hrj, grIn_nat (nr l j) i (by omega), Bool.eq_false_iff.mpr hb2, hri, grIn_nat (nr l i) j (by omega), hb]
              simp only [Option.bind_some, if_true]
              rw [if_neg (by omega), if_pos (by omega), if_pos (by omega), if_neg (by simp)]
        · refine ⟨b1, Ev.succ e1 0 fun k _ => ?_, ?_⟩
          · rw [spec_grGood.l1, if_pos (by omega), hri, grIn_nat _ _ (by omega), Bool.eq_false_iff.mpr hb]
            simp only [Option.bind_some]
            rw [if_neg (by simp), step1 (by omega)]
          · rw [h1]
            constructor
            · rintro ⟨h2, h3⟩
              refine ⟨fun j' h4 h5 => ?_, h3⟩
              by_cases e : j' = j
              · subst e; exact fun h => absurd h hb
              · exact h2 j' (by omega) h5
            · rintro ⟨h2, h3⟩
              exact ⟨fun j' h4 h5 => h2 j' (by omega) h5, h3⟩
    obtain ⟨b, eb, hb⟩ := inner l.length 0 (by omega) (by omega)
    refine ⟨b, Ev.succ eb 0 fun k _ => ?_, ?_⟩
    · rw [spec_grGood.l0, if_pos (by omega), if_pos (by omega), if_pos (by omega)]
      rfl
    · rw [hb, h0]
      constructor
      · rintro ⟨h1, h2⟩ i' h3 h4 j h5
        by_cases e : i' = i
        · subst e; exact h1 j (Nat.zero_le _) h5
        · exact h2 i' (by omega) h4 j h5
      · intro h
        exact ⟨fun j' _ h2 => h i (Nat.le_refl _) (by omega) j' h2, fun i' h1 h2 => h i' (by omega) h2⟩
end

/-- The program's side: the ranges are asked one by one, and each pair once. -/
def Im (l : List Int) (i : Nat) : Prop := 0 ≤ l.getD i 0 ∧ l.getD i 0 < 2 ^ l.length ∧ (nr l i).testBit i = false ∧ ∀ j, j < i → (nr l i).testBit j = (nr l j).testBit i
theorem isGraph_l0 (l : List Int) (own : Bool) (hl : l.length ≤ 16) : ∀ (d i : Nat), l.length - i = d → i ≤ l.length → (∀ i', i' < i → 0 ≤ l.getD i' 0 ∧ l.getD i' 0 < 2 ^ l.length) →
    ∃ b : Bool, Ev (fun k => impl_isGraph.l0 k (l.length : Int) l (l.length : Int) (i : Int) l own) b ∧ (b = true ↔ ∀ i', i ≤ i' → i' < l.length → Im l i') := by
  have hp := pow16 hl
  have ep : ((2 ^ l.length : Nat) : Int) = (2 : Int) ^ l.length := by simp
  have hp0 := Nat.two_pow_pos l.length
  intro d
  induction d with
  | zero =>
    intro i hd hi _
    refine ⟨true, Ev.konst 1 fun k hk => ?_, ⟨fun _ i' h1 h2 => by omega, fun _ => rfl⟩⟩
    obtain ⟨k, rfl⟩ : ∃ m, k = m + 1 := ⟨k - 1, by omega⟩
    rw [impl_isGraph.l0, if_neg (by omega)]
  | succ d ih =>
    intro i hd hi hpre
    by_cases hri : 0 ≤ l.getD i 0 ∧ l.getD i 0 < 2 ^ l.length
    · obtain ⟨b0, e0, h0⟩ := ih (i + 1) (by omega) (by omega) (fun i' h => by
        by_cases e : i' = i
        · subst e; exact hri
        · exact hpre i' (by omega))
      have hcast : ∀ j, j ≤ i → rd l (j : Int) = (nr l j : Int) ∧ nr l j < 65536 := by
        intro j hj
        have : 0 ≤ l.getD j 0 ∧ l.getD j 0 < 2 ^ l.length := by
          by_cases e : j = i
          · subst e; exact hri
          · exact hpre j (by omega)
        rw [rd_nat]
        unfold nr
        omega
      obtain ⟨hc, hs⟩ := hcast i (Nat.le_refl _)
      have hin : impl_in.f (rd l (i : Int)) 0 (((2 ^ l.length - 1 : Nat)) : Int) = some true := by
        rw [in_nat, rd_nat]
        congr 1
        simp only [Bool.and_eq_true, decide_eq_true_eq]
        omega
      by_cases hb : (nr l i).testBit i = true
      · refine ⟨false, Ev.konst 2 fun k hk => ?_, ⟨fun h => (by cases h), fun h => by have := (h i (Nat.le_refl _) (by omega)).2.2.1; rw [hb] at this; cases this⟩⟩
        obtain ⟨k, rfl⟩ : ∃ m, k = m + 2 := ⟨k - 2, by omega⟩
        rw [impl_isGraph.l0, if_pos (by omega), if_pos (by omega), if_pos (by omega), whole_nat hl]
        simp only [Option.bind_some]
        rw [hin]
        simp only [Option.bind_some, if_true]
        rw [hc, has_nat _ _ (by omega), hb]
        simp only [Option.bind_some]
        rw [impl_isGraph.j1, if_pos rfl]
      · have inner : ∀ (e j : Nat), i - j = e → j ≤ i →
            ∃ b : Bool, Ev (fun k => impl_isGraph.l1 k (l.length : Int) (i : Int) (rd l (i : Int)) l (l.length : Int) (i : Int) (i : Int) (j : Int) l own) b ∧ (b = true ↔ (∀ j', j ≤ j' → j' < i → (nr l i).testBit j' = (nr l j').testBit i) ∧ b0 = true) := by
          intro e
          induction e with
          | zero =>
            intro j hj1 hj2
            refine ⟨b0, Ev.succ e0 0 fun k _ => ?_, ⟨fun h => ⟨fun j' h1 h2 => by omega, h⟩, fun h => h.2⟩⟩
            rw [impl_isGraph.l1, if_neg (by omega), step1 (by omega)]
          | succ e ihe =>
            intro j hj1 hj2
            obtain ⟨b1, e1, h1⟩ := ihe (j + 1) (by omega) (by omega)
            obtain ⟨hcj, hsj⟩ := hcast j hj2
            have red : ∀ k, impl_isGraph.l1 (k + 1) (l.length : Int) (i : Int) (rd l (i : Int)) l (l.length : Int) (i : Int) (i : Int) (j : Int) l own =
                if ((nr l i).testBit j != (nr l j).testBit i) = true then some false else impl_isGraph.l1 k (l.length : Int) (i : Int) (rd l (i : Int)) l (l.length : Int) (i : Int) (i : Int) ((j + 1 : Nat) : Int) l own := by
              intro k
              have a1 : impl_has.f (rd l (i : Int)) (j : Int) = some ((nr l i).testBit j) := by rw [hc, has_nat _ _ (by omega)]
              have a2 : impl_has.f (rd l (j : Int)) (i : Int) = some ((nr l j).testBit i) := by rw [hcj, has_nat _ _ (by omega)]
              rw [impl_isGraph.l1, if_pos (by omega), a1]
              simp only [Option.bind_some]
              rw [if_pos (by omega), if_pos (by omega), a2]
              simp only [Option.bind_some]
              rw [step1 (by omega)]
            by_cases hq : (nr l i).testBit j = (nr l j).testBit i
            · refine ⟨b1, Ev.succ e1 0 fun k _ => ?_, ?_⟩
              · rw [red, if_neg (by simp [hq])]
              · rw [h1]
                constructor
                · rintro ⟨h2, h3⟩
                  refine ⟨fun j' h4 h5 => ?_, h3⟩
                  by_cases e : j' = j
                  · subst e; exact hq
                  · exact h2 j' (by omega) h5
                · rintro ⟨h2, h3⟩
                  exact ⟨fun j' h4 h5 => h2 j' (by omega) h5, h3⟩
            · refine ⟨false, Ev.konst 1 fun k hk => ?_, ⟨fun h => (by cases h), fun h => absurd (h.1 j (Nat.le_refl _) (by omega)) hq⟩⟩
              obtain ⟨k, rfl⟩ : ∃ m, k = m + 1 := ⟨k - 1, by omega⟩
              rw [red, if_pos (by simp [hq])]
        obtain ⟨b, eb, hbb⟩ := inner i 0 (by omega) (by omega)
        have eb2 : Ev (fun k => impl_isGraph.j1 k (l.length : Int) (i : Int) (rd l (i : Int)) l (l.length : Int) (i : Int) false l own) b := Ev.succ eb 0 fun k _ => by
          rw [impl_isGraph.j1, if_neg (by simp)]
          rfl
        refine ⟨b, Ev.succ eb2 0 fun k _ => ?_, ?_⟩
        · have a1 : impl_has.f (rd l (i : Int)) (i : Int) = some false := by rw [hc, has_nat _ _ (by omega), Bool.eq_false_iff.mpr hb]
          rw [impl_isGraph.l0, if_pos (by omega), if_pos (by omega), if_pos (by omega), whole_nat hl]
          simp only [Option.bind_some]
          rw [hin]
          simp only [Option.bind_some, if_true]
          rw [a1]
          rfl
        · rw [hbb, h0]
          constructor
          · rintro ⟨h1, h2⟩ i' h3 h4
            by_cases e : i' = i
            · subst e; exact ⟨hri.1, hri.2, Bool.eq_false_iff.mpr hb, fun j hj => h1 j (Nat.zero_le _) hj⟩
            · exact h2 i' (by omega) h4
          · intro h
            exact ⟨fun j' _ h2 => (h i (Nat.le_refl _) (by omega)).2.2.2 j' h2, fun i' h1 h2 => h i' (by omega) h2⟩
    · refine ⟨false, Ev.konst 2 fun k hk => ?_, ⟨fun h => (by cases h), fun h => absurd ⟨(h i (Nat.le_refl _) (by omega)).1, (h i (Nat.le_refl _) (by omega)).2.1⟩ hri⟩⟩
      obtain ⟨k, rfl⟩ : ∃ m, k = m + 2 := ⟨k - 2, by omega⟩
      have hin : impl_in.f (rd l (i : Int)) 0 (((2 ^ l.length - 1 : Nat)) : Int) = some false := by
        rw [in_nat, rd_nat]
        congr 1
        rw [Bool.eq_false_iff]
        simp only [ne_eq, Bool.and_eq_true, decide_eq_true_eq]
        omega
      rw [impl_isGraph.l0, if_pos (by omega), if_pos (by omega), if_pos (by omega), whole_nat hl]
      simp only [Option.bind_some]
      rw [hin]
      simp only [Option.bind_some]
      rw [if_neg (by simp), impl_isGraph.j1, if_pos rfl]
theorem size_spec (l : List Int) : spec_grSize.f (l.length : Int) = some (decide (1 ≤ (l.length : Int)) && decide ((l.length : Int) ≤ 16)) := by
  unfold spec_grSize.f; rw [l1In_val]; rfl
theorem size_impl (l : List Int) : impl_isCount.f (l.length : Int) = some (decide (1 ≤ (l.length : Int)) && decide ((l.length : Int) ≤ 16)) := by
  unfold impl_isCount.f; rw [in_nat]; rfl
/-- Both say of a list whether it is a graph's. -/
theorem good_both (l : List Int) (own : Bool) (hlen : l.length ≤ 4611686018427387904) : ∃ b : Bool, (b = true ↔ Good l) ∧ Ev (fun k => spec_grGood.f k l own) b ∧ Ev (fun k => impl_isGraph.f k l own) b := by
  by_cases c : (decide (1 ≤ (l.length : Int)) && decide ((l.length : Int) ≤ 16)) = true
  · have hc := c
    simp only [Bool.and_eq_true, decide_eq_true_eq] at hc
    have hl : l.length ≤ 16 := by omega
    obtain ⟨b2, e2, h2⟩ := isGraph_l0 l own hl l.length 0 (by omega) (by omega) (fun i' h => by omega)
    have hp0 := Nat.two_pow_pos l.length
    have ep : ((2 ^ l.length : Nat) : Int) = (2 : Int) ^ l.length := by simp
    have i2 : Ev (fun k => impl_isGraph.f k l own) b2 := by
      obtain ⟨K, h⟩ := e2
      refine ⟨K, fun k hk => ?_⟩
      show impl_isGraph.f k l own = _
      unfold impl_isGraph.f
      rw [size_impl, c]
      exact h k hk
    have hI : b2 = true ↔ Good l := by
      rw [h2]
      constructor
      · intro h
        have hr : Rng l := fun i hi => ⟨(h i (Nat.zero_le _) hi).1, (h i (Nat.zero_le _) hi).2.1⟩
        refine ⟨by omega, hl, hr, fun i hi j hj hb => ?_⟩
        have h3 := (h i (Nat.zero_le _) hi).2.2
        have h4 := (h j (Nat.zero_le _) hj).2.2
        have hne : i ≠ j := fun e => by subst e; rw [h3.1] at hb; cases hb
        refine ⟨hne, ?_⟩
        rcases Nat.lt_or_ge i j with h5 | h5
        · rw [h4.2 i h5]; exact hb
        · rw [← h3.2 j (by omega)]; exact hb
      · rintro ⟨g1, g2, g3, g4⟩ i _ hi
        refine ⟨(g3 i hi).1, (g3 i hi).2, ?_, fun j hj => ?_⟩
        · rw [Bool.eq_false_iff]; intro hb; exact (g4 i hi i hi hb).1 rfl
        · rw [Bool.eq_iff_iff]
          exact ⟨fun hb => (g4 i hi j (by omega) hb).2, fun hb => (g4 j (by omega) i hi hb).2⟩
    have hall := l1All_at l 0 ((2 ^ l.length - 1 : Nat) : Int) hlen
    by_cases a : (l.all fun x => decide (0 ≤ x) && decide (x ≤ ((2 ^ l.length - 1 : Nat) : Int))) = true
    · have hr : Rng l := by
        intro i hi
        simp only [List.all_eq_true, Bool.and_eq_true, decide_eq_true_eq] at a
        have := a (l.getD i 0) (by rw [List.getD_eq_getElem?_getD, List.getElem?_eq_getElem hi]; exact List.getElem_mem _)
        omega
      obtain ⟨b1, e1, h1⟩ := grGood_l0 l own hl hr l.length 0 (by omega) (by omega)
      have hS : b1 = true ↔ Good l := by
        rw [h1]
        exact ⟨fun h => ⟨by omega, hl, hr, fun i hi j hj => h i (Nat.zero_le _) hi j hj⟩, fun h i _ hi j hj => h.2.2.2 i hi j hj⟩
      have e : b1 = b2 := by rw [Bool.eq_iff_iff, hS, hI]
      subst e
      refine ⟨b1, hS, ?_, i2⟩
      have e1' : Ev (fun k => spec_grGood.j0 k false l own) b1 := Ev.succ e1 0 fun k _ => by
        rw [spec_grGood.j0, if_neg (by simp)]
        rfl
      obtain ⟨K, h⟩ := e1'
      refine ⟨K + l.length + 1, fun k hk => ?_⟩
      show spec_grGood.f k l own = _
      unfold spec_grGood.f
      rw [size_spec, c, shl1 hl]
      simp only [Option.bind_some, if_true]
      rw [hall k (by omega), a]
      simp only [Option.bind_some, Bool.not_true]
      exact h k (by omega)
    · refine ⟨b2, hI, ?_, i2⟩
      have hn : ¬ Good l := by
        rintro ⟨_, _, g3, _⟩
        apply a
        simp only [List.all_eq_true, Bool.and_eq_true, decide_eq_true_eq]
        intro x hx
        obtain ⟨i, hi, rfl⟩ := List.getElem_of_mem hx
        have := g3 i hi
        rw [List.getD_eq_getElem?_getD, List.getElem?_eq_getElem hi] at this
        simp only [Option.getD_some] at this
        omega
      have : b2 = false := by rw [Bool.eq_false_iff]; exact fun h => hn (hI.1 h)
      subst this
      refine ⟨l.length + 2, fun k hk => ?_⟩
      obtain ⟨k, rfl⟩ : ∃ m, k = m + 1 := ⟨k - 1, by omega⟩
      show spec_grGood.f (k + 1) l own = _
      unfold spec_grGood.f
      rw [size_spec, c, shl1 hl]
      simp only [Option.bind_some, if_true]
      rw [hall (k + 1) (by omega), Bool.eq_false_iff.mpr a]
      simp only [Option.bind_some, Bool.not_false]
      rw [spec_grGood.j0, if_pos rfl]
  · refine ⟨false, ⟨fun h => (by cases h), fun h => absurd (by simp only [Bool.and_eq_true, decide_eq_true_eq]; have := h.1; have := h.2.1; omega) c⟩, ⟨1, fun k hk => ?_⟩, ⟨0, fun k _ => ?_⟩⟩
    · obtain ⟨k, rfl⟩ : ∃ m, k = m + 1 := ⟨k - 1, by omega⟩
      show spec_grGood.f (k + 1) l own = _
      unfold spec_grGood.f
      rw [size_spec, Bool.eq_false_iff.mpr c]
      simp only [Option.bind_some]
      rw [if_neg (by simp), spec_grGood.j0, if_pos rfl]
    · show impl_isGraph.f k l own = _
      unfold impl_isGraph.f
      rw [size_impl, Bool.eq_false_iff.mpr c]
      rfl
end Go.Proofs.Ytbbdjoahdbjljaa.Gr
