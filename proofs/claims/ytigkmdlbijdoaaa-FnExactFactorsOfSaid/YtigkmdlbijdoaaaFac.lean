/- The factors of a polynomial over two elements, in plain Lean. -/
import Derived.Test.YtigkmdlbijdoaaaPoly
namespace Go.Proofs.Ytigkmdlbijdoaaa.Gf
set_option linter.unusedVariables false
set_option linter.unusedSimpArgs false

/-- no divisor from 2 on below q -/
def NoDv (p q : Nat) : Prop := ∀ r, 2 ≤ r → r < q → ¬ Dv r p
def fst (p : Nat) : Nat → Nat → Nat
  | 0, _ => p
  | d + 1, q => if 2 * bl q ≤ bl p + 1 then (if rest p q = 0 then q else fst p d (q + 1)) else p
/-- the least divisor from 2 on -/
def ld (p : Nat) : Nat := fst p p 2
theorem bl_two {n : Nat} (h : 2 ≤ n) : 2 ≤ bl n := by
  rcases Nat.lt_or_ge (bl n) 2 with h1 | h1
  · have := bl_le_iff.1 (show bl n ≤ 1 by omega); omega
  · exact h1
theorem two_of_bl {n : Nat} (h : 2 ≤ bl n) : 2 ≤ n := by
  rcases Nat.lt_or_ge n 2 with h1 | h1
  · have := bl_le_iff.2 (show n < 2 ^ 1 by omega); omega
  · exact h1
theorem lt_of_bl_lt {a b : Nat} (h : bl a < bl b) : a < b := by
  rcases Nat.lt_or_ge a b with h1 | h1
  · exact h1
  · have := bl_mono h1; omega
theorem NoDv.two (p : Nat) : NoDv p 2 := fun r h1 h2 => by omega
theorem NoDv.next {p q : Nat} (h : NoDv p q) (hq : ¬ Dv q p) : NoDv p (q + 1) := fun r h1 h2 hd => by
  rcases Nat.lt_or_ge r q with h3 | h3
  · exact h r h1 h3 hd
  · obtain rfl : r = q := by omega
    exact hq hd
theorem NoDv.part {p q a b : Nat} (h : NoDv p q) (e : mul a b = p) : NoDv a q := fun r h1 h2 hd => h r h1 h2 (e ▸ hd.mul_right b)
/-- A polynomial without small divisors has none but itself. -/
theorem NoDv.whole {p q : Nat} (h : NoDv p q) (hp : 2 ≤ bl p) (hb : bl p + 1 < 2 * bl q) : NoDv p p := fun r h1 h2 hd => by
  obtain ⟨s, hs⟩ := hd
  have hp0 : p ≠ 0 := fun e => by rw [e, bl_zero] at hp; omega
  have hr0 : r ≠ 0 := by omega
  have hs0 : s ≠ 0 := fun e => hp0 (by rw [← hs, e, zero_mul])
  have hbl := bl_mul hs0 hr0
  rw [hs] at hbl
  have hs1 : s ≠ 1 := fun e => by rw [e, one_mul] at hs; omega
  have hs2 : 2 ≤ s := by omega
  rcases Nat.lt_or_ge (bl r) (bl q) with h3 | h3
  · exact h r h1 (lt_of_bl_lt h3) ⟨s, hs⟩
  · exact h s hs2 (lt_of_bl_lt (by omega)) ⟨r, by rw [mul_comm]; exact hs⟩
theorem fst_spec {p : Nat} (hp : 2 ≤ bl p) : ∀ (d q : Nat), 2 ≤ q → p ≤ d + q → NoDv p q → Dv (fst p d q) p ∧ 2 ≤ fst p d q ∧ NoDv p (fst p d q) := by
  intro d
  induction d with
  | zero =>
    intro q hq hd h
    exact ⟨Dv.refl p, two_of_bl hp, fun r h1 h2 => h r h1 (by have h3 : r < p := h2; omega)⟩
  | succ d ih =>
    intro q hq hd h
    have hq0 : q ≠ 0 := by omega
    simp only [fst]
    by_cases h1 : 2 * bl q ≤ bl p + 1
    · rw [if_pos h1]
      by_cases h2 : rest p q = 0
      · rw [if_pos h2]
        exact ⟨(rest_zero_iff hq0).1 h2, hq, h⟩
      · rw [if_neg h2]
        exact ih (q + 1) (by omega) (by omega) (h.next fun hd => h2 ((rest_zero_iff hq0).2 hd))
    · rw [if_neg h1]
      exact ⟨Dv.refl p, two_of_bl hp, h.whole hp (by omega)⟩
theorem ld_spec {p : Nat} (hp : 2 ≤ bl p) : Dv (ld p) p ∧ 2 ≤ ld p ∧ NoDv p (ld p) := fst_spec hp p 2 (by omega) (by omega) (NoDv.two p)
theorem ld_unique {p q : Nat} (hp : 2 ≤ bl p) (hq : 2 ≤ q) (hd : Dv q p) (hn : NoDv p q) : ld p = q := by
  obtain ⟨h1, h2, h3⟩ := ld_spec hp
  rcases Nat.lt_trichotomy (ld p) q with h | h | h
  · exact absurd h1 (hn _ h2 h)
  · exact h
  · exact absurd hd (h3 _ hq h)
theorem quot_mul {p q : Nat} (hq : q ≠ 0) (hd : Dv q p) : mul (divMod p q).1 q = p := by
  have h := (divMod_spec hq p).1
  have h2 : (divMod p q).2 = 0 := (rest_zero_iff hq).2 hd
  rw [h2, Nat.xor_zero] at h
  exact h
theorem quot_bl {p q : Nat} (hp : p ≠ 0) (hq : 2 ≤ bl q) (hd : Dv q p) : bl (divMod p q).1 < bl p ∧ (divMod p q).1 ≠ 0 ∧ bl (divMod p q).1 + bl q = bl p + 1 := by
  have hq0 : q ≠ 0 := fun e => by rw [e, bl_zero] at hq; omega
  have h := quot_mul hq0 hd
  have h0 : (divMod p q).1 ≠ 0 := fun e => hp (by rw [← h, e, zero_mul])
  have := bl_mul h0 hq0
  rw [h] at this
  exact ⟨by omega, h0, by omega⟩
/-- the factors, from the least on -/
def facs (p : Nat) : List Nat := if h : 2 ≤ bl p then ld p :: facs (divMod p (ld p)).1 else []
termination_by bl p
decreasing_by
  have hs := ld_spec h
  exact (quot_bl (fun e => by rw [e, bl_zero] at h; omega) (bl_two hs.2.1) hs.1).1
theorem facs_nil {p : Nat} (h : bl p < 2) : facs p = [] := by rw [facs, dif_neg (by omega)]
theorem facs_cons {p : Nat} (h : 2 ≤ bl p) : facs p = ld p :: facs (divMod p (ld p)).1 := by rw [facs, dif_pos h]
theorem divMod_self {p : Nat} (hp : p ≠ 0) : (divMod p p).1 = 1 := by
  have := divMod_unique hp (p := p) (s := 1) (r := 0) (by rw [one_mul, Nat.xor_zero]) (by rw [bl_zero]; exact Nat.pos_of_ne_zero fun e => hp (bl_eq_zero.1 e))
  rw [this]
theorem facs_one {p : Nat} (hp : 2 ≤ bl p) (h : ld p = p) : facs p = [p] := by
  rw [facs_cons hp, h, divMod_self (fun e => by rw [e, bl_zero] at hp; omega), facs_nil (by decide)]
theorem facs_len_one {p : Nat} (hp : 2 ≤ bl p) : (facs p).length = 1 ↔ ld p = p := by
  constructor
  · intro h
    obtain ⟨h1, h2, h3⟩ := ld_spec hp
    have hp0 : p ≠ 0 := fun e => by rw [e, bl_zero] at hp; omega
    have hq := quot_bl hp0 (bl_two h2) h1
    rw [facs_cons hp, List.length_cons] at h
    have h4 : facs (divMod p (ld p)).1 = [] := List.eq_nil_of_length_eq_zero (by omega)
    have h5 : bl (divMod p (ld p)).1 < 2 := by
      rcases Nat.lt_or_ge (bl (divMod p (ld p)).1) 2 with h6 | h6
      · exact h6
      · rw [facs_cons h6] at h4; cases h4
    have h6 : (divMod p (ld p)).1 = 1 := by
      rcases bl_le_one (show bl (divMod p (ld p)).1 ≤ 1 by omega) with h | h
      · exact absurd h hq.2.1
      · exact h
    have h7 := quot_mul (show ld p ≠ 0 by omega) h1
    rw [h6, one_mul] at h7
    exact h7
  · intro h; rw [facs_one hp h]; rfl
theorem facs_ge (n : Nat) : ∀ (p : Nat), bl p ≤ n → p ≠ 0 → ∀ q, NoDv p q → ∀ x ∈ facs p, q ≤ x := by
  induction n with
  | zero => intro p hp h0; exact absurd (bl_eq_zero.1 (by omega)) h0
  | succ n ih =>
    intro p hp h0 q hq x hx
    rcases Nat.lt_or_ge (bl p) 2 with h | h
    · rw [facs_nil h] at hx; cases hx
    · obtain ⟨h1, h2, h3⟩ := ld_spec h
      have hqb := quot_bl h0 (bl_two h2) h1
      rw [facs_cons h] at hx
      rcases List.mem_cons.1 hx with rfl | hx
      · rcases Nat.lt_or_ge (ld p) q with h4 | h4
        · exact absurd h1 (hq _ h2 h4)
        · exact h4
      · exact ih _ (by omega) hqb.2.1 q (hq.part (quot_mul (by omega) h1)) x hx
theorem facs_sorted (n : Nat) : ∀ (p : Nat), bl p ≤ n → p ≠ 0 → (facs p).Pairwise (· ≤ ·) := by
  induction n with
  | zero => intro p hp h0; exact absurd (bl_eq_zero.1 (by omega)) h0
  | succ n ih =>
    intro p hp h0
    rcases Nat.lt_or_ge (bl p) 2 with h | h
    · rw [facs_nil h]; exact List.Pairwise.nil
    · obtain ⟨h1, h2, h3⟩ := ld_spec h
      have hqb := quot_bl h0 (bl_two h2) h1
      rw [facs_cons h]
      refine List.pairwise_cons.2 ⟨fun x hx => facs_ge _ _ (Nat.le_refl _) hqb.2.1 (ld p) (h3.part (quot_mul (by omega) h1)) x hx, ih _ (by omega) hqb.2.1⟩
def prod : List Nat → Nat
  | [] => 1
  | x :: l => mul x (prod l)
theorem facs_prod (n : Nat) : ∀ (p : Nat), bl p ≤ n → p ≠ 0 → prod (facs p) = p := by
  induction n with
  | zero => intro p hp h0; exact absurd (bl_eq_zero.1 (by omega)) h0
  | succ n ih =>
    intro p hp h0
    rcases Nat.lt_or_ge (bl p) 2 with h | h
    · rw [facs_nil h]
      rcases bl_le_one (show bl p ≤ 1 by omega) with e | e
      · exact absurd e h0
      · rw [e]; rfl
    · obtain ⟨h1, h2, h3⟩ := ld_spec h
      have hqb := quot_bl h0 (bl_two h2) h1
      rw [facs_cons h, prod, ih _ (by omega) hqb.2.1, mul_comm, quot_mul (by omega) h1]
theorem facs_mem (n : Nat) : ∀ (p : Nat), bl p ≤ n → p ≠ 0 → ∀ x ∈ facs p, 2 ≤ bl x ∧ ld x = x ∧ Dv x p := by
  induction n with
  | zero => intro p hp h0; exact absurd (bl_eq_zero.1 (by omega)) h0
  | succ n ih =>
    intro p hp h0 x hx
    rcases Nat.lt_or_ge (bl p) 2 with h | h
    · rw [facs_nil h] at hx; cases hx
    · obtain ⟨h1, h2, h3⟩ := ld_spec h
      have hqb := quot_bl h0 (bl_two h2) h1
      have hm := quot_mul (show ld p ≠ 0 by omega) h1
      rw [facs_cons h] at hx
      rcases List.mem_cons.1 hx with rfl | hx
      · refine ⟨bl_two h2, ld_unique (bl_two h2) h2 (Dv.refl _) (fun r a b hd => h3 r a b (hd.trans h1)), h1⟩
      · obtain ⟨a, b, c⟩ := ih _ (by omega) hqb.2.1 x hx
        exact ⟨a, b, by rw [← hm]; exact c.mul_right _⟩
end Go.Proofs.Ytigkmdlbijdoaaa.Gf
