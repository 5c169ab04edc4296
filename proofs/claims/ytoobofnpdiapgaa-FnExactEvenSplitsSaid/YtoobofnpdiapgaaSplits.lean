/- What has to be solved for splits: the program's list and the model's. -/
import Derived.Test.YtoobofnpdiapgaaMB
import Derived.Test.YtoobofnpdiapgaaGA
import Derived.Test.YtoobofnpdiapgaaPx10
import Derived.Test.YtoobofnpdiapgaaPx12
import Derived.Test.YtoobofnpdiapgaaPx13
import Derived.Test.YtoobofnpdiapgaaPx3
namespace Go.Proofs.Ytoobofnpdiapgaa.Gr
open Go.RowKit Go.Proofs.Ytoobofnpdiapgaa.P Go.Proofs.Ytoobofnpdiapgaa.Bt Go.Proofs.Ytoobofnpdiapgaa.Lw Go.Proofs.Ytoobofnpdiapgaa.Gr Go.Proofs.Ytoobofnpdiapgaa.Sp Go.Proofs.Ytoobofnpdiapgaa.Pa Go.Proofs.Ytoobofnpdiapgaa.St Go.Proofs.Ytoobofnpdiapgaa.Sv Go.Proofs.Ytoobofnpdiapgaa.Sy Go.Proofs.Ytoobofnpdiapgaa.Bo Go.Proofs.YtoobofnpdiapgaaW.PrintWords Go.Proofs.YtoobofnpdiapgaaW.PrintLast Go.Proofs.YtoobofnpdiapgaaW.PrintMore
set_option linter.unusedVariables false
set_option linter.unusedSimpArgs false

/-- Which buttons are asked for. -/
def fOdd (l : List Int) (odd : Bool) (i : Nat) : Bool := (pc (nr l i) % 2 == 1) != odd
theorem gsym {l : List Int} (G : Good l) : ∀ a b, a < l.length → b < l.length → (nr l a).testBit b = true → (nr l b).testBit a = true := fun a b ha hb h => (G.2.2.2 a ha b hb h).2
theorem gloop {l : List Int} (G : Good l) : ∀ a, a < l.length → (nr l a).testBit a = false := fun a ha => by
  rw [Bool.eq_false_iff]; exact fun h => (G.2.2.2 a ha a ha h).1 rfl
theorem glt {l : List Int} (G : Good l) : ∀ a, a < l.length → nr l a < 2 ^ l.length := fun a ha => nr_lt G.2.2.1 ha
theorem range_take (R : Nat → Nat) (f : Nat → Bool) {n i : Nat} (h : i < n) : (lF R f n).take (i + 1) = (lF R f n).take i ++ [rowF R f i] := by
  rw [List.take_succ_eq_append_getElem (by rw [lF_len]; exact h)]
  simp [lF]
theorem ci_snoc (l : List Nat) (x : Nat) : ci l ++ [(x : Int)] = ci (l ++ [x]) := by simp [ci]
section
variable (l : List Int) (G : Good l)
include G
theorem splF_at (odd : Bool) : ∀ (d i : Nat), i + d = l.length →
    splF (if odd = true then 1 else 0) (l.drop i) i (ci ((lF (nr l) (fOdd l odd) l.length).take i)) ((wOf (fOdd l odd) i : Nat) : Int) = some (ci (lF (nr l) (fOdd l odd) l.length), ((wOf (fOdd l odd) l.length : Nat) : Int)) := by
  have hl := G.2.1
  have hr := G.2.2.1
  intro d
  induction d with
  | zero =>
    intro i hi
    have : i = l.length := by omega
    subst this
    rw [List.drop_length, splF, List.take_of_length_le (by rw [lF_len]; exact Nat.le_refl _)]
  | succ d ih =>
    intro i hi
    have hlt : i < l.length := by omega
    have hsm := nr_small hl hr hlt
    have hli : l[i] = ((nr l i : Nat) : Int) := by
      have := nr_cast hr hlt
      rw [List.getD_eq_getElem?_getD, List.getElem?_eq_getElem hlt] at this
      exact this
    have hw := wOf_lt (fOdd l odd) i
    have hpi : 2 ^ i ≤ 32768 := Nat.le_trans (Nat.pow_le_pow_right (by omega) (show i ≤ 15 by omega)) (by decide)
    have hpc := pc_le (nr l i)
    have hrec := ih (i + 1) (by omega)
    rw [range_take _ _ hlt, ← ci_snoc, wOf] at hrec
    have hlen : (ci ((lF (nr l) (fOdd l odd) l.length).take i)).length < 1000000 := by rw [ci_length, List.length_take, lF_len]; omega
    rw [List.drop_eq_getElem_cons hlt, hli, splF, count_at hsm]
    simp only [Option.bind_some]
    rw [if_pos hlen, shl_at (by omega), bits_or (by omega) (by omega), bits_or (by omega) (by omega)]
    have hcond : (Int.tmod (wrap64 (((pc (nr l i) : Nat) : Int) + (if odd = true then 1 else 0))) 2 == 1) = fOdd l odd i := by
      unfold fOdd
      cases odd with
      | true =>
        rw [if_pos rfl, show ((pc (nr l i) : Nat) : Int) + 1 = ((pc (nr l i) + 1 : Nat) : Int) by omega, wrap_nat (by omega), tmod_two]
        have : pc (nr l i) % 2 = 0 ∨ pc (nr l i) % 2 = 1 := by omega
        rcases this with h | h
        · rw [h, show (pc (nr l i) + 1) % 2 = 1 by omega]; rfl
        · rw [h, show (pc (nr l i) + 1) % 2 = 0 by omega]; rfl
      | false =>
        rw [if_neg (by simp), Int.add_zero, wrap_nat (by omega), tmod_two]
        have : pc (nr l i) % 2 = 0 ∨ pc (nr l i) % 2 = 1 := by omega
        rcases this with h | h <;> rw [h] <;> rfl
    rw [hcond]
    by_cases c : fOdd l odd i = true
    · rw [c, if_pos rfl]
      rw [if_pos c] at hrec
      rw [show rowF (nr l) (fOdd l odd) i = nr l i ||| 2 ^ i by unfold rowF; rw [if_pos c]] at hrec
      exact hrec
    · rw [if_neg c]
      rw [if_neg c, Nat.or_zero] at hrec
      rw [show rowF (nr l) (fOdd l odd) i = nr l i by unfold rowF; rw [if_neg c]] at hrec
      exact hrec
theorem eqs_at (own odd : Bool) : ∀ (d i : Nat), i + d = l.length → ∀ k, d + 20 < k →
    spec_paEquations.l0 k odd (ci ((lF (nr l) (fOdd l odd) l.length).take i)) ((wOf (fOdd l odd) i : Nat) : Int) l (l.length : Int) (i : Int) = some (ci (lF (nr l) (fOdd l odd) l.length), ((wOf (fOdd l odd) l.length : Nat) : Int)) := by
  have hl := G.2.1
  have hr := G.2.2.1
  intro d
  induction d with
  | zero =>
    intro i hi k hk
    obtain ⟨k, rfl⟩ : ∃ m, k = m + 1 := ⟨k - 1, by omega⟩
    have : i = l.length := by omega
    subst this
    rw [spec_paEquations.l0, if_neg (by omega), List.take_of_length_le (by rw [lF_len]; exact Nat.le_refl _)]
  | succ d ih =>
    intro i hi k hk
    obtain ⟨k, rfl⟩ : ∃ m, k = m + 1 := ⟨k - 1, by omega⟩
    have hlt : i < l.length := by omega
    have hsm := nr_small hl hr hlt
    have hri : rd l (i : Int) = (nr l i : Int) := by rw [rd_nat]; exact nr_cast hr hlt
    have hw := wOf_lt (fOdd l odd) i
    have hpi : 2 ^ i ≤ 32768 := Nat.le_trans (Nat.pow_le_pow_right (by omega) (show i ≤ 15 by omega)) (by decide)
    have hpc := pc_le (nr l i)
    have hrec := ih (i + 1) (by omega) k (by omega)
    rw [range_take _ _ hlt, ← ci_snoc, wOf] at hrec
    have hlen : (ci ((lF (nr l) (fOdd l odd) l.length).take i)).length < 17592186044416 := by rw [ci_length, List.length_take, lF_len]; omega
    rw [spec_paEquations.l0, if_pos (by omega), if_pos (by omega), if_pos (by omega), hri, grCount_at hsm k (by omega)]
    simp only [Option.bind_some]
    rw [shl_at (by omega), bits_or (by omega) (by omega), bits_or (by omega) (by omega), step1' (by omega), tmod_two]
    have hcond : ((((pc (nr l i) % 2 : Nat) : Int) == 1) != odd) = fOdd l odd i := by
      unfold fOdd
      have : pc (nr l i) % 2 = 0 ∨ pc (nr l i) % 2 = 1 := by omega
      rcases this with h | h <;> rw [h] <;> rfl
    rw [hcond]
    by_cases c : fOdd l odd i = true
    · rw [if_pos c, if_pos hlen]
      rw [if_pos c] at hrec
      rw [show rowF (nr l) (fOdd l odd) i = nr l i ||| 2 ^ i by unfold rowF; rw [if_pos c]] at hrec
      exact hrec
    · rw [if_neg c, if_pos hlen]
      rw [if_neg c, Nat.or_zero] at hrec
      rw [show rowF (nr l) (fOdd l odd) i = nr l i by unfold rowF; rw [if_neg c]] at hrec
      exact hrec
theorem sym_of (f : Nat → Bool) : Sym (lF (nr l) f l.length) (wOf f l.length) :=
  lF_sym G.2.1 (fun a b ha hb => by
    rw [Bool.eq_iff_iff]
    exact ⟨gsym G a b ha hb, gsym G b a hb ha⟩) (gloop G) (glt G) f
/-- Both sides' answers for a graph. -/
theorem split_good (own odd : Bool) : ∃ m r : Nat, m ≤ l.length ∧ r < 2 ^ l.length ∧
    Ev (fun k => spec_paSplit.f k l own odd) (((2 ^ (l.length - m) : Nat) : Int), (r : Int)) ∧
    ∃ (E : List Int) (W : Int) (s : List (Int × Int) × List Int × List Int) (rp : Int), splF (if odd = true then 1 else 0) l 0 [] 0 = some (E, W) ∧ solF 1000 E 0 [] [] [] = some s ∧ s.2.1.length = l.length - m ∧ reachL s.1 1000 W 0 = some (0, rp) ∧ impl_reduced.f s.2.1 rp = some (r : Int) := by
  obtain ⟨m, r, e1, hm, hr, P, Q, I, s1, hq, rp, r1, r2⟩ := impl_main (sym_of l G (fOdd l odd))
  rw [lF_len] at e1 hm hr hq
  refine ⟨m, r, hm, hr, ⟨40, fun k hk => ?_⟩, _, _, _, _, splF_at l G odd l.length 0 (by omega), s1, by rw [ci_length]; exact hq, r1, r2⟩
  show spec_paSplit.f k l own odd = _
  unfold spec_paSplit.f spec_paEquations.f
  have h1 := eqs_at l G own odd l.length 0 (by omega) k (by have := G.2.1; omega)
  rw [show ci (List.take 0 (lF (nr l) (fOdd l odd) l.length)) = [] by simp [ci], show ((wOf (fOdd l odd) 0 : Nat) : Int) = 0 from rfl, show ((0 : Nat) : Int) = 0 from rfl] at h1
  rw [h1]
  simp only [Option.bind_some]
  rw [e1]
  simp only [Option.bind_some]
  have hl := G.2.1
  have hp : 2 ^ (l.length - m) ≤ 65536 := pow_le16 (by omega)
  have hsh := shl_nat (a := 1) (n := l.length - m) (by omega) (by omega)
  rw [Nat.shiftLeft_eq, Nat.one_mul] at hsh
  rw [if_pos (by omega)]
  rw [show ((1 : Nat) : Int) = 1 from rfl] at hsh
  rw [hsh]
end
end Go.Proofs.Ytoobofnpdiapgaa.Gr
