/- Odd dominating sets: what has to be solved. -/
import Derived.Test.YtoobofnpdiapgaaMB
import Derived.Test.YtoobofnpdiapgaaGA
import Derived.Test.YtoobofnpdiapgaaPx10
import Derived.Test.YtoobofnpdiapgaaPx12
import Derived.Test.YtoobofnpdiapgaaPx30
import Derived.Test.YtoobofnpdiapgaaPx31
import Derived.Test.YtoobofnpdiapgaaPx32
namespace Go.Proofs.Ytoobofnpdiapgaa.Gr
open Go.RowKit Go.Proofs.Ytoobofnpdiapgaa.P Go.Proofs.Ytoobofnpdiapgaa.Bt Go.Proofs.Ytoobofnpdiapgaa.Lw Go.Proofs.Ytoobofnpdiapgaa.Sp Go.Proofs.Ytoobofnpdiapgaa.Pa Go.Proofs.Ytoobofnpdiapgaa.St Go.Proofs.Ytoobofnpdiapgaa.Sv Go.Proofs.Ytoobofnpdiapgaa.Sy Go.Proofs.Ytoobofnpdiapgaa.Bo Go.Proofs.YtoobofnpdiapgaaW.PrintWords Go.Proofs.YtoobofnpdiapgaaW.PrintLast Go.Proofs.YtoobofnpdiapgaaW.PrintMore
set_option linter.unusedVariables false
set_option linter.unusedSimpArgs false

def fT (_ : Nat) : Bool := true
theorem wOf_T (n : Nat) : wOf fT n = 2 ^ n - 1 := by
  apply Nat.eq_of_testBit_eq
  intro i
  rw [wOf_bit, Nat.testBit_two_pow_sub_one]
  simp [fT]
theorem rowF_T (R : Nat → Nat) (i : Nat) : rowF R fT i = R i ||| 2 ^ i := by unfold rowF fT; rw [if_pos rfl]
theorem gsymD {l : List Int} (G : Good l) : ∀ a b, a < l.length → b < l.length → (nr l a).testBit b = (nr l b).testBit a := fun a b ha hb => by
  rw [Bool.eq_iff_iff]
  exact ⟨fun h => (G.2.2.2 a ha b hb h).2, fun h => (G.2.2.2 b hb a ha h).2⟩
theorem gloopD {l : List Int} (G : Good l) : ∀ a, a < l.length → (nr l a).testBit a = false := fun a ha => by
  rw [Bool.eq_false_iff]; exact fun h => (G.2.2.2 a ha a ha h).1 rfl
theorem range_takeD (R : Nat → Nat) (f : Nat → Bool) {n i : Nat} (h : i < n) : (lF R f n).take (i + 1) = (lF R f n).take i ++ [rowF R f i] := by
  rw [List.take_succ_eq_append_getElem (by rw [lF_len]; exact h)]
  simp [lF]
theorem ci_snocD (l : List Nat) (x : Nat) : ci l ++ [(x : Int)] = ci (l ++ [x]) := by simp [ci]
section
variable (l : List Int) (G : Good l)
include G
theorem tgF_at : ∀ (d i : Nat), i + d = l.length → tgF l true d i (ci ((lF (nr l) fT l.length).take i)) = some (ci (lF (nr l) fT l.length)) := by
  have hl := G.2.1
  have hr := G.2.2.1
  intro d
  induction d with
  | zero =>
    intro i hi
    have : i = l.length := by omega
    subst this
    rw [tgF, List.take_of_length_le (by rw [lF_len]; exact Nat.le_refl _)]
  | succ d ih =>
    intro i hi
    have hlt : i < l.length := by omega
    have hsm := nr_small hl hr hlt
    have hri : rd l (i : Int) = (nr l i : Int) := by rw [rd_nat]; exact nr_cast hr hlt
    have hpi : 2 ^ i ≤ 32768 := Nat.le_trans (Nat.pow_le_pow_right (by omega) (show i ≤ 15 by omega)) (by decide)
    have hrec := ih (i + 1) (by omega)
    rw [range_takeD _ _ hlt, ← ci_snocD, rowF_T] at hrec
    have hlen : (ci ((lF (nr l) fT l.length).take i)).length < 1000000 := by rw [ci_length, List.length_take, lF_len]; omega
    have ht : impl_Graph_toggles.f l true (i : Int) = some ((nr l i ||| 2 ^ i : Nat) : Int) := by
      unfold impl_Graph_toggles.f
      rw [if_pos rfl, if_pos (by omega), if_pos (by omega), hri, shl_at (by omega), bits_or (by omega) (by omega)]
    rw [tgF, ht]
    simp only [Option.bind_some]
    rw [if_pos hlen]
    exact hrec
/-- Both sides' answers for a graph. -/
theorem dom_good (own : Bool) : ∃ m r : Nat, m ≤ l.length ∧ r < 2 ^ l.length ∧
    Ev (fun k => spec_paDominating.f k l own) (((2 ^ (l.length - m) : Nat) : Int), (r : Int)) ∧
    ∃ (E : List Int) (s : List (Int × Int) × List Int × List Int) (rp : Int), tgF l true l.length 0 [] = some E ∧ solF 1000 E 0 [] [] [] = some s ∧ s.2.1.length = l.length - m ∧ reachL s.1 1000 ((2 ^ l.length - 1 : Nat) : Int) 0 = some (0, rp) ∧ impl_reduced.f s.2.1 rp = some (r : Int) := by
  have hl := G.2.1
  have hr := G.2.2.1
  obtain ⟨m, r, e1, hm, hr', P, Q, I, s1, hq, rp, r1, r2⟩ := impl_main (lF_sym G.2.1 (gsymD G) (gloopD G) (fun a ha => nr_lt G.2.2.1 ha) fT)
  rw [lF_len] at e1 hm hr' hq
  rw [wOf_T] at e1 r1
  have hp : 2 ^ (l.length - m) ≤ 65536 := pow_le16 (by omega)
  have hpn : 2 ^ l.length ≤ 65536 := pow_le16 hl
  have hpos := Nat.two_pow_pos l.length
  have hsh := shl_nat (a := 1) (n := l.length - m) (by omega) (by omega)
  rw [Nat.shiftLeft_eq, Nat.one_mul] at hsh
  rw [show ((1 : Nat) : Int) = 1 from rfl] at hsh
  have loop : ∀ (d i : Nat), i + d = l.length → ∀ k, d + 20 < k →
      spec_paDominating.l0 k (ci ((lF (nr l) fT l.length).take i)) l (l.length : Int) (i : Int) l own = some (((2 ^ (l.length - m) : Nat) : Int), (r : Int)) := by
    intro d
    induction d with
    | zero =>
      intro i hi k hk
      obtain ⟨k, rfl⟩ : ∃ m, k = m + 1 := ⟨k - 1, by omega⟩
      have : i = l.length := by omega
      subst this
      rw [spec_paDominating.l0, if_neg (by omega), List.take_of_length_le (by rw [lF_len]; exact Nat.le_refl _), shl1 hl, e1]
      simp only [Option.bind_some]
      rw [if_pos (by omega), hsh]
    | succ d ih =>
      intro i hi k hk
      obtain ⟨k, rfl⟩ : ∃ m, k = m + 1 := ⟨k - 1, by omega⟩
      have hlt : i < l.length := by omega
      have hsm := nr_small hl hr hlt
      have hri : rd l (i : Int) = (nr l i : Int) := by rw [rd_nat]; exact nr_cast hr hlt
      have hpi : 2 ^ i ≤ 32768 := Nat.le_trans (Nat.pow_le_pow_right (by omega) (show i ≤ 15 by omega)) (by decide)
      have hrec := ih (i + 1) (by omega) k (by omega)
      rw [range_takeD _ _ hlt, ← ci_snocD, rowF_T] at hrec
      have hlen : (ci ((lF (nr l) fT l.length).take i)).length < 17592186044416 := by rw [ci_length, List.length_take, lF_len]; omega
      rw [spec_paDominating.l0, if_pos (by omega), if_pos (by omega), if_pos (by omega), if_pos hlen, hri, shl_at (by omega), bits_or (by omega) (by omega), step1' (by omega)]
      exact hrec
  refine ⟨m, r, hm, hr', ⟨40, fun k hk => ?_⟩, _, _, _, tgF_at l G l.length 0 (by omega), s1, by rw [ci_length]; exact hq, r1, r2⟩
  show spec_paDominating.f k l own = _
  unfold spec_paDominating.f
  have h1 := loop l.length 0 (by omega) k (by omega)
  rw [show ci (List.take 0 (lF (nr l) fT l.length)) = [] by simp [ci], show ((0 : Nat) : Int) = 0 from rfl] at h1
  exact h1
end
end Go.Proofs.Ytoobofnpdiapgaa.Gr
