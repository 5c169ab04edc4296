/- The least divisor and the factors, on both sides. -/
import Derived.Test.YtigkmdlbijdoaaaPolyF
import Derived.Test.YtigkmdlbijdoaaaFac
import Derived.Test.YtigkmdlbijdoaaaPx17
import Derived.Test.YtigkmdlbijdoaaaPx23
import Derived.Test.YtigkmdlbijdoaaaPx24
import Derived.Test.YtigkmdlbijdoaaaPx26
namespace Go.Proofs.Ytigkmdlbijdoaaa.Pf
open Go.RowKit Go.Proofs.Ytigkmdlbijdoaaa.P Go.Proofs.Ytigkmdlbijdoaaa.Bt Go.Proofs.Ytigkmdlbijdoaaa.Gf Go.Proofs.YtigkmdlbijdoaaaW.PrintWords Go.Proofs.YtigkmdlbijdoaaaW.PrintLast Go.Proofs.YtigkmdlbijdoaaaW.PrintMore
set_option linter.unusedVariables false
set_option linter.unusedSimpArgs false

def ints (l : List Nat) : List Int := l.map (fun n : Nat => (n : Int))
theorem ints_len (l : List Nat) : (ints l).length = l.length := List.length_map ..
theorem ints_put (l : List Nat) (q : Nat) : ints l ++ [(q : Int)] = ints (l ++ [q]) := by unfold ints; rw [List.map_append]; rfl
theorem facs_len (n : Nat) : ∀ (p : Nat), bl p ≤ n → p ≠ 0 → (facs p).length ≤ n := by
  induction n with
  | zero => intro p hp h0; exact absurd (bl_eq_zero.1 (by omega)) h0
  | succ n ih =>
    intro p hp h0
    by_cases h : 2 ≤ bl p
    · have a := ld_spec h
      have b := quot_bl h0 (bl_two a.2.1) a.1
      rw [facs_cons h, List.length_cons]
      have := ih _ (by omega) b.2.1
      omega
    · rw [facs_nil (by omega)]; exact Nat.zero_le _
theorem pow22 : (2 : Nat) ^ 22 = 4194304 := rfl
theorem pow11 : (2 : Nat) ^ 11 = 2048 := rfl
theorem first_l0 (p : Nat) (hp : 2 ≤ bl p) (hp' : bl p ≤ 41) : ∀ (d q k : Nat), 2 ≤ q → bl q ≤ 30 → p ≤ d + q → d + 200 < k → spec_poFirst.l0 k (p : Int) (q : Int) = some ((fst p d q : Nat) : Int) := by
  intro d
  induction d with
  | zero =>
    intro q k hq hb hd hk
    obtain ⟨k, rfl⟩ : ∃ j, k = j + 1 := ⟨k - 1, by omega⟩
    have := bl_mono (show p ≤ q by omega)
    rw [spec_poFirst.l0, poDegree_at q (by omega) k (by omega), Option.bind_some, poDegree_at p (by omega) k (by omega), Option.bind_some, wrap_id (by omega) (by omega), if_neg (by omega)]
    rfl
  | succ d ih =>
    intro q k hq hb hd hk
    obtain ⟨k, rfl⟩ : ∃ j, k = j + 1 := ⟨k - 1, by omega⟩
    rw [spec_poFirst.l0, poDegree_at q (by omega) k (by omega), Option.bind_some, poDegree_at p (by omega) k (by omega), Option.bind_some, wrap_id (by omega) (by omega), fst]
    by_cases c : 2 * bl q ≤ bl p + 1
    · rw [if_pos (by omega), if_pos c, poRest_at p q (by omega) (by omega) (by omega) k (by omega), Option.bind_some]
      by_cases c2 : rest p q = 0
      · rw [if_pos (by omega), if_pos c2]
      · rw [if_neg (by omega), if_neg c2]
        have hq' : q < 2 ^ 22 := bl_le_iff.1 (by omega)
        rw [pow22] at hq'
        have hb' : bl (q + 1) ≤ 30 := bl_le_iff.2 (by have : (2 : Nat) ^ 30 = 1073741824 := rfl; omega)
        rw [show ((q : Int) + 1) = ((q + 1 : Nat) : Int) by omega, wrap_nat (by omega)]
        exact ih (q + 1) k (by omega) hb' (by omega) (by omega)
    · rw [if_neg (by omega), if_neg c]
theorem poFirst_at (p : Nat) (hp : 2 ≤ bl p) (hp' : bl p ≤ 41) (k : Nat) (hk : p + 200 < k) : spec_poFirst.f k (p : Int) = some ((ld p : Nat) : Int) := first_l0 p hp hp' p 2 k (by omega) (by decide) (by omega) hk
theorem quot_le {p q : Nat} (hp : p ≠ 0) (hq : 2 ≤ bl q) (hd : Dv q p) : (divMod p q).1 < p := lt_of_bl_lt (quot_bl hp hq hd).1
theorem factors_spec (n : Nat) : ∀ (p : Nat) (out : List Nat) (k : Nat), bl p ≤ n → p ≠ 0 → bl p ≤ 41 → out.length + bl p ≤ 100 → p + 200 + n < k → spec_FactorsOf.l0 k (p : Int) (ints out) = some (ints (out ++ facs p), true) := by
  induction n with
  | zero => intro p out k h h0; exact absurd (bl_eq_zero.1 (by omega)) h0
  | succ n ih =>
    intro p out k hn h0 h41 hl hk
    obtain ⟨k, rfl⟩ : ∃ j, k = j + 1 := ⟨k - 1, by omega⟩
    rw [spec_FactorsOf.l0, poDegree_at p (by omega) k (by omega), Option.bind_some]
    by_cases h : 2 ≤ bl p
    · have s := ld_spec h
      have b := quot_bl h0 (bl_two s.2.1) s.1
      have c := quot_le h0 (bl_two s.2.1) s.1
      have d := s.1.bl_le h0
      rw [if_pos (by omega), poFirst_at p h h41 k (by omega), Option.bind_some, if_pos (by rw [ints_len]; omega), poDivide_at p (ld p) (by omega) (by omega) (by omega) k (by omega), Option.bind_some, ints_put,
        ih (divMod p (ld p)).1 (out ++ [ld p]) k (by omega) b.2.1 (by omega) (by rw [List.length_append, List.length_singleton]; omega) (by omega), facs_cons h, List.append_assoc]
      rfl
    · rw [if_neg (by omega), facs_nil (by omega), List.append_nil]
theorem sorts (l : List Nat) (h : l.length ≤ 200) : slices_Sort_int_int.f (ints l) = some ((ints l).mergeSort fun x y => decide (x ≤ y)) := by
  unfold slices_Sort_int_int.f
  rw [if_pos (by rw [ints_len]; omega)]
theorem factors_impl (m : Nat) : (∀ (p : Nat) (out : List Nat) (q k : Nat), 2 * (4096 - q) + 1 + bl p ≤ m → p ≠ 0 → bl p ≤ 21 → 2 ≤ q → q ≤ 2049 → NoDv p q → out.length + bl p ≤ 100 → m + 200 < k →
      impl_factors.l0 k (p : Int) (ints out) (q : Int) = some ((ints (out ++ facs p)).mergeSort fun x y => decide (x ≤ y))) ∧
    (∀ (p : Nat) (out : List Nat) (q k : Nat), 2 * (4096 - q) + bl p ≤ m → p ≠ 0 → bl p ≤ 21 → 2 ≤ q → q ≤ 2048 → NoDv p q → out.length + bl p ≤ 100 → m + 200 < k →
      impl_factors.l1 k (p : Int) (ints out) (q : Int) = some ((ints (out ++ facs p)).mergeSort fun x y => decide (x ≤ y))) := by
  induction m with
  | zero => exact ⟨fun p out q k h h0 hb hq hq2 => by omega, fun p out q k h h0 hb hq hq2 => by omega⟩
  | succ m ih =>
    constructor
    · intro p out q k h h0 hb hq hq2 hn hl hk
      obtain ⟨k, rfl⟩ : ∃ j, k = j + 1 := ⟨k - 1, by omega⟩
      have hqb : bl q ≤ 22 := bl_le_iff.2 (by rw [pow22]; omega)
      rw [impl_factors.l0, degree_at q (by omega), Option.bind_some, degree_at p (by omega), Option.bind_some, wrap_id (by omega) (by omega)]
      by_cases c : 2 * bl q ≤ bl p + 1
      · have hq' : q < 2 ^ 11 := bl_le_iff.1 (by omega)
        rw [pow11] at hq'
        rw [if_pos (by omega)]
        exact ih.2 p out q k (by omega) h0 hb hq (by omega) hn hl (by omega)
      · rw [if_neg (by omega), Option.bind_some]
        by_cases c2 : 2 ≤ bl p
        · have e : ld p = p := ld_unique c2 (two_of_bl c2) (Dv.refl p) (hn.whole c2 (by omega))
          rw [if_pos (by omega), if_pos (by rw [ints_len]; omega), ints_put, sorts _ (by rw [List.length_append, List.length_singleton]; omega), facs_one c2 e]
          rfl
        · rw [if_neg (by omega), sorts _ (by omega), facs_nil (by omega), List.append_nil]
          rfl
    · intro p out q k h h0 hb hq hq2 hn hl hk
      obtain ⟨k, rfl⟩ : ∃ j, k = j + 1 := ⟨k - 1, by omega⟩
      have hqb : bl q ≤ 22 := bl_le_iff.2 (by rw [pow22]; omega)
      have q2 := bl_two hq
      have w : wrap64 ((q : Int) + 1) = ((q + 1 : Nat) : Int) := by rw [show ((q : Int) + 1) = ((q + 1 : Nat) : Int) by omega, wrap_nat (by omega)]
      rw [impl_factors.l1, degree_at p (by omega), Option.bind_some, degree_at q (by omega), Option.bind_some]
      by_cases c : bl q ≤ bl p
      · rw [if_pos (by omega), modulo_at p q (by omega) (by omega) (by omega) k (by omega), Option.bind_some]
        by_cases c2 : rest p q = 0
        · have dv := (rest_zero_iff (by omega)).1 c2
          have b := quot_bl h0 q2 dv
          have e : ld p = q := ld_unique (by omega) hq dv hn
          have hn' : NoDv (divMod p q).1 q := hn.part (quot_mul (by omega) dv)
          rw [if_pos (by omega), if_pos (by rw [ints_len]; omega), divide_at p q (by omega) (by omega) (by omega) k (by omega), Option.bind_some, ints_put,
            ih.2 (divMod p q).1 (out ++ [q]) q k (by omega) b.2.1 (by omega) hq hq2 hn' (by rw [List.length_append, List.length_singleton]; omega) (by omega), facs_cons (p := p) (by omega), e, List.append_assoc]
          rfl
        · rw [if_neg (by omega), w]
          exact ih.1 p out (q + 1) k (by omega) h0 hb (by omega) (by omega) (hn.next fun d => c2 ((rest_zero_iff (by omega)).2 d)) hl (by omega)
      · rw [if_neg (by omega), w]
        exact ih.1 p out (q + 1) k (by omega) h0 hb (by omega) (by omega) (hn.next fun d => c (d.bl_le h0)) hl (by omega)
theorem ints_sorted {l : List Nat} (h : l.Pairwise (· ≤ ·)) : ((ints l).mergeSort fun x y => decide (x ≤ y)) = ints l := by
  apply List.mergeSort_of_pairwise
  unfold ints
  rw [List.pairwise_map]
  exact h.imp fun h => decide_eq_true (Int.ofNat_le.2 h)
theorem factors_at (p : Nat) (h0 : p ≠ 0) (hb : bl p ≤ 21) (k : Nat) (hk : 8500 < k) : impl_factors.f k (p : Int) = some (ints (facs p)) := by
  have := (factors_impl 8300).1 p [] 2 k (by omega) h0 hb (by omega) (by omega) (NoDv.two p) (by simp; omega) (by omega)
  rw [List.nil_append, ints_sorted (facs_sorted _ p (Nat.le_refl _) h0)] at this
  unfold impl_factors.f
  exact this
end Go.Proofs.Ytigkmdlbijdoaaa.Pf
