/- What the reference draws from bytes: some number in its range, whatever the bytes. What the functions on polynomials answer. Orders and the first of Fibonacci's polynomials: the loops of both sides. Fibonacci's polynomials over two elements, in plain Lean. Powers modulo a polynomial, on both sides. The factors of a polynomial over two elements, in plain Lean. The least divisor and the factors, on both sides. IsIrreducible and FactorsOf, on both sides. -/
import Derived.Test.YtigkmdlbijdoaaaBits
import Derived.Test.YtigkmdlbijdoaaaPx15
import Derived.Test.YtigkmdlbijdoaaaPx1
import Derived.Test.YtigkmdlbijdoaaaPx10
import Derived.Test.YtigkmdlbijdoaaaPx11
import Derived.Test.YtigkmdlbijdoaaaPx12
import Derived.Test.YtigkmdlbijdoaaaPx13
import Derived.Test.YtigkmdlbijdoaaaPx4
import Derived.Test.YtigkmdlbijdoaaaPx5
import Derived.Test.YtigkmdlbijdoaaaPx9
import Derived.Test.YtigkmdlbijdoaaaPx29
import Derived.Test.YtigkmdlbijdoaaaPoly
import Derived.Test.YtigkmdlbijdoaaaPx18
import Derived.Test.YtigkmdlbijdoaaaPx24
import Derived.Test.YtigkmdlbijdoaaaPx25
import Derived.Test.YtigkmdlbijdoaaaPx27
import Derived.Test.YtigkmdlbijdoaaaPx23
namespace Go.Proofs.Ytigkmdlbijdoaaa.Dr
open Go.RowKit Go.Proofs.Ytigkmdlbijdoaaa.P Go.Proofs.Ytigkmdlbijdoaaa.Bt Go.Proofs.YtigkmdlbijdoaaaW.PrintWords Go.Proofs.YtigkmdlbijdoaaaW.PrintLast Go.Proofs.YtigkmdlbijdoaaaW.PrintMore
set_option linter.unusedVariables false
set_option linter.unusedSimpArgs false

def By (l : List Int) : Prop := ∀ x, x ∈ l → 0 ≤ x ∧ x ≤ 255
theorem by_wf {l : List Int} (h : ∀ x ∈ l, (Lit.int .u8 x).wf = true) : By l := by
  intro x hx
  have c : IntKind.u8.min ≤ x ∧ x ≤ IntKind.u8.max := by simpa [Lit.wf] using h x hx
  have a : IntKind.u8.min = 0 := by decide
  have b : IntKind.u8.max = 255 := by decide
  omega
theorem By.rd_ {l : List Int} (h : By l) (i : Int) : 0 ≤ rd l i ∧ rd l i ≤ 255 := by
  unfold rd
  rw [List.getD_eq_getElem?_getD]
  by_cases c : i.toNat < l.length
  · rw [List.getElem?_eq_getElem c]; exact h _ (List.getElem_mem c)
  · rw [List.getElem?_eq_none (by omega)]; exact ⟨by decide, by decide⟩
theorem low8 (a : Int) : 0 ≤ wrap64 (Go.bits .and .u64 a 255) ∧ wrap64 (Go.bits .and .u64 a 255) ≤ 255 := by
  have h : Go.bits .and .u64 a 255 = IntKind.u64.wrap ((BitVec.ofInt 64 a &&& BitVec.ofInt 64 255).toNat : Int) := rfl
  have h2 : (BitVec.ofInt 64 a &&& BitVec.ofInt 64 255).toNat ≤ 255 := by
    rw [BitVec.toNat_and]; exact Nat.and_le_right
  have h3 : Go.bits .and .u64 a 255 = ((BitVec.ofInt 64 a &&& BitVec.ofInt 64 255).toNat : Int) := by
    rw [h]; generalize (BitVec.ofInt 64 a &&& BitVec.ofInt 64 255).toNat = z at h2
    show (z : Int) % 18446744073709551616 = z
    omega
  rw [h3]
  generalize (BitVec.ofInt 64 a &&& BitVec.ofInt 64 255).toNat = z at h2
  rw [wrap_id (by omega) (by omega)]
  omega
theorem next_at {l : List Int} (h : By l) (q s : Int) (hq : 0 ≤ q) (hq' : q < 1000000) : ∃ x s', spec_l1Cur_next.f l q s = some (x, q + 1, s') ∧ 0 ≤ x ∧ x ≤ 255 := by
  have w : wrap64 (q + 1) = q + 1 := wrap_id (by omega) (by omega)
  have r := h.rd_ q
  have wr : wrap64 (rd l q) = rd l q := wrap_id (by omega) (by omega)
  unfold spec_l1Cur_next.f
  by_cases c : q < (l.length : Int)
  · rw [if_pos c, if_pos hq, w, if_pos (by omega), wr]
    exact ⟨_, _, rfl, r⟩
  · rw [if_neg c, w, if_neg (by omega)]
    exact ⟨_, _, rfl, low8 _⟩
theorem pick_at {l : List Int} (h : By l) (q s n : Int) (hq : 0 ≤ q) (hq' : q < 900000) (hn : 1 ≤ n) : ∃ x q' s', spec_l1Cur_pick.f l q s n = some (x, q', s') ∧ 0 ≤ x ∧ x < n ∧ q ≤ q' ∧ q' ≤ q + 2 := by
  unfold spec_l1Cur_pick.f
  by_cases c : n ≤ 1
  · rw [if_pos c]; exact ⟨0, q, s, rfl, by omega, by omega, by omega, by omega⟩
  · obtain ⟨x, s1, e1, hx⟩ := next_at h q s hq (by omega)
    rw [if_neg c, e1, Option.bind_some]
    simp only
    by_cases c2 : n > 200
    · obtain ⟨y, s2, e2, hy⟩ := next_at h (q + 1) s1 (by omega) (by omega)
      rw [if_pos c2, e2, Option.bind_some, if_neg (by omega), wrap_id (x := x * 256) (by omega) (by omega), wrap_id (by omega) (by omega)]
      exact ⟨_, q + 1 + 1, s2, rfl, Int.tmod_nonneg _ (by omega), Int.tmod_lt_of_pos _ (by omega), by omega, by omega⟩
    · rw [if_neg c2, if_neg (by omega)]
      exact ⟨_, q + 1, s1, rfl, Int.tmod_nonneg _ (by omega), Int.tmod_lt_of_pos _ (by omega), by omega, by omega⟩
theorem among_at {l : List Int} (h : By l) (q s : Int) (l1 : List Int) (hq : 0 ≤ q) (hq' : q < 900000) (hn : 1 ≤ l1.length) : ∃ x q' s', spec_l1Cur_among.f l q s l1 = some (x, q', s') ∧ x ∈ l1 ∧ q ≤ q' ∧ q' ≤ q + 2 := by
  obtain ⟨x, q', s', e, h1, h2, h3, h4⟩ := pick_at h q s l1.length hq hq' (by omega)
  unfold spec_l1Cur_among.f
  rw [e, Option.bind_some]
  simp only
  rw [if_pos h1, if_pos h2]
  refine ⟨_, _, _, rfl, ?_, h3, h4⟩
  unfold rd
  rw [List.getD_eq_getElem?_getD, List.getElem?_eq_getElem (by omega)]
  exact List.getElem_mem _
theorem poly_l0 {l : List Int} (h : By l) (m : Int) (hm : m ≤ 40) : ∀ (d : Nat) (i p q s : Int), i + d = m + 1 → 0 ≤ i → 0 ≤ q → q + 2 * d < 800000 → ∃ x q' s', (∀ k, d < k → spec_l1Cur_poly.l0 k m p i l q s = some (x, q', s')) ∧ q ≤ q' ∧ q' ≤ q + 2 * d := by
  intro d
  induction d with
  | zero =>
    intro i p q s hi h0 hq hq'
    refine ⟨p, q, s, fun k hk => ?_, by omega, by omega⟩
    obtain ⟨k, rfl⟩ : ∃ j, k = j + 1 := ⟨k - 1, by omega⟩
    rw [spec_l1Cur_poly.l0, if_neg (by omega)]
  | succ d ih =>
    intro i p q s hi h0 hq hq'
    obtain ⟨x, q1, s1, e, h1, h2, h3, h4⟩ := pick_at h q s 2 hq (by omega) (by omega)
    obtain ⟨y, q2, s2, e2, h5, h6⟩ := ih (i + 1) (wrap64 ((wrap64 (2 * p)) + x)) q1 s1 (by omega) (by omega) (by omega) (by omega)
    refine ⟨y, q2, s2, fun k hk => ?_, by omega, by omega⟩
    obtain ⟨k, rfl⟩ : ∃ j, k = j + 1 := ⟨k - 1, by omega⟩
    rw [spec_l1Cur_poly.l0, if_pos (by omega), e, Option.bind_some]
    simp only
    rw [wrap_id (x := i + 1) (by omega) (by omega)]
    exact e2 k (by omega)
theorem poFib_some : ∀ (d : Nat) (n a b : Int), n = d → d ≤ 1000 → ∃ r, ∀ k, d < k → spec_poFibonacci.l0 k n a b = some r := by
  intro d
  induction d with
  | zero =>
    intro n a b hn _
    refine ⟨b, fun k hk => ?_⟩
    obtain ⟨k, rfl⟩ : ∃ j, k = j + 1 := ⟨k - 1, by omega⟩
    rw [spec_poFibonacci.l0, if_neg (by omega)]
  | succ d ih =>
    intro n a b hn hd
    obtain ⟨r, e⟩ := ih (n - 1) b (Go.bits .xor .i64 (wrap64 (b * 2)) a) (by omega) (by omega)
    refine ⟨r, fun k hk => ?_⟩
    obtain ⟨k, rfl⟩ : ∃ j, k = j + 1 := ⟨k - 1, by omega⟩
    rw [spec_poFibonacci.l0, if_pos (by omega), wrap_id (x := n - 1) (by omega) (by omega)]
    exact e k (by omega)
/-- a polynomial is drawn, whatever it is -/
theorem poly_at {l : List Int} (h : By l) (q s m : Int) (hq : 0 ≤ q) (hq' : q < 700000) (hm : 0 ≤ m) (hm' : m ≤ 40) : ∃ x q' s', (∀ k, 100 < k → spec_l1Cur_poly.f k l q s m = some (x, q', s')) ∧ q ≤ q' ∧ q' ≤ q + 100 := by
  obtain ⟨x, q1, s1, e, h1, h2, h3, h4⟩ := pick_at h q s 12 hq (by omega) (by omega)
  have w : wrap64 (m + 1) = m + 1 := wrap_id (by omega) (by omega)
  by_cases c0 : x = 0
  · obtain ⟨y, q2, s2, e2, h5, h6, h7⟩ := among_at h q1 s1 [-1, 0, 1, 2, 2199023255551, 2199023255552, 4611686018427387904] (by omega) (by omega) (by simp)
    exact ⟨y, q2, s2, fun k hk => by unfold spec_l1Cur_poly.f; rw [e, Option.bind_some]; simp only [w]; rw [if_pos c0, e2]; rfl, by omega, by omega⟩
  · by_cases c1 : x = 1
    · obtain ⟨y, q2, s2, e2, h5, h6, h7, h8⟩ := pick_at h q1 s1 (m + 1) (by omega) (by omega) (by omega)
      obtain ⟨r, e3⟩ := poFib_some y.toNat y 1 0 (by omega) (by omega)
      refine ⟨r, q2, s2, fun k hk => ?_, by omega, by omega⟩
      unfold spec_l1Cur_poly.f
      rw [e, Option.bind_some]
      simp only [w]
      rw [if_neg c0, if_pos c1, e2, Option.bind_some]
      simp only
      unfold spec_poFibonacci.f
      rw [e3 k (by omega)]
      rfl
    · by_cases c2 : x = 2
      · obtain ⟨y, q2, s2, e2, h5, h6, h7, h8⟩ := pick_at h q1 s1 (m + 1) (by omega) (by omega) (by omega)
        exact ⟨_, q2, s2, fun k hk => by unfold spec_l1Cur_poly.f; rw [e, Option.bind_some]; simp only [w]; rw [if_neg c0, if_neg c1, if_pos c2, e2, Option.bind_some]; simp only; rw [if_pos h5], by omega, by omega⟩
      · obtain ⟨y, q2, s2, e2, h5, h6⟩ := poly_l0 h m hm' (m + 1).toNat 0 0 q1 s1 (by omega) (by omega) (by omega) (by omega)
        exact ⟨y, q2, s2, fun k hk => by unfold spec_l1Cur_poly.f; rw [e, Option.bind_some]; simp only [w]; rw [if_neg c0, if_neg c1, if_neg c2]; exact e2 k (by omega), by omega, by omega⟩
end Go.Proofs.Ytigkmdlbijdoaaa.Dr

namespace Go.Proofs.Ytigkmdlbijdoaaa.Pf
open Go.RowKit Go.Proofs.Ytigkmdlbijdoaaa.P Go.Proofs.Ytigkmdlbijdoaaa.Bt Go.Proofs.Ytigkmdlbijdoaaa.Gf Go.Proofs.YtigkmdlbijdoaaaW.PrintWords Go.Proofs.YtigkmdlbijdoaaaW.PrintLast Go.Proofs.YtigkmdlbijdoaaaW.PrintMore
set_option linter.unusedVariables false
set_option linter.unusedSimpArgs false

theorem pow62 : (2 : Nat) ^ 62 = 4611686018427387904 := rfl
theorem pow63 : (2 : Nat) ^ 63 = 9223372036854775808 := rfl
theorem bl_le62 {n : Nat} (h : n < 4611686018427387904) : bl n ≤ 62 := bl_le_iff.2 (by rw [pow62]; exact h)
theorem lt_of_bl {n : Nat} (h : bl n ≤ 62) : n < 4611686018427387904 := by have := bl_le_iff.1 h; rwa [pow62] at this
theorem bl41 {n : Nat} (h : (n : Int) ≤ 2199023255551) : bl n ≤ 41 := bl_le_iff.2 (by have : (2 : Nat) ^ 41 = 2199023255552 := rfl; omega)
theorem bl_pos' {n : Nat} (h : n ≠ 0) : 0 < bl n := Nat.pos_of_ne_zero (fun e => h (bl_eq_zero.1 e))

theorem two_nat (n : Nat) : (n : Int) * 2 = ((2 * n : Nat) : Int) := by omega
theorem soTop_l0 : ∀ (d n k : Nat) (c : Int), bl n = d → d ≤ 62 → -1 ≤ c → c + d ≤ 100 → d < k → spec_soTop.l0 k (n : Int) c = some (c + (d : Int)) := by
  intro d
  induction d with
  | zero =>
    intro n k c hn _ _ _ hk
    obtain ⟨k, rfl⟩ : ∃ m, k = m + 1 := ⟨k - 1, by omega⟩
    have : n = 0 := bl_eq_zero.1 hn
    subst this
    rw [spec_soTop.l0, if_neg (by omega)]
    simp
  | succ d ih =>
    intro n k c hn hd h1 h2 hk
    obtain ⟨k, rfl⟩ : ∃ m, k = m + 1 := ⟨k - 1, by omega⟩
    have h0 : n ≠ 0 := fun e => by rw [e, bl_zero] at hn; omega
    have hlt := lt_of_bl (n := n) (by omega)
    rw [spec_soTop.l0, if_pos (by omega), tdiv_two, wrap_nat (by omega), wrap_id (by omega) (by omega)]
    have hb := bl_half h0
    rw [ih (n / 2) k (c + 1) (by omega) (by omega) (by omega) (by omega) (by omega)]
    congr 1; omega
theorem soTop_at (n : Nat) (h : bl n ≤ 62) : ∀ k, bl n < k → spec_soTop.f k (n : Int) = some ((bl n : Int) - 1) := by
  intro k hk
  unfold spec_soTop.f
  rw [soTop_l0 (bl n) n k (-1) rfl h (by omega) (by omega) hk, Int.add_comm]
  rfl
theorem poDegree_at (n : Nat) (h : bl n ≤ 62) : ∀ k, 62 < k → spec_poDegree.f k (n : Int) = some ((bl n : Int) - 1) := by
  intro k hk
  unfold spec_poDegree.f
  rw [soTop_at n h k (by omega)]
  rfl
theorem u64_nat {n : Nat} (h : n < 18446744073709551616) : IntKind.u64.wrap (n : Int) = n := by
  rw [IntKind.wrap_u64]; omega
theorem top_at (n : Nat) (h : bl n ≤ 62) : impl_top.f (n : Int) = some ((bl n : Int) - 1) := by
  have hlt := lt_of_bl h
  unfold impl_top.f bits_Len.f bits_Len64.f
  rw [u64_nat (by omega), if_pos (by omega), Int.toNat_natCast, bitLen_bl n (by omega)]
  simp only [Option.bind_some]
  rw [wrap_id (by omega) (by omega)]
theorem degree_at (n : Nat) (h : bl n ≤ 62) : impl_degree.f (n : Int) = some ((bl n : Int) - 1) := by
  unfold impl_degree.f; rw [top_at n h]; rfl
theorem grIn_at (s i : Nat) (hs : s < 9223372036854775808) : spec_grIn.f (s : Int) (i : Int) = some (s.testBit i) := by
  unfold spec_grIn.f; rw [if_pos (by omega), grIn_val hs]
theorem has_at (s i : Nat) (hs : s < 9223372036854775808) : impl_has.f (s : Int) (i : Int) = some (s.testBit i) := by
  unfold impl_has.f; rw [if_pos (by omega), has_val hs]
theorem l1In_at (a b c : Int) : spec_l1In.f a b c = some (decide (b ≤ a) && decide (a ≤ c)) := by
  unfold spec_l1In.f
  by_cases h : b ≤ a
  · rw [if_pos h]; simp [h]
  · rw [if_neg h]; simp [h]
theorem in_at (a b c : Int) : impl_in.f a b c = some (decide (b ≤ a) && decide (a ≤ c)) := by
  unfold impl_in.f
  by_cases h : b ≤ a
  · rw [if_pos h]; simp [h]
  · rw [if_neg h]; simp [h]
theorem poGood_at (a : Int) : spec_poGood.f a = some (decide (0 ≤ a) && decide (a ≤ 2199023255551)) := by
  unfold spec_poGood.f; rw [l1In_at]; rfl

/-! ### products -/
theorem poTimes_l0 : ∀ (d p q out k : Nat), bl q = d → bl p + d ≤ 62 → bl out ≤ 62 → d < k →
    spec_poTimes.l0 k (p : Int) (q : Int) (out : Int) = some (((out ^^^ mul p q : Nat)) : Int) := by
  intro d
  induction d with
  | zero =>
    intro p q out k hq _ _ hk
    obtain ⟨k, rfl⟩ : ∃ m, k = m + 1 := ⟨k - 1, by omega⟩
    have : q = 0 := bl_eq_zero.1 hq
    subst this
    rw [spec_poTimes.l0, if_neg (by omega), mul_zero, Nat.xor_zero]
  | succ d ih =>
    intro p q out k hq hp ho hk
    obtain ⟨k, rfl⟩ : ∃ m, k = m + 1 := ⟨k - 1, by omega⟩
    have h0 : q ≠ 0 := fun e => by rw [e, bl_zero] at hq; omega
    have hb := bl_half h0
    have hql := lt_of_bl (n := q) (by omega)
    have hpl := lt_of_bl (n := p) (by omega)
    have hol := lt_of_bl ho
    have hp2 : bl (2 * p) ≤ bl p + 1 := by
      by_cases e : p = 0
      · subst e; simp [bl_zero]
      · rw [bl_two_mul e]; omega
    have e2 : wrap64 ((p : Int) * 2) = ((2 * p : Nat) : Int) := by
      rw [show (p : Int) * 2 = ((2 * p : Nat) : Int) from by omega, wrap_nat (by omega)]
    rw [spec_poTimes.l0, if_pos (by omega), tmod_two, tdiv_two, wrap_nat (by omega), e2]
    rw [mul_step p q]
    by_cases h1 : q % 2 = 1
    · rw [if_pos (by omega), if_pos h1, bits_xor (by omega) (by omega), ih (2 * p) (q / 2) (out ^^^ p) k (by omega) (by omega) (bl_xor_le _ _ _ ho (by omega)) (by omega), mul_two_left, Nat.xor_assoc]
    · rw [if_neg (by omega), if_neg h1, ih (2 * p) (q / 2) out k (by omega) (by omega) ho (by omega), mul_two_left, Nat.zero_xor]
theorem poTimes_at (p q : Nat) (h : bl p + bl q ≤ 62) (k : Nat) (hk : 62 < k) : spec_poTimes.f k (p : Int) (q : Int) = some ((mul p q : Nat) : Int) := by
  unfold spec_poTimes.f
  have := poTimes_l0 (bl q) p q 0 k rfl h (by rw [bl_zero]; omega) (by omega)
  rw [Nat.zero_xor] at this
  exact this
/-- The bits of q below k, times p. -/
theorem mul_low (p q k : Nat) : mul p (q % 2 ^ (k + 1)) = mul p (q % 2 ^ k) ^^^ (if q.testBit k = true then p <<< k else 0) := by
  have e : q % 2 ^ (k + 1) = (q % 2 ^ k) ^^^ (if q.testBit k = true then 1 <<< k else 0) := by
    apply Nat.eq_of_testBit_eq
    intro i
    rw [Nat.testBit_xor, Nat.testBit_mod_two_pow, Nat.testBit_mod_two_pow]
    have : (if q.testBit k = true then 1 <<< k else 0 : Nat).testBit i = (decide (i = k) && q.testBit k) := by
      split
      · rename_i h; rw [Nat.shiftLeft_eq, Nat.one_mul, Nat.testBit_two_pow, h, Bool.and_true]
        simp only [eq_comm]
      · rename_i h; simp at h; simp [h]
    rw [this]
    by_cases h1 : i < k
    · simp [h1, show i < k + 1 by omega, show ¬ i = k by omega]
    · by_cases h2 : i = k
      · subst h2; simp
      · simp [h1, h2, show ¬ i < k + 1 by omega]
  rw [e, mul_xor_right]
  congr 1
  split
  · rw [mul_shift]
  · rw [mul_zero]
theorem times_l0 : ∀ (d p q i k : Nat), bl q - i = d → i ≤ bl q → bl p + bl q ≤ 62 → d < k →
    impl_times.l0 k (p : Int) (q : Int) ((mul p (q % 2 ^ i) : Nat) : Int) (i : Int) = some ((mul p q : Nat) : Int) := by
  intro d
  induction d with
  | zero =>
    intro p q i k hd hi h hk
    obtain ⟨k, rfl⟩ : ∃ m, k = m + 1 := ⟨k - 1, by omega⟩
    have hql := lt_of_bl (n := q) (by omega)
    have e : i = bl q := by omega
    have hq : q < 2 ^ i := by rw [e]; exact lt_bl q
    rw [impl_times.l0, if_pos (by omega), shr_nat (by omega), Nat.shiftRight_eq_div_pow, Nat.div_eq_of_lt hq, if_neg (by omega), Nat.mod_eq_of_lt hq]
  | succ d ih =>
    intro p q i k hd hi h hk
    obtain ⟨k, rfl⟩ : ∃ m, k = m + 1 := ⟨k - 1, by omega⟩
    have hql := lt_of_bl (n := q) (by omega)
    have hpl := lt_of_bl (n := p) (by omega)
    have hge : 2 ^ i ≤ q := by
      rcases Nat.lt_or_ge q (2 ^ i) with h' | h'
      · have := bl_le_iff.2 h'; omega
      · exact h'
    have hpos : 0 < q / 2 ^ i := Nat.div_pos hge (Nat.two_pow_pos i)
    rw [impl_times.l0, if_pos (by omega), shr_nat (by omega), Nat.shiftRight_eq_div_pow, if_pos (by omega), has_at q i (by omega)]
    simp only [Option.bind_some]
    rw [show wrap64 ((i : Int) + 1) = ((i + 1 : Nat) : Int) from wrap_id (by omega) (by omega)]
    have hm := mul_low p q i
    have hbm : bl (mul p (q % 2 ^ i)) ≤ 62 := by
      by_cases e1 : p = 0
      · subst e1; rw [zero_mul, bl_zero]; omega
      · by_cases e2 : q % 2 ^ i = 0
        · rw [e2, mul_zero, bl_zero]; omega
        · have h3 := bl_mul e1 e2
          have h4 : bl (q % 2 ^ i) ≤ bl q := bl_mono (Nat.mod_le _ _)
          omega
    have hml := lt_of_bl hbm
    by_cases hb : q.testBit i = true
    · have hps : bl (p <<< i) ≤ 62 := by
        by_cases e : p = 0
        · subst e; simp [bl_zero]
        · rw [bl_shift e]; omega
      have hpsl := lt_of_bl hps
      have hmul : p * 2 ^ i < 9223372036854775808 := by rw [← Nat.shiftLeft_eq]; omega
      rw [if_pos hb] at hm ⊢
      rw [shl_nat (by omega) hmul, bits_xor (by omega) (by omega), ← hm]
      exact ih p q (i + 1) k (by omega) (by omega) h (by omega)
    · rw [if_neg hb] at hm ⊢
      rw [Nat.xor_zero] at hm
      rw [← hm]
      exact ih p q (i + 1) k (by omega) (by omega) h (by omega)
theorem times_at (p q : Nat) (h : bl p + bl q ≤ 62) (k : Nat) (hk : 62 < k) : impl_times.f k (p : Int) (q : Int) = some ((mul p q : Nat) : Int) := by
  unfold impl_times.f
  have := times_l0 (bl q) p q 0 k (by omega) (by omega) h (by omega)
  simp only [Nat.pow_zero, Nat.mod_one, mul_zero] at this
  exact this

/-! ### division -/
theorem or_bit {a k : Nat} (h : a.testBit k = false) : a ||| (1 <<< k) = a ^^^ (1 <<< k) := by
  apply Nat.eq_of_testBit_eq
  intro i
  rw [Nat.testBit_or, Nat.testBit_xor, Nat.shiftLeft_eq, Nat.one_mul, Nat.testBit_two_pow]
  by_cases e : k = i
  · subst e; simp [h]
  · simp [e]
theorem bl_one_shift (k : Nat) : bl (1 <<< k) = k + 1 := by rw [bl_shift (by omega)]; show 1 + k = _; omega
theorem shl_one {k : Nat} (h : k ≤ 61) : shl .i64 1 (k : Int) = ((1 <<< k : Nat) : Int) := by
  have h2 : (1 : Nat) * 2 ^ k < 9223372036854775808 := by
    have := Nat.pow_le_pow_right (n := 2) (by omega) h
    have e : (2 : Nat) ^ 61 = 2305843009213693952 := rfl
    omega
  exact shl_nat (a := 1) (by omega) h2
theorem divide_l0 (q : Nat) (hq : q ≠ 0) : ∀ (d p out k : Nat), bl p = d → d ≤ 61 → bl q ≤ 61 → bl out ≤ 62 → (∀ i, i + bl q ≤ d → out.testBit i = false) → d < k →
    impl_divide.l0 k (p : Int) (q : Int) (out : Int) = some (((out ^^^ (divMod p q).1 : Nat) : Int), (((divMod p q).2 : Nat) : Int)) := by
  intro d
  induction d using Nat.strongRecOn with
  | _ d ih =>
    intro p out k hp hd hqb ho hz hk
    obtain ⟨k, rfl⟩ : ∃ m, k = m + 1 := ⟨k - 1, by omega⟩
    have hpl := lt_of_bl (n := p) (by omega)
    have hql := lt_of_bl (n := q) (by omega)
    have hol := lt_of_bl ho
    rw [impl_divide.l0, degree_at p (by omega), degree_at q (by omega)]
    simp only [Option.bind_some]
    by_cases h : bl q ≤ bl p
    · have hlt := down_lt hq h
      rw [if_pos (by omega)]
      have e1 : wrap64 ((bl p : Int) - 1 - ((bl q : Int) - 1)) = ((bl p - bl q : Nat) : Int) := by rw [wrap_id (by omega) (by omega)]; omega
      have hqs : bl (q <<< (bl p - bl q)) ≤ 62 := by rw [bl_shift hq]; omega
      have hqsl := lt_of_bl hqs
      have hb0 : 0 < bl q := bl_pos' hq
      have hos := bl_one_shift (bl p - bl q)
      have hosl := lt_of_bl (n := 1 <<< (bl p - bl q)) (by omega)
      rw [e1, if_pos (by omega), shl_nat (by omega) (by rw [← Nat.shiftLeft_eq]; omega), bits_xor (by omega) (by omega), shl_one (by omega), bits_or (by omega) (by omega)]
      have hbit := hz (bl p - bl q) (by omega)
      rw [or_bit hbit]
      rw [ih (bl (p ^^^ q <<< (bl p - bl q))) (by omega) (p ^^^ q <<< (bl p - bl q)) (out ^^^ 1 <<< (bl p - bl q)) k rfl (by omega) hqb (bl_xor_le _ _ _ ho (by omega)) ?_ (by omega)]
      · rw [divMod_step hq h]
        simp only
        rw [Nat.xor_assoc, Nat.xor_comm (1 <<< _)]
      · intro i hi
        rw [Nat.testBit_xor, hz i (by omega), Nat.shiftLeft_eq, Nat.one_mul, Nat.testBit_two_pow, decide_eq_false (by omega)]
        rfl
    · rw [if_neg (by omega), divMod_done (by omega)]
      simp
theorem divide_at (p q : Nat) (hq : q ≠ 0) (hp : bl p ≤ 61) (hqb : bl q ≤ 61) (k : Nat) (hk : 62 < k) : impl_divide.f k (p : Int) (q : Int) = some (((divMod p q).1 : Int), ((divMod p q).2 : Int)) := by
  unfold impl_divide.f
  have := divide_l0 q hq (bl p) p 0 k rfl hp hqb (by rw [bl_zero]; omega) (by simp) (by omega)
  rw [Nat.zero_xor] at this
  exact this
theorem modulo_at (p q : Nat) (hq : q ≠ 0) (hp : bl p ≤ 61) (hqb : bl q ≤ 61) (k : Nat) (hk : 62 < k) : impl_modulo.f k (p : Int) (q : Int) = some ((rest p q : Nat) : Int) := by
  unfold impl_modulo.f
  rw [divide_at p q hq hp hqb k hk]
  rfl
theorem poDivide_l0 (q : Nat) (hq : q ≠ 0) (hqb : bl q ≤ 61) : ∀ (c p out k : Nat), bl p + 1 ≤ c + bl q → c + bl q ≤ 62 → bl out ≤ 62 → (∀ i, i < c → out.testBit i = false) → c + 62 < k →
    spec_poDivide.l0 k (p : Int) (q : Int) (out : Int) ((c : Int) - 1) = some (((out ^^^ (divMod p q).1 : Nat) : Int), (((divMod p q).2 : Nat) : Int)) := by
  intro c
  induction c with
  | zero =>
    intro p out k hp hc ho hz hk
    obtain ⟨k, rfl⟩ : ∃ m, k = m + 1 := ⟨k - 1, by omega⟩
    rw [spec_poDivide.l0, if_neg (by omega), divMod_done (by omega)]
    simp
  | succ c ih =>
    intro p out k hp hc ho hz hk
    obtain ⟨k, rfl⟩ : ∃ m, k = m + 1 := ⟨k - 1, by omega⟩
    have hb0 : 0 < bl q := bl_pos' hq
    have hpl := lt_of_bl (n := p) (by omega)
    have hql := lt_of_bl (n := q) (by omega)
    have hol := lt_of_bl ho
    rw [spec_poDivide.l0, if_pos (by omega), poDegree_at q (by omega) k (by omega)]
    simp only [Option.bind_some]
    have e1 : wrap64 (((c + 1 : Nat) : Int) - 1 + ((bl q : Int) - 1)) = ((c + (bl q - 1) : Nat) : Int) := by rw [wrap_id (by omega) (by omega)]; omega
    have e2 : wrap64 (((c + 1 : Nat) : Int) - 1 - 1) = (c : Int) - 1 := by rw [wrap_id (by omega) (by omega)]; omega
    have e3 : ((c + 1 : Nat) : Int) - 1 = (c : Int) := by omega
    rw [e1, e2, e3, grIn_at p _ (by omega)]
    simp only [Option.bind_some]
    by_cases hb : p.testBit (c + (bl q - 1)) = true
    · have hbp := bl_ge hb
      have hbe : bl p - bl q = c := by omega
      have hlt := down_lt (p := p) hq (by omega)
      rw [hbe] at hlt
      have hqs : bl (q <<< c) ≤ 62 := by rw [bl_shift hq]; omega
      have hqsl := lt_of_bl hqs
      have hos := bl_one_shift c
      have hosl := lt_of_bl (n := 1 <<< c) (by omega)
      rw [if_pos hb, if_pos (by omega), shl_nat (by omega) (by rw [← Nat.shiftLeft_eq]; omega), bits_xor (by omega) (by omega), shl_one (by omega), bits_or (by omega) (by omega), or_bit (hz c (by omega))]
      rw [ih (p ^^^ q <<< c) (out ^^^ 1 <<< c) k (by omega) (by omega) (bl_xor_le _ _ _ ho (by omega)) ?_ (by omega)]
      · rw [divMod_step (p := p) hq (by omega), hbe]
        simp only
        rw [Nat.xor_assoc, Nat.xor_comm (1 <<< _)]
      · intro i hi
        rw [Nat.testBit_xor, hz i (by omega), Nat.shiftLeft_eq, Nat.one_mul, Nat.testBit_two_pow, decide_eq_false (by omega)]
        rfl
    · rw [if_neg hb]
      refine ih p out k ?_ (by omega) ho (fun i hi => hz i (by omega)) (by omega)
      rcases Nat.lt_or_ge (bl p) (c + bl q) with h | h
      · omega
      · exfalso
        have hp0 : p ≠ 0 := fun e => by rw [e, bl_zero] at h; omega
        have := top_bit hp0
        rw [show bl p - 1 = c + (bl q - 1) by omega] at this
        exact hb this
theorem poDivide_at (p q : Nat) (hq : q ≠ 0) (hp : bl p ≤ 61) (hqb : bl q ≤ 61) (k : Nat) (hk : 130 < k) : spec_poDivide.f k (p : Int) (q : Int) = some (((divMod p q).1 : Int), ((divMod p q).2 : Int)) := by
  unfold spec_poDivide.f
  rw [poDegree_at p (by omega) k (by omega), poDegree_at q (by omega) k (by omega)]
  simp only [Option.bind_some]
  rw [wrap_id (by omega) (by omega)]
  rcases Nat.lt_or_ge (bl p) (bl q) with h | h
  · obtain ⟨k, rfl⟩ : ∃ m, k = m + 1 := ⟨k - 1, by omega⟩
    rw [spec_poDivide.l0, if_neg (by omega), divMod_done h]
    rfl
  · have := poDivide_l0 q hq hqb (bl p - bl q + 1) p 0 k (by omega) (by omega) (by rw [bl_zero]; omega) (by simp) (by omega)
    rw [Nat.zero_xor] at this
    rw [← this]
    congr 1; omega
theorem poRest_at (p q : Nat) (hq : q ≠ 0) (hp : bl p ≤ 61) (hqb : bl q ≤ 61) (k : Nat) (hk : 130 < k) : spec_poRest.f k (p : Int) (q : Int) = some ((rest p q : Nat) : Int) := by
  unfold spec_poRest.f
  rw [poDivide_at p q hq hp hqb k hk]
  rfl
end Go.Proofs.Ytigkmdlbijdoaaa.Pf

namespace Go.Proofs.Ytigkmdlbijdoaaa.Pf
open Go.RowKit Go.Proofs.Ytigkmdlbijdoaaa.P Go.Proofs.Ytigkmdlbijdoaaa.Bt Go.Proofs.Ytigkmdlbijdoaaa.Gf Go.Proofs.YtigkmdlbijdoaaaW.PrintWords Go.Proofs.YtigkmdlbijdoaaaW.PrintLast
set_option linter.unusedVariables false
set_option linter.unusedSimpArgs false

/-- More pigeons than holes. -/
theorem pigeons : ∀ (N : Nat) (g : Nat → Nat), (∀ i, i ≤ N → g i < N) → ∃ i j, i < j ∧ j ≤ N ∧ g i = g j
  | 0, g, h => absurd (h 0 (Nat.le_refl 0)) (Nat.not_lt_zero _)
  | N + 1, g, h => by
    by_cases hx : ∃ i, i ≤ N ∧ g i = g (N + 1)
    · obtain ⟨i, hi, e⟩ := hx
      exact ⟨i, N + 1, by omega, Nat.le_refl _, e⟩
    · have hne : ∀ i, i ≤ N → g i ≠ g (N + 1) := fun i hi e => hx ⟨i, hi, e⟩
      obtain ⟨i, j, hij, hj, e⟩ := pigeons N (fun i => if g i = N then g (N + 1) else g i) (fun i hi => by
        have h1 := h i (by omega)
        have h2 := h (N + 1) (Nat.le_refl _)
        have h3 := hne i hi
        show (if g i = N then g (N + 1) else g i) < N
        split <;> omega)
      refine ⟨i, j, hij, by omega, ?_⟩
      have h1 := hne i (by omega)
      have h2 := hne j hj
      split at e <;> split at e <;> omega

/-- Powers of x, reduced. -/
def pw (p : Nat) : Nat → Nat
  | 0 => 1
  | n + 1 => rest (2 * pw p n) p
theorem pw_lt {p : Nat} (hp : 2 ≤ bl p) : ∀ n, bl (pw p n) < bl p
  | 0 => by show 1 < _; omega
  | n + 1 => rest_lt (fun e => by rw [e, bl_zero] at hp; omega) _
/-- x may be cancelled. -/
theorem cancel {p a b : Nat} (hodd : p % 2 = 1) (ha : bl a < bl p) (hb : bl b < bl p) (h : rest (2 * a) p = rest (2 * b) p) : a = b := by
  have hp0 : p ≠ 0 := by omega
  have h1 : rest (2 * a ^^^ 2 * b) p = 0 := by rw [rest_xor hp0, h, Nat.xor_self]
  obtain ⟨s, hs⟩ := (rest_zero_iff hp0).1 h1
  rw [← two_xor] at hs
  have h2 : mul p s = 2 * (a ^^^ b) := by rw [mul_comm]; exact hs
  have h3 : s % 2 = 0 := by
    rw [mul_comm, mul_step] at h2
    have h5 : (if p % 2 = 1 then s else 0) ^^^ 2 * mul s (p / 2) = 2 * (a ^^^ b) := h2
    rw [if_pos hodd] at h5
    have h4 := @Nat.xor_mod_two_eq_one s (2 * mul s (p / 2))
    rw [h5] at h4
    have h6 : 2 * (a ^^^ b) % 2 = 0 := by omega
    have h7 : 2 * mul s (p / 2) % 2 = 0 := by omega
    rw [h6, h7] at h4
    simp at h4
    exact h4
  have h4 : mul p (s / 2) = a ^^^ b := by
    have : s = 2 * (s / 2) := by omega
    rw [this, mul_two] at h2
    omega
  by_cases hs0 : s / 2 = 0
  · rw [hs0, mul_zero] at h4
    exact xor_eq_zero.1 h4.symm
  · have h5 := bl_mul hp0 hs0
    rw [h4] at h5
    have h6 := bl_xor_le a b (bl p - 1) (by omega) (by omega)
    have h7 := bl_pos' hs0
    omega
theorem pw_cancel {p : Nat} (hp : 2 ≤ bl p) (hodd : p % 2 = 1) : ∀ (i d : Nat), pw p i = pw p (i + d) → pw p d = 1
  | 0, d, h => by rw [Nat.zero_add] at h; exact h.symm
  | i + 1, d, h => by
    rw [show i + 1 + d = (i + d) + 1 by omega] at h
    exact pw_cancel hp hodd i d (cancel hodd (pw_lt hp i) (pw_lt hp (i + d)) h)
/-- Some power is 1. -/
theorem order_exists {p : Nat} (hp : 2 ≤ bl p) (hodd : p % 2 = 1) : ∃ n, 1 ≤ n ∧ n ≤ 2 ^ bl p ∧ pw p n = 1 := by
  obtain ⟨i, j, hij, hj, e⟩ := pigeons (2 ^ bl p) (pw p) (fun i _ => bl_le_iff.1 (by have := pw_lt hp i; omega))
  refine ⟨j - i, by omega, by omega, pw_cancel hp hodd i (j - i) ?_⟩
  rw [show i + (j - i) = j by omega]; exact e
/-- The least such power: from n on, at most d further. -/
theorem order_l0 {p : Nat} (hp : 2 ≤ bl p) (hpb : bl p ≤ 41) : ∀ (d n : Nat), n + d ≤ 4611686018427387904 → (∃ m, m ≤ d ∧ pw p (n + m) = 1) →
    ∃ r : Nat, n ≤ r ∧ r ≤ n + d ∧ pw p r = 1 ∧ (∀ j, n ≤ j → j < r → pw p j ≠ 1) ∧
      ∀ k, d + 200 < k → impl_OrderOfPoly.l0 k (p : Int) ((pw p n : Nat) : Int) (n : Int) = some ((r : Int), true) ∧ spec_OrderOfPoly.l0 k (p : Int) (n : Int) ((pw p n : Nat) : Int) = some ((r : Int), true) := by
  intro d
  have hp0 : p ≠ 0 := fun e => by rw [e, bl_zero] at hp; omega
  have h1 : rest 1 p = 1 := rest_of_lt (by show 1 < _; omega)
  have hr1 : ∀ k, 130 < k → spec_poRest.f k 1 (p : Int) = some 1 := fun k hk => by
    have := poRest_at 1 p hp0 (by show 1 ≤ _; omega) (by omega) k hk
    rw [h1] at this
    exact this
  induction d with
  | zero =>
    intro n hn ⟨m, hm, e⟩
    have : m = 0 := by omega
    subst this
    rw [Nat.add_zero] at e
    refine ⟨n, by omega, by omega, e, fun j _ _ => by omega, fun k hk => ?_⟩
    obtain ⟨k, rfl⟩ : ∃ m, k = m + 1 := ⟨k - 1, by omega⟩
    rw [impl_OrderOfPoly.l0, spec_OrderOfPoly.l0, e, hr1 k (by omega)]
    simp
  | succ d ih =>
    intro n hn ⟨m, hm, e⟩
    by_cases h : pw p n = 1
    · refine ⟨n, by omega, by omega, h, fun j _ _ => by omega, fun k hk => ?_⟩
      obtain ⟨k, rfl⟩ : ∃ m, k = m + 1 := ⟨k - 1, by omega⟩
      rw [impl_OrderOfPoly.l0, spec_OrderOfPoly.l0, h, hr1 k (by omega)]
      simp
    · obtain ⟨m, rfl⟩ : ∃ m', m = m' + 1 := ⟨m - 1, by
        have : m ≠ 0 := fun e0 => by subst e0; exact h e
        omega⟩
      obtain ⟨r, a1, a2, a3, a4, a5⟩ := ih (n + 1) (by omega) ⟨m, by omega, by rw [← e]; congr 1; omega⟩
      refine ⟨r, by omega, by omega, a3, fun j hj1 hj2 => ?_, fun k hk => ?_⟩
      · by_cases ej : j = n
        · subst ej; exact h
        · exact a4 j (by omega) hj2
      · obtain ⟨k, rfl⟩ : ∃ m, k = m + 1 := ⟨k - 1, by omega⟩
        obtain ⟨b1, b2⟩ := a5 k (by omega)
        have hlt := pw_lt hp n
        have hpn := lt_of_bl (n := pw p n) (by omega)
        have h2 : bl (2 * pw p n) ≤ 61 := by
          by_cases z : pw p n = 0
          · rw [z]; simp [bl_zero]
          · rw [bl_two_mul z]; omega
        have h2l := lt_of_bl (n := 2 * pw p n) (by omega)
        have hi : ¬ ((pw p n : Nat) : Int) = 1 := by omega
        rw [impl_OrderOfPoly.l0, spec_OrderOfPoly.l0, hr1 k (by omega)]
        simp only [Option.bind_some]
        rw [if_neg hi, if_neg hi, two_nat, wrap_nat (by omega), modulo_at _ p hp0 h2 (by omega) k (by omega), poRest_at _ p hp0 h2 (by omega) k (by omega)]
        simp only [Option.bind_some]
        rw [show wrap64 ((n : Int) + 1) = ((n + 1 : Nat) : Int) from wrap_id (by omega) (by omega)]
        exact ⟨b1, b2⟩
/-- Both sides tell the least power of x that is 1. -/
theorem order_at {p : Nat} (hp : 2 ≤ bl p) (hpb : bl p ≤ 13) (hodd : p % 2 = 1) : ∃ r : Nat, 1 ≤ r ∧ r ≤ 8192 ∧ pw p r = 1 ∧ (∀ j, 1 ≤ j → j < r → pw p j ≠ 1) ∧
    ∀ k, 9000 < k → impl_OrderOfPoly.f k (p : Int) = some ((r : Int), true) ∧ spec_OrderOfPoly.f k (p : Int) = some ((r : Int), true) := by
  obtain ⟨n, n1, n2, n3⟩ := order_exists hp hodd
  have n4 : 2 ^ bl p ≤ 2 ^ 13 := Nat.pow_le_pow_right (by omega) hpb
  have n5 : (2 : Nat) ^ 13 = 8192 := rfl
  have hp0 : p ≠ 0 := by omega
  have hpl : p < 8192 := by have := bl_le_iff.1 hpb; omega
  obtain ⟨r, a1, a2, a3, a4, a5⟩ := order_l0 hp (by omega) (n - 1) 1 (by omega) ⟨n - 1, by omega, by rw [show 1 + (n - 1) = n by omega]; exact n3⟩
  refine ⟨r, a1, by omega, a3, a4, fun k hk => ?_⟩
  obtain ⟨k, rfl⟩ : ∃ m, k = m + 1 := ⟨k - 1, by omega⟩
  obtain ⟨b1, b2⟩ := a5 k (by omega)
  have hm : Int.tmod (p : Int) 2 = 1 := by rw [tmod_two]; omega
  have hd := poDegree_at p (by omega) (k + 1) (by omega)
  have hbit : p.testBit 0 = true := by rw [Nat.testBit_zero]; simp [hodd]
  have m2 := modulo_at 2 p hp0 (by show 2 ≤ _; omega) (by omega) k (by omega)
  have r2 := poRest_at 2 p hp0 (by show 2 ≤ _; omega) (by omega) k (by omega)
  have e2 : rest 2 p = pw p 1 := by show _ = rest (2 * 1) p; rfl
  constructor
  · unfold impl_OrderOfPoly.f impl_isPoly.f
    simp only [Option.bind_some, List.all_cons, List.all_nil, Bool.and_true]
    have hin : (decide (0 ≤ (p : Int)) && decide ((p : Int) ≤ 2199023255551)) = true := by simp; omega
    rw [hin, if_pos rfl, show (0 : Int) = ((0 : Nat) : Int) from rfl, has_at p 0 (by omega), hbit]
    simp only [Option.bind_some, if_true]
    rw [degree_at p (by omega)]
    simp only [Option.bind_some]
    rw [in_at]
    have hin2 : (decide (1 ≤ (bl p : Int) - 1) && decide ((bl p : Int) - 1 ≤ 12)) = true := by simp; omega
    rw [hin2]
    simp only [Option.bind_some, Bool.not_true]
    rw [impl_OrderOfPoly.j0, if_neg (by simp), show (2 : Int) = ((2 : Nat) : Int) from rfl, m2]
    simp only [Option.bind_some]
    rw [e2]
    exact b1
  · unfold spec_OrderOfPoly.f
    rw [poGood_at, hm, hd]
    have hin : (decide (0 ≤ (p : Int)) && decide ((p : Int) ≤ 2199023255551)) = true := by simp; omega
    rw [hin]
    simp only [Option.bind_some, if_true]
    rw [l1In_at, if_neg (by omega)]
    have hin2 : (decide (1 ≤ (bl p : Int) - 1) && decide ((bl p : Int) - 1 ≤ 12)) = true := by simp; omega
    rw [hin2]
    simp only [Option.bind_some, Bool.not_true]
    rw [spec_OrderOfPoly.j0, if_neg (by simp), show (2 : Int) = ((2 : Nat) : Int) from rfl, r2]
    simp only [Option.bind_some]
    rw [e2]
    exact b2
/-- .. and else both say no. -/
theorem order_no (p : Int) (h : ¬ (0 ≤ p ∧ p ≤ 2199023255551 ∧ p % 2 = 1 ∧ 2 ≤ bl p.toNat ∧ bl p.toNat ≤ 13)) (k : Nat) (hk : 200 < k) : impl_OrderOfPoly.f k p = some (0, false) ∧ spec_OrderOfPoly.f k p = some (0, false) := by
  obtain ⟨k, rfl⟩ : ∃ m, k = m + 1 := ⟨k - 1, by omega⟩
  unfold impl_OrderOfPoly.f spec_OrderOfPoly.f impl_isPoly.f
  rw [poGood_at]
  simp only [Option.bind_some, List.all_cons, List.all_nil, Bool.and_true]
  by_cases hin : (decide (0 ≤ p) && decide (p ≤ 2199023255551)) = true
  · rw [hin]
    simp only [Bool.and_eq_true, decide_eq_true_eq] at hin
    obtain ⟨p, rfl⟩ := Int.eq_ofNat_of_zero_le hin.1
    rw [Int.toNat_natCast] at h
    have hpb := bl41 hin.2
    rw [if_pos rfl, if_pos rfl, show (0 : Int) = ((0 : Nat) : Int) from rfl, has_at p 0 (by omega), tmod_two, Nat.testBit_zero]
    simp only [Option.bind_some]
    by_cases ho : p % 2 = 1
    · rw [if_pos (by simp [ho]), if_neg (by omega), degree_at p (by omega), poDegree_at p (by omega) (k + 1) (by omega)]
      simp only [Option.bind_some]
      rw [in_at, l1In_at]
      have : (decide (1 ≤ (bl p : Int) - 1) && decide ((bl p : Int) - 1 ≤ 12)) = false := by
        rw [Bool.eq_false_iff]
        simp
        omega
      rw [this]
      simp only [Option.bind_some, Bool.not_false]
      rw [impl_OrderOfPoly.j0, spec_OrderOfPoly.j0]
      simp
    · rw [if_neg (by simp [ho]), if_pos (by omega), impl_OrderOfPoly.j0, spec_OrderOfPoly.j0]
      simp
  · rw [Bool.eq_false_iff.mpr hin, if_neg (by simp), if_neg (by simp), impl_OrderOfPoly.j0, spec_OrderOfPoly.j0]
    simp
end Go.Proofs.Ytigkmdlbijdoaaa.Pf

namespace Go.Proofs.Ytigkmdlbijdoaaa.Gf
set_option linter.unusedVariables false
set_option linter.unusedSimpArgs false

def fbs : Nat → Nat → Nat → Nat
  | 0, a, _ => a
  | n + 1, a, b => fbs n b (2 * b ^^^ a)
/-- the n-th -/
def fb (n : Nat) : Nat := fbs n 0 1
theorem fbs_step : ∀ (n a b : Nat), fbs (n + 2) a b = 2 * fbs (n + 1) a b ^^^ fbs n a b := by
  intro n
  induction n with
  | zero => intro a b; rfl
  | succ n ih => intro a b; exact ih b (2 * b ^^^ a)
theorem fb_step (n : Nat) : fb (n + 2) = 2 * fb (n + 1) ^^^ fb n := fbs_step n 0 1
theorem fb_bl (n : Nat) : bl (fb n) = n ∧ bl (fb (n + 1)) = n + 1 := by
  induction n with
  | zero => exact ⟨rfl, by decide⟩
  | succ n ih =>
    refine ⟨ih.2, ?_⟩
    have h0 : fb (n + 1) ≠ 0 := fun e => by have := ih.2; rw [e, bl_zero] at this; omega
    rw [fb_step, bl_xor_ne (by rw [bl_two_mul h0]; omega), bl_two_mul h0]
    omega
def mulF : Nat → Nat → Nat → Nat
  | 0, _, _ => 0
  | f + 1, a, b => if b = 0 then 0 else (if b % 2 = 1 then a else 0) ^^^ (2 * mulF f a (b / 2))
theorem mulF_eq : ∀ (f a b : Nat), b < 2 ^ f → mulF f a b = mul a b := by
  intro f
  induction f with
  | zero => intro a b h; rw [show b = 0 by omega, mul_zero]; rfl
  | succ f ih =>
    intro a b h
    rw [mulF]
    by_cases c : b = 0
    · rw [if_pos c, c, mul_zero]
    · rw [if_neg c, ih a (b / 2) (by rw [Nat.pow_succ] at h; omega), ← mul_step]
def restF : Nat → Nat → Nat → Nat
  | 0, p, _ => p
  | f + 1, p, q => if bl q ≤ bl p then restF f (p ^^^ (q <<< (bl p - bl q))) q else p
theorem restF_eq {q : Nat} (hq : q ≠ 0) : ∀ (f p : Nat), bl p < f → restF f p q = rest p q := by
  intro f
  induction f with
  | zero => intro p h; omega
  | succ f ih =>
    intro p h
    rw [restF]
    by_cases c : bl q ≤ bl p
    · have := down_lt hq c
      rw [if_pos c, ih _ (by omega)]
      unfold rest
      rw [divMod_step hq c]
    · rw [if_neg c, rest_of_lt (by omega)]
def gcdF : Nat → Nat → Nat → Nat
  | 0, p, _ => p
  | f + 1, p, q => if q = 0 then p else gcdF f q (restF 64 p q)
theorem gcdF_eq : ∀ (f p q : Nat), bl p ≤ 60 → bl q ≤ 60 → bl q < f → gcdF f p q = gcd p q := by
  intro f
  induction f with
  | zero => intro p q _ _ h; omega
  | succ f ih =>
    intro p q hp hq h
    rw [gcdF]
    by_cases c : q = 0
    · rw [if_pos c, c, gcd_zero]
    · have := rest_lt c p
      rw [if_neg c, restF_eq c 64 p (by omega), gcd_step c, ih q (rest p q) hq (by omega) (by omega)]
def chkG : Bool := (List.range 42).all fun n => (List.range 42).all fun m => gcdF 64 (fb n) (fb m) == fb (Nat.gcd m n)
theorem chkG_true : chkG = true := by decide +kernel
theorem fb_gcd {n m : Nat} (hn : n ≤ 41) (hm : m ≤ 41) : gcd (fb n) (fb m) = fb (Nat.gcd m n) := by
  have h := chkG_true
  unfold chkG at h
  rw [List.all_eq_true] at h
  have h1 := h n (List.mem_range.2 (by omega))
  rw [List.all_eq_true] at h1
  have h2 := h1 m (List.mem_range.2 (by omega))
  rw [beq_iff_eq] at h2
  have a := (fb_bl n).1
  have b := (fb_bl m).1
  rw [← h2, gcdF_eq 64 _ _ (by omega) (by omega) (by omega)]
def chkD : Bool := (List.range 21).all fun n => mulF 64 (mulF 64 (fb n) (fb n)) 2 == fb (2 * n)
theorem chkD_true : chkD = true := by decide +kernel
theorem fb_double {n : Nat} (hn : n ≤ 20) : mul (mul (fb n) (fb n)) 2 = fb (2 * n) := by
  have h := chkD_true
  unfold chkD at h
  rw [List.all_eq_true] at h
  have h1 := h n (List.mem_range.2 (by omega))
  rw [beq_iff_eq, mulF_eq 64 _ 2 (by decide), mulF_eq 64 (fb n) (fb n) (Nat.lt_of_lt_of_le (lt_bl _) (Nat.pow_le_pow_right (by decide) (by rw [(fb_bl n).1]; omega)))] at h1
  exact h1
theorem rest_two {p : Nat} (hp : p ≠ 0) (x : Nat) : rest (2 * rest x p) p = rest (2 * x) p := by
  have h := rest_rest_mul hp x 2
  rw [mul_comm, mul_comm x] at h
  rw [mul_comm, show mul (rest x p) 2 = 2 * rest x p by rw [show (2 : Nat) = 2 * 1 from rfl, mul_two, mul_one], mul_comm, show mul x 2 = 2 * x by rw [show (2 : Nat) = 2 * 1 from rfl, mul_two, mul_one]] at h
  exact h
end Go.Proofs.Ytigkmdlbijdoaaa.Gf

namespace Go.Proofs.Ytigkmdlbijdoaaa.Pf
open Go.RowKit Go.Proofs.Ytigkmdlbijdoaaa.P Go.Proofs.Ytigkmdlbijdoaaa.Bt Go.Proofs.Ytigkmdlbijdoaaa.Gf Go.Proofs.YtigkmdlbijdoaaaW.PrintWords Go.Proofs.YtigkmdlbijdoaaaW.PrintLast
set_option linter.unusedVariables false
set_option linter.unusedSimpArgs false

def ppow (b : Nat) : Nat → Nat
  | 0 => 1
  | n + 1 => mul (ppow b n) b
theorem ppow_sq (b : Nat) : ∀ n, ppow (mul b b) n = ppow b (2 * n) := by
  intro n
  induction n with
  | zero => rfl
  | succ n ih =>
    rw [ppow, ih, show 2 * (n + 1) = 2 * n + 1 + 1 by omega, ppow, ppow, mul_assoc]
theorem rest_r {m : Nat} (hm : m ≠ 0) (a c : Nat) : rest (mul c (rest a m)) m = rest (mul c a) m := by
  rw [mul_comm, rest_rest_mul hm, mul_comm]
theorem ppow_rest {m : Nat} (hm : m ≠ 0) (a : Nat) : ∀ (n c : Nat), rest (mul c (ppow (rest a m) n)) m = rest (mul c (ppow a n)) m := by
  intro n
  induction n with
  | zero => intro c; rfl
  | succ n ih =>
    intro c
    rw [ppow, ppow, ← mul_assoc, rest_r hm, ← mul_assoc, mul_assoc c, mul_comm (ppow (rest a m) n) a, ← mul_assoc, ih, mul_assoc c a, mul_comm a, ← mul_assoc]
theorem low_bitP {e : Nat} (h : e ≤ 1000000) : Go.bits .and .i64 (e : Int) 1 = ((e % 2 : Nat) : Int) := by
  rw [show (1 : Int) = ((1 : Nat) : Int) from rfl, bits_and (by omega) (by omega), Nat.and_one_is_mod]
theorem half_sP {e : Nat} (h : e ≤ 1000000) : wrap64 (Int.tdiv (e : Int) 2) = ((e / 2 : Nat) : Int) := by rw [tdiv_two, wrap_nat (by omega)]
theorem half_iP (e : Nat) : (e : Int) / 2 = ((e / 2 : Nat) : Int) := by omega
theorem power_l0 (m : Nat) (hm : 2 ≤ bl m) (hm' : bl m ≤ 21) : ∀ (d e out b k : Nat), e < 2 ^ d → e ≤ 1000000 → bl out < bl m → bl b < bl m → d + 200 < k →
    spec_PowerModulo.l0 k (e : Int) (m : Int) (out : Int) (b : Int) = some (((rest (mul out (ppow b e)) m : Nat) : Int), true) ∧ impl_PowerModulo.l0 k (e : Int) (m : Int) (out : Int) (b : Int) = some (((rest (mul out (ppow b e)) m : Nat) : Int), true) := by
  have hm0 : m ≠ 0 := fun h => by subst h; rw [bl_zero] at hm; omega
  have base : ∀ (out b k : Nat), bl out < bl m → 0 < k → spec_PowerModulo.l0 k ((0 : Nat) : Int) (m : Int) (out : Int) (b : Int) = some (((rest (mul out (ppow b 0)) m : Nat) : Int), true) ∧ impl_PowerModulo.l0 k ((0 : Nat) : Int) (m : Int) (out : Int) (b : Int) = some (((rest (mul out (ppow b 0)) m : Nat) : Int), true) := by
    intro out b k ho hk
    obtain ⟨k, rfl⟩ : ∃ q, k = q + 1 := ⟨k - 1, by omega⟩
    rw [show rest (mul out (ppow b 0)) m = out by rw [ppow, mul_one, rest_of_lt ho]]
    exact ⟨by rw [spec_PowerModulo.l0, if_neg (by omega)], by rw [impl_PowerModulo.l0, if_neg (by omega)]⟩
  intro d
  induction d with
  | zero =>
    intro e out b k he _ ho _ hk
    have : e = 0 := by omega
    subst this
    exact base out b k ho (by omega)
  | succ d ih =>
    intro e out b k he hmil ho hb hk
    by_cases h0 : e = 0
    · subst h0
      exact base out b k ho (by omega)
    · obtain ⟨k, rfl⟩ : ∃ q, k = q + 1 := ⟨k - 1, by omega⟩
      have hbb : bl (rest (mul b b) m) < bl m := rest_lt hm0 (mul b b)
      have hmb : ∀ x y, bl x ≤ 21 → bl y ≤ 20 → bl (mul x y) ≤ 61 := by
        intro x y hx hy
        by_cases x0 : x = 0
        · subst x0; rw [zero_mul]; rw [bl_zero]; omega
        · by_cases y0 : y = 0
          · subst y0; rw [mul_zero]; rw [bl_zero]; omega
          · have := bl_mul x0 y0; omega
      have a1 := poTimes_at b b (by omega) k (by omega)
      have a2 := poRest_at (mul b b) m hm0 (hmb b b (by omega) (by omega)) (by omega) k (by omega)
      have b1 := times_at b b (by omega) k (by omega)
      have b2 := modulo_at (mul b b) m hm0 (hmb b b (by omega) (by omega)) (by omega) k (by omega)
      have hlt : e / 2 < 2 ^ d := by rw [Nat.pow_succ] at he; omega
      by_cases c : e % 2 = 1
      · have c1 := poTimes_at out b (by omega) k (by omega)
        have c2 := poRest_at (mul out b) m hm0 (hmb out b (by omega) (by omega)) (by omega) k (by omega)
        have d1 := times_at out b (by omega) k (by omega)
        have d2 := modulo_at (mul out b) m hm0 (hmb out b (by omega) (by omega)) (by omega) k (by omega)
        have hob : bl (rest (mul out b) m) < bl m := rest_lt hm0 (mul out b)
        have e1 : rest (mul (rest (mul out b) m) (ppow (rest (mul b b) m) (e / 2))) m = rest (mul out (ppow b e)) m := by
          rw [ppow_rest hm0, rest_rest_mul hm0, ppow_sq, mul_assoc, mul_comm b, show e = 2 * (e / 2) + 1 by omega, ppow, show (2 * (e / 2) + 1) / 2 = e / 2 by omega]
        obtain ⟨r1, r2⟩ := ih (e / 2) (rest (mul out b) m) (rest (mul b b) m) k hlt (by omega) hob hbb (by omega)
        rw [e1] at r1 r2
        refine ⟨?_, ?_⟩
        · rw [spec_PowerModulo.l0, if_pos (by omega), tmod_two, if_pos (by omega), c1, Option.bind_some, c2, Option.bind_some, a1, Option.bind_some, a2, Option.bind_some, half_sP hmil, r1]
        · rw [impl_PowerModulo.l0, if_pos (by omega), low_bitP hmil, if_pos (by omega), d1, Option.bind_some, d2, Option.bind_some, b1, Option.bind_some, b2, Option.bind_some, half_iP, r2]
      · have e1 : rest (mul out (ppow (rest (mul b b) m) (e / 2))) m = rest (mul out (ppow b e)) m := by
          rw [ppow_rest hm0, ppow_sq, show 2 * (e / 2) = e by omega]
        obtain ⟨r1, r2⟩ := ih (e / 2) out (rest (mul b b) m) k hlt (by omega) ho hbb (by omega)
        rw [e1] at r1 r2
        refine ⟨?_, ?_⟩
        · rw [spec_PowerModulo.l0, if_pos (by omega), tmod_two, if_neg (by omega), a1, Option.bind_some, a2, Option.bind_some, half_sP hmil, r1]
        · rw [impl_PowerModulo.l0, if_pos (by omega), low_bitP hmil, if_neg (by omega), b1, Option.bind_some, b2, Option.bind_some, half_iP, r2]
theorem power_at (p e m : Nat) (hp : bl p ≤ 41) (he : e ≤ 1000000) (hm : 2 ≤ bl m) (hm' : bl m ≤ 21) (k : Nat) (hk : 400 < k) : spec_PowerModulo.f k (p : Int) (e : Int) (m : Int) = some (((rest (ppow p e) m : Nat) : Int), true) ∧ impl_PowerModulo.f k (p : Int) (e : Int) (m : Int) = some (((rest (ppow p e) m : Nat) : Int), true) := by
  have hm0 : m ≠ 0 := fun h => by subst h; rw [bl_zero] at hm; omega
  have e41 : (2 : Nat) ^ 41 = 2199023255552 := rfl
  have hp2 := bl_le_iff.1 hp
  have hm2 := bl_le_iff.1 (show bl m ≤ 41 by omega)
  have q1 : spec_poGood.f (p : Int) = some true := by rw [poGood_at]; simp; omega
  have q2 : spec_poGood.f (m : Int) = some true := by rw [poGood_at]; simp; omega
  have q3 : impl_isPoly.f [(p : Int), (m : Int)] = some true := by unfold impl_isPoly.f; simp; omega
  have q4 : (decide ((1 : Int) ≤ (bl m : Int) - 1) && decide ((bl m : Int) - 1 ≤ 20)) = true := by simp; omega
  have q5 : (decide ((0 : Int) ≤ (e : Int)) && decide ((e : Int) ≤ 1000000)) = true := by simp; omega
  obtain ⟨k, rfl⟩ : ∃ q, k = q + 1 := ⟨k - 1, by omega⟩
  have L := power_l0 m hm hm' 20 e 1 (rest p m) k (by omega) he (by rw [show bl 1 = 1 by decide]; omega) (rest_lt hm0 p) (by omega)
  rw [ppow_rest hm0, one_mul] at L
  constructor
  · unfold spec_PowerModulo.f
    rw [q1, Option.bind_some, if_pos rfl, q2, Option.bind_some, if_pos rfl, poDegree_at m (by omega) (k + 1) (by omega), Option.bind_some, l1In_at, q4, Option.bind_some, if_pos rfl, l1In_at, q5, Option.bind_some, spec_PowerModulo.j0, if_neg (by decide), poRest_at p m hm0 (by omega) (by omega) k (by omega), Option.bind_some]
    exact L.1
  · unfold impl_PowerModulo.f
    rw [q3, Option.bind_some, if_pos rfl, in_at, q5, Option.bind_some, if_pos rfl, degree_at m (by omega), Option.bind_some, in_at, q4, Option.bind_some, impl_PowerModulo.j0, if_neg (by decide), modulo_at p m hm0 (by omega) (by omega) k (by omega), Option.bind_some]
    exact L.2
theorem power_no (p e m : Int) (h : ¬ (0 ≤ p ∧ p ≤ 2199023255551 ∧ 0 ≤ m ∧ m ≤ 2199023255551 ∧ 0 ≤ e ∧ e ≤ 1000000 ∧ 2 ≤ bl m.toNat ∧ bl m.toNat ≤ 21)) (k : Nat) (hk : 400 < k) : spec_PowerModulo.f k p e m = some (0, false) ∧ impl_PowerModulo.f k p e m = some (0, false) := by
  obtain ⟨k, rfl⟩ : ∃ q, k = q + 1 := ⟨k - 1, by omega⟩
  unfold spec_PowerModulo.f impl_PowerModulo.f impl_isPoly.f
  rw [poGood_at, poGood_at]
  simp only [Option.bind_some, List.all_cons, List.all_nil, Bool.and_true]
  by_cases hp : (decide (0 ≤ p) && decide (p ≤ 2199023255551)) = true
  · by_cases hm : (decide (0 ≤ m) && decide (m ≤ 2199023255551)) = true
    · rw [hp, hm]
      simp only [Bool.and_eq_true, decide_eq_true_eq] at hp hm
      obtain ⟨m, rfl⟩ := Int.eq_ofNat_of_zero_le hm.1
      rw [Int.toNat_natCast] at h
      have hb := bl41 hm.2
      simp only [Bool.and_self, if_true]
      rw [poDegree_at m (by omega) (k + 1) (by omega), degree_at m (by omega)]
      simp only [Option.bind_some]
      rw [l1In_at, in_at, l1In_at, in_at]
      simp only [Option.bind_some]
      by_cases c : (decide (1 ≤ ((bl m : Int) - 1)) && decide (((bl m : Int) - 1) ≤ 20)) = true
      · by_cases c' : (decide (0 ≤ e) && decide (e ≤ 1000000)) = true
        · simp only [Bool.and_eq_true, decide_eq_true_eq] at c c'
          exact absurd ⟨hp.1, hp.2, hm.1, hm.2, c'.1, c'.2, by omega, by omega⟩ h
        · rw [c, Bool.eq_false_iff.mpr c']
          simp only [if_true, Bool.not_false, Bool.false_eq_true, if_false]
          rw [spec_PowerModulo.j0, if_pos rfl, impl_PowerModulo.j0, if_pos rfl]
          exact ⟨rfl, rfl⟩
      · rw [Bool.eq_false_iff.mpr c]
        simp only [Bool.false_eq_true, if_false, Bool.not_false]
        rw [spec_PowerModulo.j0, if_pos rfl, impl_PowerModulo.j0, if_pos rfl]
        exact ⟨rfl, by split <;> rfl⟩
    · rw [hp, Bool.eq_false_iff.mpr hm]
      simp only [if_true, Bool.false_eq_true, if_false, Bool.and_false]
      rw [spec_PowerModulo.j0, if_pos rfl, impl_PowerModulo.j0, if_pos rfl]
      exact ⟨rfl, rfl⟩
  · rw [Bool.eq_false_iff.mpr hp]
    simp only [Bool.false_eq_true, if_false, Bool.false_and]
    rw [spec_PowerModulo.j0, if_pos rfl, impl_PowerModulo.j0, if_pos rfl]
    exact ⟨rfl, rfl⟩
theorem pw_ppow {p : Nat} (hp : 2 ≤ bl p) : ∀ n, pw p n = rest (ppow 2 n) p := by
  have hp0 : p ≠ 0 := fun h => by subst h; rw [bl_zero] at hp; omega
  intro n
  induction n with
  | zero => exact (rest_of_lt (by show bl 1 < _; rw [show bl 1 = 1 by decide]; omega)).symm
  | succ n ih =>
    rw [pw, ih, rest_two hp0, ppow, show (2 : Nat) = 2 * 1 from rfl, mul_two, mul_one]
end Go.Proofs.Ytigkmdlbijdoaaa.Pf

namespace Go.Proofs.Ytigkmdlbijdoaaa.Gf
set_option linter.unusedVariables false
set_option linter.unusedSimpArgs false

/-- no divisor from 2 on below q -/
def NoDv (p q : Nat) : Prop := ∀ r, 2 ≤ r → r < q → ¬ Dv r p
def fst (p : Nat) : Nat → Nat → Nat
  | 0, _ => p
  | d + 1, q => if 2 * bl q ≤ bl p + 1 then (if rest p q = 0 then q else fst p d (q + 1)) else p
/-- the least divisor from 2 on -/
def ld (p : Nat) : Nat := fst p p 2
theorem bl_two {n : Nat} (h : 2 ≤ n) : 2 ≤ bl n := by
  rcases Nat.lt_or_ge (bl n) 2 with h1 | h1
  · have := bl_le_iff.1 (show bl n ≤ 1 by omega); omega
  · exact h1
theorem two_of_bl {n : Nat} (h : 2 ≤ bl n) : 2 ≤ n := by
  rcases Nat.lt_or_ge n 2 with h1 | h1
  · have := bl_le_iff.2 (show n < 2 ^ 1 by omega); omega
  · exact h1
theorem lt_of_bl_lt {a b : Nat} (h : bl a < bl b) : a < b := by
  rcases Nat.lt_or_ge a b with h1 | h1
  · exact h1
  · have := bl_mono h1; omega
theorem NoDv.two (p : Nat) : NoDv p 2 := fun r h1 h2 => by omega
theorem NoDv.next {p q : Nat} (h : NoDv p q) (hq : ¬ Dv q p) : NoDv p (q + 1) := fun r h1 h2 hd => by
  rcases Nat.lt_or_ge r q with h3 | h3
  · exact h r h1 h3 hd
  · obtain rfl : r = q := by omega
    exact hq hd
theorem NoDv.part {p q a b : Nat} (h : NoDv p q) (e : mul a b = p) : NoDv a q := fun r h1 h2 hd => h r h1 h2 (e ▸ hd.mul_right b)
/-- A polynomial without small divisors has none but itself. -/
theorem NoDv.whole {p q : Nat} (h : NoDv p q) (hp : 2 ≤ bl p) (hb : bl p + 1 < 2 * bl q) : NoDv p p := fun r h1 h2 hd => by
  obtain ⟨s, hs⟩ := hd
  have hp0 : p ≠ 0 := fun e => by rw [e, bl_zero] at hp; omega
  have hr0 : r ≠ 0 := by omega
  have hs0 : s ≠ 0 := fun e => hp0 (by rw [← hs, e, zero_mul])
  have hbl := bl_mul hs0 hr0
  rw [hs] at hbl
  have hs1 : s ≠ 1 := fun e => by rw [e, one_mul] at hs; omega
  have hs2 : 2 ≤ s := by omega
  rcases Nat.lt_or_ge (bl r) (bl q) with h3 | h3
  · exact h r h1 (lt_of_bl_lt h3) ⟨s, hs⟩
  · exact h s hs2 (lt_of_bl_lt (by omega)) ⟨r, by rw [mul_comm]; exact hs⟩
theorem fst_spec {p : Nat} (hp : 2 ≤ bl p) : ∀ (d q : Nat), 2 ≤ q → p ≤ d + q → NoDv p q → Dv (fst p d q) p ∧ 2 ≤ fst p d q ∧ NoDv p (fst p d q) := by
  intro d
  induction d with
  | zero =>
    intro q hq hd h
    exact ⟨Dv.refl p, two_of_bl hp, fun r h1 h2 => h r h1 (by have h3 : r < p := h2; omega)⟩
  | succ d ih =>
    intro q hq hd h
    have hq0 : q ≠ 0 := by omega
    simp only [fst]
    by_cases h1 : 2 * bl q ≤ bl p + 1
    · rw [if_pos h1]
      by_cases h2 : rest p q = 0
      · rw [if_pos h2]
        exact ⟨(rest_zero_iff hq0).1 h2, hq, h⟩
      · rw [if_neg h2]
        exact ih (q + 1) (by omega) (by omega) (h.next fun hd => h2 ((rest_zero_iff hq0).2 hd))
    · rw [if_neg h1]
      exact ⟨Dv.refl p, two_of_bl hp, h.whole hp (by omega)⟩
theorem ld_spec {p : Nat} (hp : 2 ≤ bl p) : Dv (ld p) p ∧ 2 ≤ ld p ∧ NoDv p (ld p) := fst_spec hp p 2 (by omega) (by omega) (NoDv.two p)
theorem ld_unique {p q : Nat} (hp : 2 ≤ bl p) (hq : 2 ≤ q) (hd : Dv q p) (hn : NoDv p q) : ld p = q := by
  obtain ⟨h1, h2, h3⟩ := ld_spec hp
  rcases Nat.lt_trichotomy (ld p) q with h | h | h
  · exact absurd h1 (hn _ h2 h)
  · exact h
  · exact absurd hd (h3 _ hq h)
theorem quot_mul {p q : Nat} (hq : q ≠ 0) (hd : Dv q p) : mul (divMod p q).1 q = p := by
  have h := (divMod_spec hq p).1
  have h2 : (divMod p q).2 = 0 := (rest_zero_iff hq).2 hd
  rw [h2, Nat.xor_zero] at h
  exact h
theorem quot_bl {p q : Nat} (hp : p ≠ 0) (hq : 2 ≤ bl q) (hd : Dv q p) : bl (divMod p q).1 < bl p ∧ (divMod p q).1 ≠ 0 ∧ bl (divMod p q).1 + bl q = bl p + 1 := by
  have hq0 : q ≠ 0 := fun e => by rw [e, bl_zero] at hq; omega
  have h := quot_mul hq0 hd
  have h0 : (divMod p q).1 ≠ 0 := fun e => hp (by rw [← h, e, zero_mul])
  have := bl_mul h0 hq0
  rw [h] at this
  exact ⟨by omega, h0, by omega⟩
/-- the factors, from the least on -/
def facs (p : Nat) : List Nat := if h : 2 ≤ bl p then ld p :: facs (divMod p (ld p)).1 else []
termination_by bl p
decreasing_by
  have hs := ld_spec h
  exact (quot_bl (fun e => by rw [e, bl_zero] at h; omega) (bl_two hs.2.1) hs.1).1
theorem facs_nil {p : Nat} (h : bl p < 2) : facs p = [] := by rw [facs, dif_neg (by omega)]
theorem facs_cons {p : Nat} (h : 2 ≤ bl p) : facs p = ld p :: facs (divMod p (ld p)).1 := by rw [facs, dif_pos h]
theorem divMod_self {p : Nat} (hp : p ≠ 0) : (divMod p p).1 = 1 := by
  have := divMod_unique hp (p := p) (s := 1) (r := 0) (by rw [one_mul, Nat.xor_zero]) (by rw [bl_zero]; exact Nat.pos_of_ne_zero fun e => hp (bl_eq_zero.1 e))
  rw [this]
theorem facs_one {p : Nat} (hp : 2 ≤ bl p) (h : ld p = p) : facs p = [p] := by
  rw [facs_cons hp, h, divMod_self (fun e => by rw [e, bl_zero] at hp; omega), facs_nil (by decide)]
theorem facs_len_one {p : Nat} (hp : 2 ≤ bl p) : (facs p).length = 1 ↔ ld p = p := by
  constructor
  · intro h
    obtain ⟨h1, h2, h3⟩ := ld_spec hp
    have hp0 : p ≠ 0 := fun e => by rw [e, bl_zero] at hp; omega
    have hq := quot_bl hp0 (bl_two h2) h1
    rw [facs_cons hp, List.length_cons] at h
    have h4 : facs (divMod p (ld p)).1 = [] := List.eq_nil_of_length_eq_zero (by omega)
    have h5 : bl (divMod p (ld p)).1 < 2 := by
      rcases Nat.lt_or_ge (bl (divMod p (ld p)).1) 2 with h6 | h6
      · exact h6
      · rw [facs_cons h6] at h4; cases h4
    have h6 : (divMod p (ld p)).1 = 1 := by
      rcases bl_le_one (show bl (divMod p (ld p)).1 ≤ 1 by omega) with h | h
      · exact absurd h hq.2.1
      · exact h
    have h7 := quot_mul (show ld p ≠ 0 by omega) h1
    rw [h6, one_mul] at h7
    exact h7
  · intro h; rw [facs_one hp h]; rfl
theorem facs_ge (n : Nat) : ∀ (p : Nat), bl p ≤ n → p ≠ 0 → ∀ q, NoDv p q → ∀ x ∈ facs p, q ≤ x := by
  induction n with
  | zero => intro p hp h0; exact absurd (bl_eq_zero.1 (by omega)) h0
  | succ n ih =>
    intro p hp h0 q hq x hx
    rcases Nat.lt_or_ge (bl p) 2 with h | h
    · rw [facs_nil h] at hx; cases hx
    · obtain ⟨h1, h2, h3⟩ := ld_spec h
      have hqb := quot_bl h0 (bl_two h2) h1
      rw [facs_cons h] at hx
      rcases List.mem_cons.1 hx with rfl | hx
      · rcases Nat.lt_or_ge (ld p) q with h4 | h4
        · exact absurd h1 (hq _ h2 h4)
        · exact h4
      · exact ih _ (by omega) hqb.2.1 q (hq.part (quot_mul (by omega) h1)) x hx
theorem facs_sorted (n : Nat) : ∀ (p : Nat), bl p ≤ n → p ≠ 0 → (facs p).Pairwise (· ≤ ·) := by
  induction n with
  | zero => intro p hp h0; exact absurd (bl_eq_zero.1 (by omega)) h0
  | succ n ih =>
    intro p hp h0
    rcases Nat.lt_or_ge (bl p) 2 with h | h
    · rw [facs_nil h]; exact List.Pairwise.nil
    · obtain ⟨h1, h2, h3⟩ := ld_spec h
      have hqb := quot_bl h0 (bl_two h2) h1
      rw [facs_cons h]
      refine List.pairwise_cons.2 ⟨fun x hx => facs_ge _ _ (Nat.le_refl _) hqb.2.1 (ld p) (h3.part (quot_mul (by omega) h1)) x hx, ih _ (by omega) hqb.2.1⟩
def prod : List Nat → Nat
  | [] => 1
  | x :: l => mul x (prod l)
theorem facs_prod (n : Nat) : ∀ (p : Nat), bl p ≤ n → p ≠ 0 → prod (facs p) = p := by
  induction n with
  | zero => intro p hp h0; exact absurd (bl_eq_zero.1 (by omega)) h0
  | succ n ih =>
    intro p hp h0
    rcases Nat.lt_or_ge (bl p) 2 with h | h
    · rw [facs_nil h]
      rcases bl_le_one (show bl p ≤ 1 by omega) with e | e
      · exact absurd e h0
      · rw [e]; rfl
    · obtain ⟨h1, h2, h3⟩ := ld_spec h
      have hqb := quot_bl h0 (bl_two h2) h1
      rw [facs_cons h, prod, ih _ (by omega) hqb.2.1, mul_comm, quot_mul (by omega) h1]
theorem facs_mem (n : Nat) : ∀ (p : Nat), bl p ≤ n → p ≠ 0 → ∀ x ∈ facs p, 2 ≤ bl x ∧ ld x = x ∧ Dv x p := by
  induction n with
  | zero => intro p hp h0; exact absurd (bl_eq_zero.1 (by omega)) h0
  | succ n ih =>
    intro p hp h0 x hx
    rcases Nat.lt_or_ge (bl p) 2 with h | h
    · rw [facs_nil h] at hx; cases hx
    · obtain ⟨h1, h2, h3⟩ := ld_spec h
      have hqb := quot_bl h0 (bl_two h2) h1
      have hm := quot_mul (show ld p ≠ 0 by omega) h1
      rw [facs_cons h] at hx
      rcases List.mem_cons.1 hx with rfl | hx
      · refine ⟨bl_two h2, ld_unique (bl_two h2) h2 (Dv.refl _) (fun r a b hd => h3 r a b (hd.trans h1)), h1⟩
      · obtain ⟨a, b, c⟩ := ih _ (by omega) hqb.2.1 x hx
        exact ⟨a, b, by rw [← hm]; exact c.mul_right _⟩
end Go.Proofs.Ytigkmdlbijdoaaa.Gf

namespace Go.Proofs.Ytigkmdlbijdoaaa.Pf
open Go.RowKit Go.Proofs.Ytigkmdlbijdoaaa.P Go.Proofs.Ytigkmdlbijdoaaa.Bt Go.Proofs.Ytigkmdlbijdoaaa.Gf Go.Proofs.YtigkmdlbijdoaaaW.PrintWords Go.Proofs.YtigkmdlbijdoaaaW.PrintLast Go.Proofs.YtigkmdlbijdoaaaW.PrintMore
set_option linter.unusedVariables false
set_option linter.unusedSimpArgs false

def ints (l : List Nat) : List Int := l.map (fun n : Nat => (n : Int))
theorem ints_len (l : List Nat) : (ints l).length = l.length := List.length_map ..
theorem ints_put (l : List Nat) (q : Nat) : ints l ++ [(q : Int)] = ints (l ++ [q]) := by unfold ints; rw [List.map_append]; rfl
theorem facs_len (n : Nat) : ∀ (p : Nat), bl p ≤ n → p ≠ 0 → (facs p).length ≤ n := by
  induction n with
  | zero => intro p hp h0; exact absurd (bl_eq_zero.1 (by omega)) h0
  | succ n ih =>
    intro p hp h0
    by_cases h : 2 ≤ bl p
    · have a := ld_spec h
      have b := quot_bl h0 (bl_two a.2.1) a.1
      rw [facs_cons h, List.length_cons]
      have := ih _ (by omega) b.2.1
      omega
    · rw [facs_nil (by omega)]; exact Nat.zero_le _
theorem pow22 : (2 : Nat) ^ 22 = 4194304 := rfl
theorem pow11 : (2 : Nat) ^ 11 = 2048 := rfl
theorem first_l0 (p : Nat) (hp : 2 ≤ bl p) (hp' : bl p ≤ 41) : ∀ (d q k : Nat), 2 ≤ q → bl q ≤ 30 → p ≤ d + q → d + 200 < k → spec_poFirst.l0 k (p : Int) (q : Int) = some ((fst p d q : Nat) : Int) := by
  intro d
  induction d with
  | zero =>
    intro q k hq hb hd hk
    obtain ⟨k, rfl⟩ : ∃ j, k = j + 1 := ⟨k - 1, by omega⟩
    have := bl_mono (show p ≤ q by omega)
    rw [spec_poFirst.l0, poDegree_at q (by omega) k (by omega), Option.bind_some, poDegree_at p (by omega) k (by omega), Option.bind_some, wrap_id (by omega) (by omega), if_neg (by omega)]
    rfl
  | succ d ih =>
    intro q k hq hb hd hk
    obtain ⟨k, rfl⟩ : ∃ j, k = j + 1 := ⟨k - 1, by omega⟩
    rw [spec_poFirst.l0, poDegree_at q (by omega) k (by omega), Option.bind_some, poDegree_at p (by omega) k (by omega), Option.bind_some, wrap_id (by omega) (by omega), fst]
    by_cases c : 2 * bl q ≤ bl p + 1
    · rw [if_pos (by omega), if_pos c, poRest_at p q (by omega) (by omega) (by omega) k (by omega), Option.bind_some]
      by_cases c2 : rest p q = 0
      · rw [if_pos (by omega), if_pos c2]
      · rw [if_neg (by omega), if_neg c2]
        have hq' : q < 2 ^ 22 := bl_le_iff.1 (by omega)
        rw [pow22] at hq'
        have hb' : bl (q + 1) ≤ 30 := bl_le_iff.2 (by have : (2 : Nat) ^ 30 = 1073741824 := rfl; omega)
        rw [show ((q : Int) + 1) = ((q + 1 : Nat) : Int) by omega, wrap_nat (by omega)]
        exact ih (q + 1) k (by omega) hb' (by omega) (by omega)
    · rw [if_neg (by omega), if_neg c]
theorem poFirst_at (p : Nat) (hp : 2 ≤ bl p) (hp' : bl p ≤ 41) (k : Nat) (hk : p + 200 < k) : spec_poFirst.f k (p : Int) = some ((ld p : Nat) : Int) := first_l0 p hp hp' p 2 k (by omega) (by decide) (by omega) hk
theorem quot_le {p q : Nat} (hp : p ≠ 0) (hq : 2 ≤ bl q) (hd : Dv q p) : (divMod p q).1 < p := lt_of_bl_lt (quot_bl hp hq hd).1
theorem factors_spec (n : Nat) : ∀ (p : Nat) (out : List Nat) (k : Nat), bl p ≤ n → p ≠ 0 → bl p ≤ 41 → out.length + bl p ≤ 100 → p + 200 + n < k → spec_FactorsOf.l0 k (p : Int) (ints out) = some (ints (out ++ facs p), true) := by
  induction n with
  | zero => intro p out k h h0; exact absurd (bl_eq_zero.1 (by omega)) h0
  | succ n ih =>
    intro p out k hn h0 h41 hl hk
    obtain ⟨k, rfl⟩ : ∃ j, k = j + 1 := ⟨k - 1, by omega⟩
    rw [spec_FactorsOf.l0, poDegree_at p (by omega) k (by omega), Option.bind_some]
    by_cases h : 2 ≤ bl p
    · have s := ld_spec h
      have b := quot_bl h0 (bl_two s.2.1) s.1
      have c := quot_le h0 (bl_two s.2.1) s.1
      have d := s.1.bl_le h0
      rw [if_pos (by omega), poFirst_at p h h41 k (by omega), Option.bind_some, if_pos (by rw [ints_len]; omega), poDivide_at p (ld p) (by omega) (by omega) (by omega) k (by omega), Option.bind_some, ints_put,
        ih (divMod p (ld p)).1 (out ++ [ld p]) k (by omega) b.2.1 (by omega) (by rw [List.length_append, List.length_singleton]; omega) (by omega), facs_cons h, List.append_assoc]
      rfl
    · rw [if_neg (by omega), facs_nil (by omega), List.append_nil]
theorem sorts (l : List Nat) (h : l.length ≤ 200) : slices_Sort_int_int.f (ints l) = some ((ints l).mergeSort fun x y => decide (x ≤ y)) := by
  unfold slices_Sort_int_int.f
  rw [if_pos (by rw [ints_len]; omega)]
theorem factors_impl (m : Nat) : (∀ (p : Nat) (out : List Nat) (q k : Nat), 2 * (4096 - q) + 1 + bl p ≤ m → p ≠ 0 → bl p ≤ 21 → 2 ≤ q → q ≤ 2049 → NoDv p q → out.length + bl p ≤ 100 → m + 200 < k →
      impl_factors.l0 k (p : Int) (ints out) (q : Int) = some ((ints (out ++ facs p)).mergeSort fun x y => decide (x ≤ y))) ∧
    (∀ (p : Nat) (out : List Nat) (q k : Nat), 2 * (4096 - q) + bl p ≤ m → p ≠ 0 → bl p ≤ 21 → 2 ≤ q → q ≤ 2048 → NoDv p q → out.length + bl p ≤ 100 → m + 200 < k →
      impl_factors.l1 k (p : Int) (ints out) (q : Int) = some ((ints (out ++ facs p)).mergeSort fun x y => decide (x ≤ y))) := by
  induction m with
  | zero => exact ⟨fun p out q k h h0 hb hq hq2 => by omega, fun p out q k h h0 hb hq hq2 => by omega⟩
  | succ m ih =>
    constructor
    · intro p out q k h h0 hb hq hq2 hn hl hk
      obtain ⟨k, rfl⟩ : ∃ j, k = j + 1 := ⟨k - 1, by omega⟩
      have hqb : bl q ≤ 22 := bl_le_iff.2 (by rw [pow22]; omega)
      rw [impl_factors.l0, degree_at q (by omega), Option.bind_some, degree_at p (by omega), Option.bind_some, wrap_id (by omega) (by omega)]
      by_cases c : 2 * bl q ≤ bl p + 1
      · have hq' : q < 2 ^ 11 := bl_le_iff.1 (by omega)
        rw [pow11] at hq'
        rw [if_pos (by omega)]
        exact ih.2 p out q k (by omega) h0 hb hq (by omega) hn hl (by omega)
      · rw [if_neg (by omega), Option.bind_some]
        by_cases c2 : 2 ≤ bl p
        · have e : ld p = p := ld_unique c2 (two_of_bl c2) (Dv.refl p) (hn.whole c2 (by omega))
          rw [if_pos (by omega), if_pos (by rw [ints_len]; omega), ints_put, sorts _ (by rw [List.length_append, List.length_singleton]; omega), facs_one c2 e]
          rfl
        · rw [if_neg (by omega), sorts _ (by omega), facs_nil (by omega), List.append_nil]
          rfl
    · intro p out q k h h0 hb hq hq2 hn hl hk
      obtain ⟨k, rfl⟩ : ∃ j, k = j + 1 := ⟨k - 1, by omega⟩
      have hqb : bl q ≤ 22 := bl_le_iff.2 (by rw [pow22]; omega)
      have q2 := bl_two hq
      have w : wrap64 ((q : Int) + 1) = ((q + 1 : Nat) : Int) := by rw [show ((q : Int) + 1) = ((q + 1 : Nat) : Int) by omega, wrap_nat (by omega)]
      rw [impl_factors.l1, degree_at p (by omega), Option.bind_some, degree_at q (by omega), Option.bind_some]
      by_cases c : bl q ≤ bl p
      · rw [if_pos (by omega), modulo_at p q (by omega) (by omega) (by omega) k (by omega), Option.bind_some]
        by_cases c2 : rest p q = 0
        · have dv := (rest_zero_iff (by omega)).1 c2
          have b := quot_bl h0 q2 dv
          have e : ld p = q := ld_unique (by omega) hq dv hn
          have hn' : NoDv (divMod p q).1 q := hn.part (quot_mul (by omega) dv)
          rw [if_pos (by omega), if_pos (by rw [ints_len]; omega), divide_at p q (by omega) (by omega) (by omega) k (by omega), Option.bind_some, ints_put,
            ih.2 (divMod p q).1 (out ++ [q]) q k (by omega) b.2.1 (by omega) hq hq2 hn' (by rw [List.length_append, List.length_singleton]; omega) (by omega), facs_cons (p := p) (by omega), e, List.append_assoc]
          rfl
        · rw [if_neg (by omega), w]
          exact ih.1 p out (q + 1) k (by omega) h0 hb (by omega) (by omega) (hn.next fun d => c2 ((rest_zero_iff (by omega)).2 d)) hl (by omega)
      · rw [if_neg (by omega), w]
        exact ih.1 p out (q + 1) k (by omega) h0 hb (by omega) (by omega) (hn.next fun d => c (d.bl_le h0)) hl (by omega)
theorem ints_sorted {l : List Nat} (h : l.Pairwise (· ≤ ·)) : ((ints l).mergeSort fun x y => decide (x ≤ y)) = ints l := by
  apply List.mergeSort_of_pairwise
  unfold ints
  rw [List.pairwise_map]
  exact h.imp fun h => decide_eq_true (Int.ofNat_le.2 h)
theorem factors_at (p : Nat) (h0 : p ≠ 0) (hb : bl p ≤ 21) (k : Nat) (hk : 8500 < k) : impl_factors.f k (p : Int) = some (ints (facs p)) := by
  have := (factors_impl 8300).1 p [] 2 k (by omega) h0 hb (by omega) (by omega) (NoDv.two p) (by simp; omega) (by omega)
  rw [List.nil_append, ints_sorted (facs_sorted _ p (Nat.le_refl _) h0)] at this
  unfold impl_factors.f
  exact this
end Go.Proofs.Ytigkmdlbijdoaaa.Pf

namespace Go.Proofs.Ytigkmdlbijdoaaa.Pf
open Go.RowKit Go.Proofs.Ytigkmdlbijdoaaa.P Go.Proofs.Ytigkmdlbijdoaaa.Bt Go.Proofs.Ytigkmdlbijdoaaa.Gf Go.Proofs.YtigkmdlbijdoaaaW.PrintWords Go.Proofs.YtigkmdlbijdoaaaW.PrintLast
set_option linter.unusedVariables false
set_option linter.unusedSimpArgs false

theorem irr_both (a : Int) : ∃ r : Bool × Bool, Ev (fun k => spec_IsIrreducible.f k a) r ∧ Ev (fun k => impl_IsIrreducible.f k a) r := by
  by_cases h : (decide (0 ≤ a) && decide (a ≤ 2199023255551)) = true
  · simp only [Bool.and_eq_true, decide_eq_true_eq] at h
    obtain ⟨p, rfl⟩ := Int.eq_ofNat_of_zero_le h.1
    have hp := bl41 h.2
    have hg : spec_poGood.f (p : Int) = some true := by rw [poGood_at]; simp; omega
    have hi : impl_isPoly.f [(p : Int)] = some true := by unfold impl_isPoly.f; simp; omega
    by_cases c : bl p ≤ 21
    · by_cases c2 : 2 ≤ bl p
      · have h0 : p ≠ 0 := fun e => by subst e; rw [bl_zero] at c2; omega
        refine ⟨(decide (ld p = p), true), ⟨p + 400, fun k hk => ?_⟩, ⟨9000, fun k hk => ?_⟩⟩
        · show spec_IsIrreducible.f k (p : Int) = _
          obtain ⟨k, rfl⟩ : ∃ j, k = j + 1 := ⟨k - 1, by omega⟩
          unfold spec_IsIrreducible.f
          rw [hg, Option.bind_some, if_pos rfl, poDegree_at p (by omega) (k + 1) (by omega), Option.bind_some, spec_IsIrreducible.j0, if_neg (by rw [decide_eq_true_eq]; omega), poDegree_at p (by omega) k (by omega), Option.bind_some, if_pos (by omega), poFirst_at p c2 hp k (by omega), Option.bind_some]
          congr 2
          rw [Bool.eq_iff_iff, beq_iff_eq, decide_eq_true_iff]
          omega
        · show impl_IsIrreducible.f k (p : Int) = _
          obtain ⟨k, rfl⟩ : ∃ j, k = j + 1 := ⟨k - 1, by omega⟩
          unfold impl_IsIrreducible.f
          rw [hi, Option.bind_some, if_pos rfl, degree_at p (by omega), Option.bind_some, impl_IsIrreducible.j0, if_neg (by rw [decide_eq_true_eq]; omega), degree_at p (by omega), Option.bind_some, if_pos (by omega), factors_at p h0 c k (by omega), Option.bind_some]
          congr 2
          rw [Bool.eq_iff_iff, beq_iff_eq, decide_eq_true_iff, ints_len, ← facs_len_one c2]
          omega
      · refine ⟨(false, true), ⟨400, fun k hk => ?_⟩, ⟨400, fun k hk => ?_⟩⟩
        · show spec_IsIrreducible.f k (p : Int) = _
          obtain ⟨k, rfl⟩ : ∃ j, k = j + 1 := ⟨k - 1, by omega⟩
          unfold spec_IsIrreducible.f
          rw [hg, Option.bind_some, if_pos rfl, poDegree_at p (by omega) (k + 1) (by omega), Option.bind_some, spec_IsIrreducible.j0, if_neg (by rw [decide_eq_true_eq]; omega), poDegree_at p (by omega) k (by omega), Option.bind_some, if_neg (by omega)]
        · show impl_IsIrreducible.f k (p : Int) = _
          obtain ⟨k, rfl⟩ : ∃ j, k = j + 1 := ⟨k - 1, by omega⟩
          unfold impl_IsIrreducible.f
          rw [hi, Option.bind_some, if_pos rfl, degree_at p (by omega), Option.bind_some, impl_IsIrreducible.j0, if_neg (by rw [decide_eq_true_eq]; omega), degree_at p (by omega), Option.bind_some, if_neg (by omega)]
    · refine ⟨(false, false), ⟨400, fun k hk => ?_⟩, ⟨400, fun k hk => ?_⟩⟩
      · show spec_IsIrreducible.f k (p : Int) = _
        obtain ⟨k, rfl⟩ : ∃ j, k = j + 1 := ⟨k - 1, by omega⟩
        unfold spec_IsIrreducible.f
        rw [hg, Option.bind_some, if_pos rfl, poDegree_at p (by omega) (k + 1) (by omega), Option.bind_some, spec_IsIrreducible.j0, if_pos (by rw [decide_eq_true_eq]; omega)]
      · show impl_IsIrreducible.f k (p : Int) = _
        obtain ⟨k, rfl⟩ : ∃ j, k = j + 1 := ⟨k - 1, by omega⟩
        unfold impl_IsIrreducible.f
        rw [hi, Option.bind_some, if_pos rfl, degree_at p (by omega), Option.bind_some, impl_IsIrreducible.j0, if_pos (by rw [decide_eq_true_eq]; omega)]
  · have hg : spec_poGood.f a = some false := by rw [poGood_at]; exact congrArg some (Bool.eq_false_iff.2 h)
    have hi : impl_isPoly.f [a] = some false := by unfold impl_isPoly.f; rw [List.all_cons, List.all_nil, Bool.and_true]; exact congrArg some (Bool.eq_false_iff.2 h)
    refine ⟨(false, false), ⟨1, fun k hk => ?_⟩, ⟨1, fun k hk => ?_⟩⟩
    · show spec_IsIrreducible.f k a = _
      obtain ⟨k, rfl⟩ : ∃ j, k = j + 1 := ⟨k - 1, by omega⟩
      unfold spec_IsIrreducible.f
      rw [hg]; rfl
    · show impl_IsIrreducible.f k a = _
      obtain ⟨k, rfl⟩ : ∃ j, k = j + 1 := ⟨k - 1, by omega⟩
      unfold impl_IsIrreducible.f
      rw [hi]; rfl
theorem factors_in (p : Nat) (h0 : p ≠ 0) (c : bl p ≤ 21) : (∀ k, p + 400 ≤ k → spec_FactorsOf.f k (p : Int) = some (ints (facs p), true)) ∧ (∀ k, 9000 ≤ k → impl_FactorsOf.f k (p : Int) = some (ints (facs p), true)) := by
  have e41 : (2 : Nat) ^ 41 = 2199023255552 := rfl
  have hp := bl_le_iff.1 (show bl p ≤ 41 by omega)
  have hpos := bl_pos' h0
  have hg : spec_poGood.f (p : Int) = some true := by rw [poGood_at]; simp; omega
  have hi : impl_isPoly.f [(p : Int)] = some true := by unfold impl_isPoly.f; simp; omega
  have hin : (decide ((0 : Int) ≤ (bl p : Int) - 1) && decide ((bl p : Int) - 1 ≤ 20)) = true := by simp; omega
  refine ⟨fun k hk => ?_, fun k hk => ?_⟩
  · obtain ⟨k, rfl⟩ : ∃ j, k = j + 1 := ⟨k - 1, by omega⟩
    unfold spec_FactorsOf.f
    rw [hg, Option.bind_some, if_pos rfl, poDegree_at p (by omega) (k + 1) (by omega), Option.bind_some, l1In_at, hin, Option.bind_some, spec_FactorsOf.j0, if_neg (by decide)]
    exact factors_spec _ p [] k (Nat.le_refl _) h0 (by omega) (by simp; omega) (by omega)
  · unfold impl_FactorsOf.f
    rw [hi, Option.bind_some, if_pos rfl, degree_at p (by omega), Option.bind_some, in_at, hin, Option.bind_some, if_pos rfl, factors_at p h0 c k (by omega)]
    rfl
theorem factors_out (a : Int) (c : ¬ (0 ≤ a ∧ a ≤ 2199023255551 ∧ 1 ≤ bl a.toNat ∧ bl a.toNat ≤ 21)) : (∀ k, 400 ≤ k → spec_FactorsOf.f k a = some ([], false)) ∧ (∀ k, 9000 ≤ k → impl_FactorsOf.f k a = some ([], false)) := by
  by_cases h : (decide (0 ≤ a) && decide (a ≤ 2199023255551)) = true
  · simp only [Bool.and_eq_true, decide_eq_true_eq] at h
    obtain ⟨p, rfl⟩ := Int.eq_ofNat_of_zero_le h.1
    rw [Int.toNat_natCast] at c
    have hp := bl41 h.2
    have hg : spec_poGood.f (p : Int) = some true := by rw [poGood_at]; simp; omega
    have hi : impl_isPoly.f [(p : Int)] = some true := by unfold impl_isPoly.f; simp; omega
    have hin : (decide ((0 : Int) ≤ (bl p : Int) - 1) && decide ((bl p : Int) - 1 ≤ 20)) = false := by
      rw [Bool.eq_false_iff]; simp only [ne_eq, Bool.and_eq_true, decide_eq_true_eq]; omega
    refine ⟨fun k hk => ?_, fun k hk => ?_⟩
    · obtain ⟨k, rfl⟩ : ∃ j, k = j + 1 := ⟨k - 1, by omega⟩
      unfold spec_FactorsOf.f
      rw [hg, Option.bind_some, if_pos rfl, poDegree_at p (by omega) (k + 1) (by omega), Option.bind_some, l1In_at, hin, Option.bind_some, spec_FactorsOf.j0, if_pos (by decide)]
    · unfold impl_FactorsOf.f
      rw [hi, Option.bind_some, if_pos rfl, degree_at p (by omega), Option.bind_some, in_at, hin, Option.bind_some, if_neg (by decide)]
  · have hg : spec_poGood.f a = some false := by rw [poGood_at]; exact congrArg some (Bool.eq_false_iff.2 h)
    have hi : impl_isPoly.f [a] = some false := by unfold impl_isPoly.f; rw [List.all_cons, List.all_nil, Bool.and_true]; exact congrArg some (Bool.eq_false_iff.2 h)
    refine ⟨fun k hk => ?_, fun k hk => ?_⟩
    · obtain ⟨k, rfl⟩ : ∃ j, k = j + 1 := ⟨k - 1, by omega⟩
      unfold spec_FactorsOf.f
      rw [hg]; rfl
    · unfold impl_FactorsOf.f
      rw [hi]; rfl
end Go.Proofs.Ytigkmdlbijdoaaa.Pf
