/- What the reference draws from bytes: some number in its range, whatever the bytes. Fibonacci's polynomials over two elements, in plain Lean. What the functions on polynomials answer. The greatest common divisor, as the program has it. The first of Fibonacci's polynomials that a polynomial divides: the loops of both sides. -/
import Derived.Test.YtigkmdlbijdoaaaBits
import Derived.Test.YtigkmdlbijdoaaaPx15
import Derived.Test.YtigkmdlbijdoaaaPoly
import Derived.Test.YtigkmdlbijdoaaaPx1
import Derived.Test.YtigkmdlbijdoaaaPx10
import Derived.Test.YtigkmdlbijdoaaaPx11
import Derived.Test.YtigkmdlbijdoaaaPx12
import Derived.Test.YtigkmdlbijdoaaaPx13
import Derived.Test.YtigkmdlbijdoaaaPx4
import Derived.Test.YtigkmdlbijdoaaaPx5
import Derived.Test.YtigkmdlbijdoaaaPx9
import Derived.Test.YtigkmdlbijdoaaaPx16
namespace Go.Proofs.Ytigkmdlbijdoaaa.Dr
open Go.RowKit Go.Proofs.Ytigkmdlbijdoaaa.P Go.Proofs.Ytigkmdlbijdoaaa.Bt Go.Proofs.YtigkmdlbijdoaaaW.PrintWords Go.Proofs.YtigkmdlbijdoaaaW.PrintLast Go.Proofs.YtigkmdlbijdoaaaW.PrintMore
set_option linter.unusedVariables false
set_option linter.unusedSimpArgs false

def By (l : List Int) : Prop := ∀ x, x ∈ l → 0 ≤ x ∧ x ≤ 255
theorem by_wf {l : List Int} (h : ∀ x ∈ l, (Lit.int .u8 x).wf = true) : By l := by
  intro x hx
  have c : IntKind.u8.min ≤ x ∧ x ≤ IntKind.u8.max := by simpa [Lit.wf] using h x hx
  have a : IntKind.u8.min = 0 := by decide
  have b : IntKind.u8.max = 255 := by decide
  omega
theorem By.rd_ {l : List Int} (h : By l) (i : Int) : 0 ≤ rd l i ∧ rd l i ≤ 255 := by
  unfold rd
  rw [List.getD_eq_getElem?_getD]
  by_cases c : i.toNat < l.length
  · rw [List.getElem?_eq_getElem c]; exact h _ (List.getElem_mem c)
  · rw [List.getElem?_eq_none (by omega)]; exact ⟨by decide, by decide⟩
theorem low8 (a : Int) : 0 ≤ wrap64 (Go.bits .and .u64 a 255) ∧ wrap64 (Go.bits .and .u64 a 255) ≤ 255 := by
  have h : Go.bits .and .u64 a 255 = IntKind.u64.wrap ((BitVec.ofInt 64 a &&& BitVec.ofInt 64 255).toNat : Int) := rfl
  have h2 : (BitVec.ofInt 64 a &&& BitVec.ofInt 64 255).toNat ≤ 255 := by
    rw [BitVec.toNat_and]; exact Nat.and_le_right
  have h3 : Go.bits .and .u64 a 255 = ((BitVec.ofInt 64 a &&& BitVec.ofInt 64 255).toNat : Int) := by
    rw [h]; generalize (BitVec.ofInt 64 a &&& BitVec.ofInt 64 255).toNat = z at h2
    show (z : Int) % 18446744073709551616 = z
    omega
  rw [h3]
  generalize (BitVec.ofInt 64 a &&& BitVec.ofInt 64 255).toNat = z at h2
  rw [wrap_id (by omega) (by omega)]
  omega
theorem next_at {l : List Int} (h : By l) (q s : Int) (hq : 0 ≤ q) (hq' : q < 1000000) : ∃ x s', spec_l1Cur_next.f l q s = some (x, q + 1, s') ∧ 0 ≤ x ∧ x ≤ 255 := by
  have w : wrap64 (q + 1) = q + 1 := wrap_id (by omega) (by omega)
  have r := h.rd_ q
  have wr : wrap64 (rd l q) = rd l q := wrap_id (by omega) (by omega)
  unfold spec_l1Cur_next.f
  by_cases c : q < (l.length : Int)
  · rw [if_pos c, if_pos hq, w, if_pos (by omega), wr]
    exact ⟨_, _, rfl, r⟩
  · rw [if_neg c, w, if_neg (by omega)]
    exact ⟨_, _, rfl, low8 _⟩
theorem pick_at {l : List Int} (h : By l) (q s n : Int) (hq : 0 ≤ q) (hq' : q < 900000) (hn : 1 ≤ n) : ∃ x q' s', spec_l1Cur_pick.f l q s n = some (x, q', s') ∧ 0 ≤ x ∧ x < n ∧ q ≤ q' ∧ q' ≤ q + 2 := by
  unfold spec_l1Cur_pick.f
  by_cases c : n ≤ 1
  · rw [if_pos c]; exact ⟨0, q, s, rfl, by omega, by omega, by omega, by omega⟩
  · obtain ⟨x, s1, e1, hx⟩ := next_at h q s hq (by omega)
    rw [if_neg c, e1, Option.bind_some]
    simp only
    by_cases c2 : n > 200
    · obtain ⟨y, s2, e2, hy⟩ := next_at h (q + 1) s1 (by omega) (by omega)
      rw [if_pos c2, e2, Option.bind_some, if_neg (by omega), wrap_id (x := x * 256) (by omega) (by omega), wrap_id (by omega) (by omega)]
      exact ⟨_, q + 1 + 1, s2, rfl, Int.tmod_nonneg _ (by omega), Int.tmod_lt_of_pos _ (by omega), by omega, by omega⟩
    · rw [if_neg c2, if_neg (by omega)]
      exact ⟨_, q + 1, s1, rfl, Int.tmod_nonneg _ (by omega), Int.tmod_lt_of_pos _ (by omega), by omega, by omega⟩
theorem among_at {l : List Int} (h : By l) (q s : Int) (l1 : List Int) (hq : 0 ≤ q) (hq' : q < 900000) (hn : 1 ≤ l1.length) : ∃ x q' s', spec_l1Cur_among.f l q s l1 = some (x, q', s') ∧ x ∈ l1 ∧ q ≤ q' ∧ q' ≤ q + 2 := by
  obtain ⟨x, q', s', e, h1, h2, h3, h4⟩ := pick_at h q s l1.length hq hq' (by omega)
  unfold spec_l1Cur_among.f
  rw [e, Option.bind_some]
  simp only
  rw [if_pos h1, if_pos h2]
  refine ⟨_, _, _, rfl, ?_, h3, h4⟩
  unfold rd
  rw [List.getD_eq_getElem?_getD, List.getElem?_eq_getElem (by omega)]
  exact List.getElem_mem _
theorem poly_l0 {l : List Int} (h : By l) (m : Int) (hm : m ≤ 40) : ∀ (d : Nat) (i p q s : Int), i + d = m + 1 → 0 ≤ i → 0 ≤ q → q + 2 * d < 800000 → ∃ x q' s', (∀ k, d < k → spec_l1Cur_poly.l0 k m p i l q s = some (x, q', s')) ∧ q ≤ q' ∧ q' ≤ q + 2 * d := by
  intro d
  induction d with
  | zero =>
    intro i p q s hi h0 hq hq'
    refine ⟨p, q, s, fun k hk => ?_, by omega, by omega⟩
    obtain ⟨k, rfl⟩ : ∃ j, k = j + 1 := ⟨k - 1, by omega⟩
    rw [spec_l1Cur_poly.l0, if_neg (by omega)]
  | succ d ih =>
    intro i p q s hi h0 hq hq'
    obtain ⟨x, q1, s1, e, h1, h2, h3, h4⟩ := pick_at h q s 2 hq (by omega) (by omega)
    obtain ⟨y, q2, s2, e2, h5, h6⟩ := ih (i + 1) (wrap64 ((wrap64 (2 * p)) + x)) q1 s1 (by omega) (by omega) (by omega) (by omega)
    refine ⟨y, q2, s2, fun k hk => ?_, by omega, by omega⟩
    obtain ⟨k, rfl⟩ : ∃ j, k = j + 1 := ⟨k - 1, by omega⟩
    rw [spec_l1Cur_poly.l0, if_pos (by omega), e, Option.bind_some]
    simp only
    rw [wrap_id (x := i + 1) (by omega) (by omega)]
    exact e2 k (by omega)
theorem poFib_some : ∀ (d : Nat) (n a b : Int), n = d → d ≤ 1000 → ∃ r, ∀ k, d < k → spec_poFibonacci.l0 k n a b = some r := by
  intro d
  induction d with
  | zero =>
    intro n a b hn _
    refine ⟨b, fun k hk => ?_⟩
    obtain ⟨k, rfl⟩ : ∃ j, k = j + 1 := ⟨k - 1, by omega⟩
    rw [spec_poFibonacci.l0, if_neg (by omega)]
  | succ d ih =>
    intro n a b hn hd
    obtain ⟨r, e⟩ := ih (n - 1) b (Go.bits .xor .i64 (wrap64 (b * 2)) a) (by omega) (by omega)
    refine ⟨r, fun k hk => ?_⟩
    obtain ⟨k, rfl⟩ : ∃ j, k = j + 1 := ⟨k - 1, by omega⟩
    rw [spec_poFibonacci.l0, if_pos (by omega), wrap_id (x := n - 1) (by omega) (by omega)]
    exact e k (by omega)
/-- a polynomial is drawn, whatever it is -/
theorem poly_at {l : List Int} (h : By l) (q s m : Int) (hq : 0 ≤ q) (hq' : q < 700000) (hm : 0 ≤ m) (hm' : m ≤ 40) : ∃ x q' s', (∀ k, 100 < k → spec_l1Cur_poly.f k l q s m = some (x, q', s')) ∧ q ≤ q' ∧ q' ≤ q + 100 := by
  obtain ⟨x, q1, s1, e, h1, h2, h3, h4⟩ := pick_at h q s 12 hq (by omega) (by omega)
  have w : wrap64 (m + 1) = m + 1 := wrap_id (by omega) (by omega)
  by_cases c0 : x = 0
  · obtain ⟨y, q2, s2, e2, h5, h6, h7⟩ := among_at h q1 s1 [-1, 0, 1, 2, 2199023255551, 2199023255552, 4611686018427387904] (by omega) (by omega) (by simp)
    exact ⟨y, q2, s2, fun k hk => by unfold spec_l1Cur_poly.f; rw [e, Option.bind_some]; simp only [w]; rw [if_pos c0, e2]; rfl, by omega, by omega⟩
  · by_cases c1 : x = 1
    · obtain ⟨y, q2, s2, e2, h5, h6, h7, h8⟩ := pick_at h q1 s1 (m + 1) (by omega) (by omega) (by omega)
      obtain ⟨r, e3⟩ := poFib_some y.toNat y 1 0 (by omega) (by omega)
      refine ⟨r, q2, s2, fun k hk => ?_, by omega, by omega⟩
      unfold spec_l1Cur_poly.f
      rw [e, Option.bind_some]
      simp only [w]
      rw [if_neg c0, if_pos c1, e2, Option.bind_some]
      simp only
      unfold spec_poFibonacci.f
      rw [e3 k (by omega)]
      rfl
    · by_cases c2 : x = 2
      · obtain ⟨y, q2, s2, e2, h5, h6, h7, h8⟩ := pick_at h q1 s1 (m + 1) (by omega) (by omega) (by omega)
        exact ⟨_, q2, s2, fun k hk => by unfold spec_l1Cur_poly.f; rw [e, Option.bind_some]; simp only [w]; rw [if_neg c0, if_neg c1, if_pos c2, e2, Option.bind_some]; simp only; rw [if_pos h5], by omega, by omega⟩
      · obtain ⟨y, q2, s2, e2, h5, h6⟩ := poly_l0 h m hm' (m + 1).toNat 0 0 q1 s1 (by omega) (by omega) (by omega) (by omega)
        exact ⟨y, q2, s2, fun k hk => by unfold spec_l1Cur_poly.f; rw [e, Option.bind_some]; simp only [w]; rw [if_neg c0, if_neg c1, if_neg c2]; exact e2 k (by omega), by omega, by omega⟩
end Go.Proofs.Ytigkmdlbijdoaaa.Dr

namespace Go.Proofs.Ytigkmdlbijdoaaa.Gf
set_option linter.unusedVariables false
set_option linter.unusedSimpArgs false

def fbs : Nat → Nat → Nat → Nat
  | 0, a, _ => a
  | n + 1, a, b => fbs n b (2 * b ^^^ a)
/-- the n-th -/
def fb (n : Nat) : Nat := fbs n 0 1
theorem fbs_step : ∀ (n a b : Nat), fbs (n + 2) a b = 2 * fbs (n + 1) a b ^^^ fbs n a b := by
  intro n
  induction n with
  | zero => intro a b; rfl
  | succ n ih => intro a b; exact ih b (2 * b ^^^ a)
theorem fb_step (n : Nat) : fb (n + 2) = 2 * fb (n + 1) ^^^ fb n := fbs_step n 0 1
theorem fb_bl (n : Nat) : bl (fb n) = n ∧ bl (fb (n + 1)) = n + 1 := by
  induction n with
  | zero => exact ⟨rfl, by decide⟩
  | succ n ih =>
    refine ⟨ih.2, ?_⟩
    have h0 : fb (n + 1) ≠ 0 := fun e => by have := ih.2; rw [e, bl_zero] at this; omega
    rw [fb_step, bl_xor_ne (by rw [bl_two_mul h0]; omega), bl_two_mul h0]
    omega
def mulF : Nat → Nat → Nat → Nat
  | 0, _, _ => 0
  | f + 1, a, b => if b = 0 then 0 else (if b % 2 = 1 then a else 0) ^^^ (2 * mulF f a (b / 2))
theorem mulF_eq : ∀ (f a b : Nat), b < 2 ^ f → mulF f a b = mul a b := by
  intro f
  induction f with
  | zero => intro a b h; rw [show b = 0 by omega, mul_zero]; rfl
  | succ f ih =>
    intro a b h
    rw [mulF]
    by_cases c : b = 0
    · rw [if_pos c, c, mul_zero]
    · rw [if_neg c, ih a (b / 2) (by rw [Nat.pow_succ] at h; omega), ← mul_step]
def restF : Nat → Nat → Nat → Nat
  | 0, p, _ => p
  | f + 1, p, q => if bl q ≤ bl p then restF f (p ^^^ (q <<< (bl p - bl q))) q else p
theorem restF_eq {q : Nat} (hq : q ≠ 0) : ∀ (f p : Nat), bl p < f → restF f p q = rest p q := by
  intro f
  induction f with
  | zero => intro p h; omega
  | succ f ih =>
    intro p h
    rw [restF]
    by_cases c : bl q ≤ bl p
    · have := down_lt hq c
      rw [if_pos c, ih _ (by omega)]
      unfold rest
      rw [divMod_step hq c]
    · rw [if_neg c, rest_of_lt (by omega)]
def gcdF : Nat → Nat → Nat → Nat
  | 0, p, _ => p
  | f + 1, p, q => if q = 0 then p else gcdF f q (restF 64 p q)
theorem gcdF_eq : ∀ (f p q : Nat), bl p ≤ 60 → bl q ≤ 60 → bl q < f → gcdF f p q = gcd p q := by
  intro f
  induction f with
  | zero => intro p q _ _ h; omega
  | succ f ih =>
    intro p q hp hq h
    rw [gcdF]
    by_cases c : q = 0
    · rw [if_pos c, c, gcd_zero]
    · have := rest_lt c p
      rw [if_neg c, restF_eq c 64 p (by omega), gcd_step c, ih q (rest p q) hq (by omega) (by omega)]
def chkG : Bool := (List.range 42).all fun n => (List.range 42).all fun m => gcdF 64 (fb n) (fb m) == fb (Nat.gcd m n)
theorem chkG_true : chkG = true := by decide +kernel
theorem fb_gcd {n m : Nat} (hn : n ≤ 41) (hm : m ≤ 41) : gcd (fb n) (fb m) = fb (Nat.gcd m n) := by
  have h := chkG_true
  unfold chkG at h
  rw [List.all_eq_true] at h
  have h1 := h n (List.mem_range.2 (by omega))
  rw [List.all_eq_true] at h1
  have h2 := h1 m (List.mem_range.2 (by omega))
  rw [beq_iff_eq] at h2
  have a := (fb_bl n).1
  have b := (fb_bl m).1
  rw [← h2, gcdF_eq 64 _ _ (by omega) (by omega) (by omega)]
def chkD : Bool := (List.range 21).all fun n => mulF 64 (mulF 64 (fb n) (fb n)) 2 == fb (2 * n)
theorem chkD_true : chkD = true := by decide +kernel
theorem fb_double {n : Nat} (hn : n ≤ 20) : mul (mul (fb n) (fb n)) 2 = fb (2 * n) := by
  have h := chkD_true
  unfold chkD at h
  rw [List.all_eq_true] at h
  have h1 := h n (List.mem_range.2 (by omega))
  rw [beq_iff_eq, mulF_eq 64 _ 2 (by decide), mulF_eq 64 (fb n) (fb n) (Nat.lt_of_lt_of_le (lt_bl _) (Nat.pow_le_pow_right (by decide) (by rw [(fb_bl n).1]; omega)))] at h1
  exact h1
theorem rest_two {p : Nat} (hp : p ≠ 0) (x : Nat) : rest (2 * rest x p) p = rest (2 * x) p := by
  have h := rest_rest_mul hp x 2
  rw [mul_comm, mul_comm x] at h
  rw [mul_comm, show mul (rest x p) 2 = 2 * rest x p by rw [show (2 : Nat) = 2 * 1 from rfl, mul_two, mul_one], mul_comm, show mul x 2 = 2 * x by rw [show (2 : Nat) = 2 * 1 from rfl, mul_two, mul_one]] at h
  exact h
end Go.Proofs.Ytigkmdlbijdoaaa.Gf

namespace Go.Proofs.Ytigkmdlbijdoaaa.Pf
open Go.RowKit Go.Proofs.Ytigkmdlbijdoaaa.P Go.Proofs.Ytigkmdlbijdoaaa.Bt Go.Proofs.Ytigkmdlbijdoaaa.Gf Go.Proofs.YtigkmdlbijdoaaaW.PrintWords Go.Proofs.YtigkmdlbijdoaaaW.PrintLast Go.Proofs.YtigkmdlbijdoaaaW.PrintMore
set_option linter.unusedVariables false
set_option linter.unusedSimpArgs false

theorem pow62 : (2 : Nat) ^ 62 = 4611686018427387904 := rfl
theorem pow63 : (2 : Nat) ^ 63 = 9223372036854775808 := rfl
theorem bl_le62 {n : Nat} (h : n < 4611686018427387904) : bl n ≤ 62 := bl_le_iff.2 (by rw [pow62]; exact h)
theorem lt_of_bl {n : Nat} (h : bl n ≤ 62) : n < 4611686018427387904 := by have := bl_le_iff.1 h; rwa [pow62] at this
theorem bl41 {n : Nat} (h : (n : Int) ≤ 2199023255551) : bl n ≤ 41 := bl_le_iff.2 (by have : (2 : Nat) ^ 41 = 2199023255552 := rfl; omega)
theorem bl_pos' {n : Nat} (h : n ≠ 0) : 0 < bl n := Nat.pos_of_ne_zero (fun e => h (bl_eq_zero.1 e))

theorem two_nat (n : Nat) : (n : Int) * 2 = ((2 * n : Nat) : Int) := by omega
theorem soTop_l0 : ∀ (d n k : Nat) (c : Int), bl n = d → d ≤ 62 → -1 ≤ c → c + d ≤ 100 → d < k → spec_soTop.l0 k (n : Int) c = some (c + (d : Int)) := by
  intro d
  induction d with
  | zero =>
    intro n k c hn _ _ _ hk
    obtain ⟨k, rfl⟩ : ∃ m, k = m + 1 := ⟨k - 1, by omega⟩
    have : n = 0 := bl_eq_zero.1 hn
    subst this
    rw [spec_soTop.l0, if_neg (by omega)]
    simp
  | succ d ih =>
    intro n k c hn hd h1 h2 hk
    obtain ⟨k, rfl⟩ : ∃ m, k = m + 1 := ⟨k - 1, by omega⟩
    have h0 : n ≠ 0 := fun e => by rw [e, bl_zero] at hn; omega
    have hlt := lt_of_bl (n := n) (by omega)
    rw [spec_soTop.l0, if_pos (by omega), tdiv_two, wrap_nat (by omega), wrap_id (by omega) (by omega)]
    have hb := bl_half h0
    rw [ih (n / 2) k (c + 1) (by omega) (by omega) (by omega) (by omega) (by omega)]
    congr 1; omega
theorem soTop_at (n : Nat) (h : bl n ≤ 62) : ∀ k, bl n < k → spec_soTop.f k (n : Int) = some ((bl n : Int) - 1) := by
  intro k hk
  unfold spec_soTop.f
  rw [soTop_l0 (bl n) n k (-1) rfl h (by omega) (by omega) hk, Int.add_comm]
  rfl
theorem poDegree_at (n : Nat) (h : bl n ≤ 62) : ∀ k, 62 < k → spec_poDegree.f k (n : Int) = some ((bl n : Int) - 1) := by
  intro k hk
  unfold spec_poDegree.f
  rw [soTop_at n h k (by omega)]
  rfl
theorem u64_nat {n : Nat} (h : n < 18446744073709551616) : IntKind.u64.wrap (n : Int) = n := by
  rw [IntKind.wrap_u64]; omega
theorem top_at (n : Nat) (h : bl n ≤ 62) : impl_top.f (n : Int) = some ((bl n : Int) - 1) := by
  have hlt := lt_of_bl h
  unfold impl_top.f bits_Len.f bits_Len64.f
  rw [u64_nat (by omega), if_pos (by omega), Int.toNat_natCast, bitLen_bl n (by omega)]
  simp only [Option.bind_some]
  rw [wrap_id (by omega) (by omega)]
theorem degree_at (n : Nat) (h : bl n ≤ 62) : impl_degree.f (n : Int) = some ((bl n : Int) - 1) := by
  unfold impl_degree.f; rw [top_at n h]; rfl
theorem grIn_at (s i : Nat) (hs : s < 9223372036854775808) : spec_grIn.f (s : Int) (i : Int) = some (s.testBit i) := by
  unfold spec_grIn.f; rw [if_pos (by omega), grIn_val hs]
theorem has_at (s i : Nat) (hs : s < 9223372036854775808) : impl_has.f (s : Int) (i : Int) = some (s.testBit i) := by
  unfold impl_has.f; rw [if_pos (by omega), has_val hs]
theorem l1In_at (a b c : Int) : spec_l1In.f a b c = some (decide (b ≤ a) && decide (a ≤ c)) := by
  unfold spec_l1In.f
  by_cases h : b ≤ a
  · rw [if_pos h]; simp [h]
  · rw [if_neg h]; simp [h]
theorem in_at (a b c : Int) : impl_in.f a b c = some (decide (b ≤ a) && decide (a ≤ c)) := by
  unfold impl_in.f
  by_cases h : b ≤ a
  · rw [if_pos h]; simp [h]
  · rw [if_neg h]; simp [h]
theorem poGood_at (a : Int) : spec_poGood.f a = some (decide (0 ≤ a) && decide (a ≤ 2199023255551)) := by
  unfold spec_poGood.f; rw [l1In_at]; rfl

/-! ### products -/
theorem poTimes_l0 : ∀ (d p q out k : Nat), bl q = d → bl p + d ≤ 62 → bl out ≤ 62 → d < k →
    spec_poTimes.l0 k (p : Int) (q : Int) (out : Int) = some (((out ^^^ mul p q : Nat)) : Int) := by
  intro d
  induction d with
  | zero =>
    intro p q out k hq _ _ hk
    obtain ⟨k, rfl⟩ : ∃ m, k = m + 1 := ⟨k - 1, by omega⟩
    have : q = 0 := bl_eq_zero.1 hq
    subst this
    rw [spec_poTimes.l0, if_neg (by omega), mul_zero, Nat.xor_zero]
  | succ d ih =>
    intro p q out k hq hp ho hk
    obtain ⟨k, rfl⟩ : ∃ m, k = m + 1 := ⟨k - 1, by omega⟩
    have h0 : q ≠ 0 := fun e => by rw [e, bl_zero] at hq; omega
    have hb := bl_half h0
    have hql := lt_of_bl (n := q) (by omega)
    have hpl := lt_of_bl (n := p) (by omega)
    have hol := lt_of_bl ho
    have hp2 : bl (2 * p) ≤ bl p + 1 := by
      by_cases e : p = 0
      · subst e; simp [bl_zero]
      · rw [bl_two_mul e]; omega
    have e2 : wrap64 ((p : Int) * 2) = ((2 * p : Nat) : Int) := by
      rw [show (p : Int) * 2 = ((2 * p : Nat) : Int) from by omega, wrap_nat (by omega)]
    rw [spec_poTimes.l0, if_pos (by omega), tmod_two, tdiv_two, wrap_nat (by omega), e2]
    rw [mul_step p q]
    by_cases h1 : q % 2 = 1
    · rw [if_pos (by omega), if_pos h1, bits_xor (by omega) (by omega), ih (2 * p) (q / 2) (out ^^^ p) k (by omega) (by omega) (bl_xor_le _ _ _ ho (by omega)) (by omega), mul_two_left, Nat.xor_assoc]
    · rw [if_neg (by omega), if_neg h1, ih (2 * p) (q / 2) out k (by omega) (by omega) ho (by omega), mul_two_left, Nat.zero_xor]
theorem poTimes_at (p q : Nat) (h : bl p + bl q ≤ 62) (k : Nat) (hk : 62 < k) : spec_poTimes.f k (p : Int) (q : Int) = some ((mul p q : Nat) : Int) := by
  unfold spec_poTimes.f
  have := poTimes_l0 (bl q) p q 0 k rfl h (by rw [bl_zero]; omega) (by omega)
  rw [Nat.zero_xor] at this
  exact this
/-- The bits of q below k, times p. -/
theorem mul_low (p q k : Nat) : mul p (q % 2 ^ (k + 1)) = mul p (q % 2 ^ k) ^^^ (if q.testBit k = true then p <<< k else 0) := by
  have e : q % 2 ^ (k + 1) = (q % 2 ^ k) ^^^ (if q.testBit k = true then 1 <<< k else 0) := by
    apply Nat.eq_of_testBit_eq
    intro i
    rw [Nat.testBit_xor, Nat.testBit_mod_two_pow, Nat.testBit_mod_two_pow]
    have : (if q.testBit k = true then 1 <<< k else 0 : Nat).testBit i = (decide (i = k) && q.testBit k) := by
      split
      · rename_i h; rw [Nat.shiftLeft_eq, Nat.one_mul, Nat.testBit_two_pow, h, Bool.and_true]
        simp only [eq_comm]
      · rename_i h; simp at h; simp [h]
    rw [this]
    by_cases h1 : i < k
    · simp [h1, show i < k + 1 by omega, show ¬ i = k by omega]
    · by_cases h2 : i = k
      · subst h2; simp
      · simp [h1, h2, show ¬ i < k + 1 by omega]
  rw [e, mul_xor_right]
  congr 1
  split
  · rw [mul_shift]
  · rw [mul_zero]
theorem times_l0 : ∀ (d p q i k : Nat), bl q - i = d → i ≤ bl q → bl p + bl q ≤ 62 → d < k →
    impl_times.l0 k (p : Int) (q : Int) ((mul p (q % 2 ^ i) : Nat) : Int) (i : Int) = some ((mul p q : Nat) : Int) := by
  intro d
  induction d with
  | zero =>
    intro p q i k hd hi h hk
    obtain ⟨k, rfl⟩ : ∃ m, k = m + 1 := ⟨k - 1, by omega⟩
    have hql := lt_of_bl (n := q) (by omega)
    have e : i = bl q := by omega
    have hq : q < 2 ^ i := by rw [e]; exact lt_bl q
    rw [impl_times.l0, if_pos (by omega), shr_nat (by omega), Nat.shiftRight_eq_div_pow, Nat.div_eq_of_lt hq, if_neg (by omega), Nat.mod_eq_of_lt hq]
  | succ d ih =>
    intro p q i k hd hi h hk
    obtain ⟨k, rfl⟩ : ∃ m, k = m + 1 := ⟨k - 1, by omega⟩
    have hql := lt_of_bl (n := q) (by omega)
    have hpl := lt_of_bl (n := p) (by omega)
    have hge : 2 ^ i ≤ q := by
      rcases Nat.lt_or_ge q (2 ^ i) with h' | h'
      · have := bl_le_iff.2 h'; omega
      · exact h'
    have hpos : 0 < q / 2 ^ i := Nat.div_pos hge (Nat.two_pow_pos i)
    rw [impl_times.l0, if_pos (by omega), shr_nat (by omega), Nat.shiftRight_eq_div_pow, if_pos (by omega), has_at q i (by omega)]
    simp only [Option.bind_some]
    rw [show wrap64 ((i : Int) + 1) = ((i + 1 : Nat) : Int) from wrap_id (by omega) (by omega)]
    have hm := mul_low p q i
    have hbm : bl (mul p (q % 2 ^ i)) ≤ 62 := by
      by_cases e1 : p = 0
      · subst e1; rw [zero_mul, bl_zero]; omega
      · by_cases e2 : q % 2 ^ i = 0
        · rw [e2, mul_zero, bl_zero]; omega
        · have h3 := bl_mul e1 e2
          have h4 : bl (q % 2 ^ i) ≤ bl q := bl_mono (Nat.mod_le _ _)
          omega
    have hml := lt_of_bl hbm
    by_cases hb : q.testBit i = true
    · have hps : bl (p <<< i) ≤ 62 := by
        by_cases e : p = 0
        · subst e; simp [bl_zero]
        · rw [bl_shift e]; omega
      have hpsl := lt_of_bl hps
      have hmul : p * 2 ^ i < 9223372036854775808 := by rw [← Nat.shiftLeft_eq]; omega
      rw [if_pos hb] at hm ⊢
      rw [shl_nat (by omega) hmul, bits_xor (by omega) (by omega), ← hm]
      exact ih p q (i + 1) k (by omega) (by omega) h (by omega)
    · rw [if_neg hb] at hm ⊢
      rw [Nat.xor_zero] at hm
      rw [← hm]
      exact ih p q (i + 1) k (by omega) (by omega) h (by omega)
theorem times_at (p q : Nat) (h : bl p + bl q ≤ 62) (k : Nat) (hk : 62 < k) : impl_times.f k (p : Int) (q : Int) = some ((mul p q : Nat) : Int) := by
  unfold impl_times.f
  have := times_l0 (bl q) p q 0 k (by omega) (by omega) h (by omega)
  simp only [Nat.pow_zero, Nat.mod_one, mul_zero] at this
  exact this

/-! ### division -/
theorem or_bit {a k : Nat} (h : a.testBit k = false) : a ||| (1 <<< k) = a ^^^ (1 <<< k) := by
  apply Nat.eq_of_testBit_eq
  intro i
  rw [Nat.testBit_or, Nat.testBit_xor, Nat.shiftLeft_eq, Nat.one_mul, Nat.testBit_two_pow]
  by_cases e : k = i
  · subst e; simp [h]
  · simp [e]
theorem bl_one_shift (k : Nat) : bl (1 <<< k) = k + 1 := by rw [bl_shift (by omega)]; show 1 + k = _; omega
theorem shl_one {k : Nat} (h : k ≤ 61) : shl .i64 1 (k : Int) = ((1 <<< k : Nat) : Int) := by
  have h2 : (1 : Nat) * 2 ^ k < 9223372036854775808 := by
    have := Nat.pow_le_pow_right (n := 2) (by omega) h
    have e : (2 : Nat) ^ 61 = 2305843009213693952 := rfl
    omega
  exact shl_nat (a := 1) (by omega) h2
theorem divide_l0 (q : Nat) (hq : q ≠ 0) : ∀ (d p out k : Nat), bl p = d → d ≤ 61 → bl q ≤ 61 → bl out ≤ 62 → (∀ i, i + bl q ≤ d → out.testBit i = false) → d < k →
    impl_divide.l0 k (p : Int) (q : Int) (out : Int) = some (((out ^^^ (divMod p q).1 : Nat) : Int), (((divMod p q).2 : Nat) : Int)) := by
  intro d
  induction d using Nat.strongRecOn with
  | _ d ih =>
    intro p out k hp hd hqb ho hz hk
    obtain ⟨k, rfl⟩ : ∃ m, k = m + 1 := ⟨k - 1, by omega⟩
    have hpl := lt_of_bl (n := p) (by omega)
    have hql := lt_of_bl (n := q) (by omega)
    have hol := lt_of_bl ho
    rw [impl_divide.l0, degree_at p (by omega), degree_at q (by omega)]
    simp only [Option.bind_some]
    by_cases h : bl q ≤ bl p
    · have hlt := down_lt hq h
      rw [if_pos (by omega)]
      have e1 : wrap64 ((bl p : Int) - 1 - ((bl q : Int) - 1)) = ((bl p - bl q : Nat) : Int) := by rw [wrap_id (by omega) (by omega)]; omega
      have hqs : bl (q <<< (bl p - bl q)) ≤ 62 := by rw [bl_shift hq]; omega
      have hqsl := lt_of_bl hqs
      have hb0 : 0 < bl q := bl_pos' hq
      have hos := bl_one_shift (bl p - bl q)
      have hosl := lt_of_bl (n := 1 <<< (bl p - bl q)) (by omega)
      rw [e1, if_pos (by omega), shl_nat (by omega) (by rw [← Nat.shiftLeft_eq]; omega), bits_xor (by omega) (by omega), shl_one (by omega), bits_or (by omega) (by omega)]
      have hbit := hz (bl p - bl q) (by omega)
      rw [or_bit hbit]
      rw [ih (bl (p ^^^ q <<< (bl p - bl q))) (by omega) (p ^^^ q <<< (bl p - bl q)) (out ^^^ 1 <<< (bl p - bl q)) k rfl (by omega) hqb (bl_xor_le _ _ _ ho (by omega)) ?_ (by omega)]
      · rw [divMod_step hq h]
        simp only
        rw [Nat.xor_assoc, Nat.xor_comm (1 <<< _)]
      · intro i hi
        rw [Nat.testBit_xor, hz i (by omega), Nat.shiftLeft_eq, Nat.one_mul, Nat.testBit_two_pow, decide_eq_false (by omega)]
        rfl
    · rw [if_neg (by omega), divMod_done (by omega)]
      simp
theorem divide_at (p q : Nat) (hq : q ≠ 0) (hp : bl p ≤ 61) (hqb : bl q ≤ 61) (k : Nat) (hk : 62 < k) : impl_divide.f k (p : Int) (q : Int) = some (((divMod p q).1 : Int), ((divMod p q).2 : Int)) := by
  unfold impl_divide.f
  have := divide_l0 q hq (bl p) p 0 k rfl hp hqb (by rw [bl_zero]; omega) (by simp) (by omega)
  rw [Nat.zero_xor] at this
  exact this
theorem modulo_at (p q : Nat) (hq : q ≠ 0) (hp : bl p ≤ 61) (hqb : bl q ≤ 61) (k : Nat) (hk : 62 < k) : impl_modulo.f k (p : Int) (q : Int) = some ((rest p q : Nat) : Int) := by
  unfold impl_modulo.f
  rw [divide_at p q hq hp hqb k hk]
  rfl
theorem poDivide_l0 (q : Nat) (hq : q ≠ 0) (hqb : bl q ≤ 61) : ∀ (c p out k : Nat), bl p + 1 ≤ c + bl q → c + bl q ≤ 62 → bl out ≤ 62 → (∀ i, i < c → out.testBit i = false) → c + 62 < k →
    spec_poDivide.l0 k (p : Int) (q : Int) (out : Int) ((c : Int) - 1) = some (((out ^^^ (divMod p q).1 : Nat) : Int), (((divMod p q).2 : Nat) : Int)) := by
  intro c
  induction c with
  | zero =>
    intro p out k hp hc ho hz hk
    obtain ⟨k, rfl⟩ : ∃ m, k = m + 1 := ⟨k - 1, by omega⟩
    rw [spec_poDivide.l0, if_neg (by omega), divMod_done (by omega)]
    simp
  | succ c ih =>
    intro p out k hp hc ho hz hk
    obtain ⟨k, rfl⟩ : ∃ m, k = m + 1 := ⟨k - 1, by omega⟩
    have hb0 : 0 < bl q := bl_pos' hq
    have hpl := lt_of_bl (n := p) (by omega)
    have hql := lt_of_bl (n := q) (by omega)
    have hol := lt_of_bl ho
    rw [spec_poDivide.l0, if_pos (by omega), poDegree_at q (by omega) k (by omega)]
    simp only [Option.bind_some]
    have e1 : wrap64 (((c + 1 : Nat) : Int) - 1 + ((bl q : Int) - 1)) = ((c + (bl q - 1) : Nat) : Int) := by rw [wrap_id (by omega) (by omega)]; omega
    have e2 : wrap64 (((c + 1 : Nat) : Int) - 1 - 1) = (c : Int) - 1 := by rw [wrap_id (by omega) (by omega)]; omega
    have e3 : ((c + 1 : Nat) : Int) - 1 = (c : Int) := by omega
    rw [e1, e2, e3, grIn_at p _ (by omega)]
    simp only [Option.bind_some]
    by_cases hb : p.testBit (c + (bl q - 1)) = true
    · have hbp := bl_ge hb
      have hbe : bl p - bl q = c := by omega
      have hlt := down_lt (p := p) hq (by omega)
      rw [hbe] at hlt
      have hqs : bl (q <<< c) ≤ 62 := by rw [bl_shift hq]; omega
      have hqsl := lt_of_bl hqs
      have hos := bl_one_shift c
      have hosl := lt_of_bl (n := 1 <<< c) (by omega)
      rw [if_pos hb, if_pos (by omega), shl_nat (by omega) (by rw [← Nat.shiftLeft_eq]; omega), bits_xor (by omega) (by omega), shl_one (by omega), bits_or (by omega) (by omega), or_bit (hz c (by omega))]
      rw [ih (p ^^^ q <<< c) (out ^^^ 1 <<< c) k (by omega) (by omega) (bl_xor_le _ _ _ ho (by omega)) ?_ (by omega)]
      · rw [divMod_step (p := p) hq (by omega), hbe]
        simp only
        rw [Nat.xor_assoc, Nat.xor_comm (1 <<< _)]
      · intro i hi
        rw [Nat.testBit_xor, hz i (by omega), Nat.shiftLeft_eq, Nat.one_mul, Nat.testBit_two_pow, decide_eq_false (by omega)]
        rfl
    · rw [if_neg hb]
      refine ih p out k ?_ (by omega) ho (fun i hi => hz i (by omega)) (by omega)
      rcases Nat.lt_or_ge (bl p) (c + bl q) with h | h
      · omega
      · exfalso
        have hp0 : p ≠ 0 := fun e => by rw [e, bl_zero] at h; omega
        have := top_bit hp0
        rw [show bl p - 1 = c + (bl q - 1) by omega] at this
        exact hb this
theorem poDivide_at (p q : Nat) (hq : q ≠ 0) (hp : bl p ≤ 61) (hqb : bl q ≤ 61) (k : Nat) (hk : 130 < k) : spec_poDivide.f k (p : Int) (q : Int) = some (((divMod p q).1 : Int), ((divMod p q).2 : Int)) := by
  unfold spec_poDivide.f
  rw [poDegree_at p (by omega) k (by omega), poDegree_at q (by omega) k (by omega)]
  simp only [Option.bind_some]
  rw [wrap_id (by omega) (by omega)]
  rcases Nat.lt_or_ge (bl p) (bl q) with h | h
  · obtain ⟨k, rfl⟩ : ∃ m, k = m + 1 := ⟨k - 1, by omega⟩
    rw [spec_poDivide.l0, if_neg (by omega), divMod_done h]
    rfl
  · have := poDivide_l0 q hq hqb (bl p - bl q + 1) p 0 k (by omega) (by omega) (by rw [bl_zero]; omega) (by simp) (by omega)
    rw [Nat.zero_xor] at this
    rw [← this]
    congr 1; omega
theorem poRest_at (p q : Nat) (hq : q ≠ 0) (hp : bl p ≤ 61) (hqb : bl q ≤ 61) (k : Nat) (hk : 130 < k) : spec_poRest.f k (p : Int) (q : Int) = some ((rest p q : Nat) : Int) := by
  unfold spec_poRest.f
  rw [poDivide_at p q hq hp hqb k hk]
  rfl
end Go.Proofs.Ytigkmdlbijdoaaa.Pf

namespace Go.Proofs.Ytigkmdlbijdoaaa.Pf
open Go.RowKit Go.Proofs.Ytigkmdlbijdoaaa.P Go.Proofs.Ytigkmdlbijdoaaa.Bt Go.Proofs.Ytigkmdlbijdoaaa.Gf Go.Proofs.YtigkmdlbijdoaaaW.PrintWords Go.Proofs.YtigkmdlbijdoaaaW.PrintLast Go.Proofs.YtigkmdlbijdoaaaW.PrintMore
set_option linter.unusedVariables false
set_option linter.unusedSimpArgs false

theorem gcd_l0 : ∀ (d p q k : Nat), bl q = d → bl p ≤ 61 → d ≤ 61 → d + 63 < k → impl_gcd.l0 k (p : Int) (q : Int) = some ((Gf.gcd p q : Nat) : Int) := by
  intro d
  induction d using Nat.strongRecOn with
  | _ d ih =>
    intro p q k hq hp hd hk
    obtain ⟨k, rfl⟩ : ∃ m, k = m + 1 := ⟨k - 1, by omega⟩
    rw [impl_gcd.l0]
    by_cases h : q = 0
    · subst h; rw [if_pos (by omega), gcd_zero]
    · have hlt := rest_lt h p
      rw [if_neg (by omega), modulo_at p q h hp (by omega) k (by omega)]
      simp only [Option.bind_some]
      rw [gcd_step h]
      exact ih (bl (rest p q)) (by omega) q (rest p q) k rfl (by omega) (by omega) (by omega)
theorem gcd_at (p q : Nat) (hp : bl p ≤ 61) (hq : bl q ≤ 61) (k : Nat) (hk : 130 < k) : impl_gcd.f k (p : Int) (q : Int) = some ((Gf.gcd p q : Nat) : Int) := by
  unfold impl_gcd.f; exact gcd_l0 (bl q) p q k rfl hp hq (by omega)
end Go.Proofs.Ytigkmdlbijdoaaa.Pf

namespace Go.Proofs.Ytigkmdlbijdoaaa.Pf
open Go.RowKit Go.Proofs.Ytigkmdlbijdoaaa.P Go.Proofs.Ytigkmdlbijdoaaa.Bt Go.Proofs.Ytigkmdlbijdoaaa.Gf Go.Proofs.YtigkmdlbijdoaaaW.PrintWords Go.Proofs.YtigkmdlbijdoaaaW.PrintLast
set_option linter.unusedVariables false
set_option linter.unusedSimpArgs false

/-- From number n on, with the two last rests: the first that is 0, at most d further. -/
def ffM (p : Nat) : Nat → Nat → Nat → Nat → Int × Bool
  | 0, _, _, _ => (0, false)
  | d + 1, n, a, b => if b = 0 then ((n : Int), true) else ffM p d (n + 1) b (rest (2 * b) p ^^^ a)
theorem firstFib_l0 {p : Nat} (hp : 2 ≤ bl p) (hpb : bl p ≤ 41) : ∀ (d n a b k : Nat), n + d = 5001 → bl a < bl p → bl b < bl p → d + 200 < k →
    impl_FirstFibonacci.l0 k (p : Int) (a : Int) (b : Int) (n : Int) = some (ffM p d n a b) ∧ spec_FirstFibonacci.l0 k (p : Int) (a : Int) (b : Int) (n : Int) = some (ffM p d n a b) := by
  intro d
  have hp0 : p ≠ 0 := fun e => by rw [e, bl_zero] at hp; omega
  induction d with
  | zero =>
    intro n a b k hn ha hb hk
    obtain ⟨k, rfl⟩ : ∃ m, k = m + 1 := ⟨k - 1, by omega⟩
    rw [impl_FirstFibonacci.l0, spec_FirstFibonacci.l0, if_neg (by omega), if_neg (by omega)]
    exact ⟨rfl, rfl⟩
  | succ d ih =>
    intro n a b k hn ha hb hk
    obtain ⟨k, rfl⟩ : ∃ m, k = m + 1 := ⟨k - 1, by omega⟩
    have h2 : bl (2 * b) ≤ bl p := by
      by_cases z : b = 0
      · rw [z]; simp [bl_zero]
      · rw [bl_two_mul z]; omega
    have hbl := lt_of_bl (n := b) (by omega)
    have hal := lt_of_bl (n := a) (by omega)
    have h2l := lt_of_bl (n := 2 * b) (by omega)
    have hx : bl (2 * b ^^^ a) ≤ 61 := bl_xor_le _ _ _ (by omega) (by omega)
    have hr : rest (2 * b ^^^ a) p = rest (2 * b) p ^^^ a := by rw [rest_xor hp0, rest_of_lt ha]
    have hr2 := rest_lt hp0 (2 * b)
    have hrl := lt_of_bl (n := rest (2 * b) p) (by omega)
    have hnew : bl (rest (2 * b) p ^^^ a) < bl p := by
      have := bl_xor_le (rest (2 * b) p) a (bl p - 1) (by omega) (by omega)
      omega
    rw [impl_FirstFibonacci.l0, spec_FirstFibonacci.l0, if_pos (by omega), if_pos (by omega), two_nat, wrap_nat (by omega), bits_xor (by omega) (by omega), modulo_at _ p hp0 hx (by omega) k (by omega), poRest_at _ p hp0 (by omega) (by omega) k (by omega)]
    simp only [Option.bind_some]
    rw [show wrap64 ((n : Int) + 1) = ((n + 1 : Nat) : Int) from wrap_id (by omega) (by omega), bits_xor (by omega) (by omega), hr]
    rw [show ffM p (d + 1) n a b = if b = 0 then ((n : Int), true) else ffM p d (n + 1) b (rest (2 * b) p ^^^ a) from rfl]
    by_cases hb0 : b = 0
    · have hbi : (b : Int) = 0 := by omega
      rw [if_pos hbi, if_pos hbi, if_pos hb0]; exact ⟨rfl, rfl⟩
    · have hbi : ¬ (b : Int) = 0 := by omega
      rw [if_neg hbi, if_neg hbi, if_neg hb0]
      exact ih (n + 1) b _ k (by omega) hb hnew (by omega)
theorem firstFib_at {p : Nat} (hp : 2 ≤ bl p) (hpb : bl p ≤ 11) (k : Nat) (hk : 6000 < k) : impl_FirstFibonacci.f k (p : Int) = some (ffM p 5000 1 0 1) ∧ spec_FirstFibonacci.f k (p : Int) = some (ffM p 5000 1 0 1) := by
  obtain ⟨k, rfl⟩ : ∃ m, k = m + 1 := ⟨k - 1, by omega⟩
  have hp0 : p ≠ 0 := fun e => by rw [e, bl_zero] at hp; omega
  have hpl : p < 2048 := by have := bl_le_iff.1 hpb; have e : (2 : Nat) ^ 11 = 2048 := rfl; omega
  obtain ⟨b1, b2⟩ := firstFib_l0 hp (by omega) 5000 1 0 1 k (by omega) (by rw [bl_zero]; omega) (by show 1 < _; omega) (by omega)
  have h1 : rest 1 p = 1 := rest_of_lt (by show 1 < _; omega)
  have m1 := modulo_at 1 p hp0 (by show 1 ≤ _; omega) (by omega) k (by omega)
  rw [h1] at m1
  have hin : (decide (0 ≤ (p : Int)) && decide ((p : Int) ≤ 2199023255551)) = true := by simp; omega
  have hin2 : (decide (1 ≤ (bl p : Int) - 1) && decide ((bl p : Int) - 1 ≤ 10)) = true := by simp; omega
  constructor
  · unfold impl_FirstFibonacci.f impl_isPoly.f
    simp only [Option.bind_some, List.all_cons, List.all_nil, Bool.and_true]
    rw [hin, if_pos rfl, degree_at p (by omega)]
    simp only [Option.bind_some]
    rw [in_at, hin2]
    simp only [Option.bind_some, Bool.not_true]
    rw [impl_FirstFibonacci.j0, if_neg (by simp), show (1 : Int) = ((1 : Nat) : Int) from rfl, m1]
    exact b1
  · unfold spec_FirstFibonacci.f
    rw [poGood_at, hin, poDegree_at p (by omega) (k + 1) (by omega)]
    simp only [Option.bind_some, if_true]
    rw [l1In_at, hin2]
    simp only [Option.bind_some, Bool.not_true]
    rw [spec_FirstFibonacci.j0, if_neg (by simp)]
    exact b2
theorem firstFib_no (p : Int) (h : ¬ (0 ≤ p ∧ p ≤ 2199023255551 ∧ 2 ≤ bl p.toNat ∧ bl p.toNat ≤ 11)) (k : Nat) (hk : 200 < k) : impl_FirstFibonacci.f k p = some (0, false) ∧ spec_FirstFibonacci.f k p = some (0, false) := by
  obtain ⟨k, rfl⟩ : ∃ m, k = m + 1 := ⟨k - 1, by omega⟩
  unfold impl_FirstFibonacci.f spec_FirstFibonacci.f impl_isPoly.f
  rw [poGood_at]
  simp only [Option.bind_some, List.all_cons, List.all_nil, Bool.and_true]
  by_cases hin : (decide (0 ≤ p) && decide (p ≤ 2199023255551)) = true
  · rw [hin]
    simp only [Bool.and_eq_true, decide_eq_true_eq] at hin
    obtain ⟨p, rfl⟩ := Int.eq_ofNat_of_zero_le hin.1
    rw [Int.toNat_natCast] at h
    have hpb := bl41 hin.2
    rw [if_pos rfl, if_pos rfl, degree_at p (by omega), poDegree_at p (by omega) (k + 1) (by omega)]
    simp only [Option.bind_some]
    rw [in_at, l1In_at]
    have : (decide (1 ≤ (bl p : Int) - 1) && decide ((bl p : Int) - 1 ≤ 10)) = false := by
      rw [Bool.eq_false_iff]
      simp
      omega
    rw [this]
    simp only [Option.bind_some, Bool.not_false]
    rw [impl_FirstFibonacci.j0, spec_FirstFibonacci.j0]
    simp
  · rw [Bool.eq_false_iff.mpr hin, if_neg (by simp), if_neg (by simp), impl_FirstFibonacci.j0, spec_FirstFibonacci.j0]
    simp
end Go.Proofs.Ytigkmdlbijdoaaa.Pf
