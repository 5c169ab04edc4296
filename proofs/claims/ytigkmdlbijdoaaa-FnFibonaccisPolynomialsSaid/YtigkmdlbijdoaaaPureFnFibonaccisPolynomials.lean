/- The law FnFibonaccisPolynomials, with no program in sight. -/
import Derived.Test.YtigkmdlbijdoaaaBundleF
import Derived.Test.YtigkmdlbijdoaaaPx11
import Derived.Test.YtigkmdlbijdoaaaPx15
import Derived.Test.YtigkmdlbijdoaaaPx16
import Derived.Test.YtigkmdlbijdoaaaPx17
namespace Go.Proofs.Ytigkmdlbijdoaaa.Pure
open Go.RowKit Go.Proofs.Ytigkmdlbijdoaaa.P Go.Proofs.Ytigkmdlbijdoaaa.Bt Go.Proofs.Ytigkmdlbijdoaaa.Pf Go.Proofs.Ytigkmdlbijdoaaa.Gf Go.Proofs.Ytigkmdlbijdoaaa.Dr Go.Proofs.YtigkmdlbijdoaaaW.PrintWords Go.Proofs.YtigkmdlbijdoaaaW.PrintLast
set_option linter.unusedVariables false
set_option linter.unusedSimpArgs false

theorem le41 {p : Nat} (h : bl p ≤ 41) : (p : Int) ≤ 2199023255551 := by
  have := bl_le_iff.1 h
  have e : (2 : Nat) ^ 41 = 2199023255552 := rfl
  omega
theorem fb_lt {n : Nat} (h : n ≤ 45) : fb n < 140737488355328 := by
  have := bl_le_iff.1 (show bl (fb n) ≤ 47 by rw [(fb_bl n).1]; omega)
  have e : (2 : Nat) ^ 47 = 140737488355328 := rfl
  omega
theorem fibs_impl (N : Nat) (hN : N ≤ 41) : ∀ (d i k : Nat), i + d = N → d < k → impl_fibonacci.l0 k ((fb i : Nat) : Int) ((fb (i + 1) : Nat) : Int) (N : Int) (i : Int) = some ((fb N : Nat) : Int) := by
  intro d
  induction d with
  | zero =>
    intro i k hi hk
    obtain ⟨k, rfl⟩ : ∃ j, k = j + 1 := ⟨k - 1, by omega⟩
    have : i = N := by omega
    subst this
    rw [impl_fibonacci.l0, if_neg (by omega)]
  | succ d ih =>
    intro i k hi hk
    obtain ⟨k, rfl⟩ : ∃ j, k = j + 1 := ⟨k - 1, by omega⟩
    have a := fb_lt (n := i) (by omega)
    have b := fb_lt (n := i + 1) (by omega)
    rw [impl_fibonacci.l0, if_pos (by omega), two_nat, wrap_nat (by omega), bits_xor (by omega) (by omega), ← fb_step, show ((i : Int) + 1) = ((i + 1 : Nat) : Int) by omega, wrap_nat (by omega)]
    exact ih (i + 1) k (by omega) (by omega)
def pr : Nat → Nat
  | 0 => 1
  | n + 1 => fb n
theorem pr_step (n : Nat) : 2 * fb n ^^^ pr n = fb (n + 1) := by
  cases n with
  | zero => rfl
  | succ n => exact (fb_step n).symm
theorem pr_lt {n : Nat} (h : n ≤ 45) : pr n < 140737488355328 := by
  cases n with
  | zero => decide
  | succ n => exact fb_lt (by omega)
theorem fibs_spec : ∀ (d i k : Nat), i + d ≤ 41 → d < k → spec_poFibonacci.l0 k (d : Int) ((pr i : Nat) : Int) ((fb i : Nat) : Int) = some ((fb (i + d) : Nat) : Int) := by
  intro d
  induction d with
  | zero =>
    intro i k hi hk
    obtain ⟨k, rfl⟩ : ∃ j, k = j + 1 := ⟨k - 1, by omega⟩
    rw [spec_poFibonacci.l0, if_neg (by omega)]
    rfl
  | succ d ih =>
    intro i k hi hk
    obtain ⟨k, rfl⟩ : ∃ j, k = j + 1 := ⟨k - 1, by omega⟩
    have a := fb_lt (n := i) (by omega)
    have b := pr_lt (n := i) (by omega)
    rw [spec_poFibonacci.l0, if_pos (by omega), two_nat, wrap_nat (by omega), bits_xor (by omega) (by omega), pr_step, show (((d + 1 : Nat) : Int) - 1) = (d : Int) by omega, wrap_nat (by omega)]
    have := ih (i + 1) k (by omega) (by omega)
    rw [show i + 1 + d = i + (d + 1) by omega] at this
    exact this
theorem fibP {n : Nat} (h : n ≤ 41) (k : Nat) (hk : 100 < k) : impl_FibonacciPoly.f k (n : Int) = some (((fb n : Nat) : Int), true) ∧ spec_FibonacciPoly.f k (n : Int) = some (((fb n : Nat) : Int), true) := by
  have e : (decide ((0 : Int) ≤ (n : Int)) && decide ((n : Int) ≤ 41)) = true := by simp; omega
  constructor
  · unfold impl_FibonacciPoly.f
    rw [in_at, e, Option.bind_some, if_pos rfl]
    unfold impl_fibonacci.f
    have := fibs_impl n h n 0 k (by omega) (by omega)
    rw [show ((fb 0 : Nat) : Int) = 0 from rfl, show ((fb (0 + 1) : Nat) : Int) = 1 from rfl, show ((0 : Nat) : Int) = 0 from rfl] at this
    rw [this]; rfl
  · unfold spec_FibonacciPoly.f
    rw [l1In_at, e, Option.bind_some, if_pos rfl]
    unfold spec_poFibonacci.f
    have := fibs_spec n 0 k (by omega) (by omega)
    rw [show ((pr 0 : Nat) : Int) = 1 from rfl, show ((fb 0 : Nat) : Int) = 0 from rfl, Nat.zero_add] at this
    rw [this]; rfl
theorem fibN {a : Int} (h : ¬ (0 ≤ a ∧ a ≤ 41)) (k : Nat) : impl_FibonacciPoly.f k a = some (0, false) ∧ spec_FibonacciPoly.f k a = some (0, false) := by
  have e : (decide ((0 : Int) ≤ a) && decide (a ≤ 41)) = false := by rw [Bool.eq_false_iff]; simp; omega
  constructor
  · unfold impl_FibonacciPoly.f; rw [in_at, e]; rfl
  · unfold spec_FibonacciPoly.f; rw [l1In_at, e]; rfl
theorem isPoly2 {p q : Nat} (hp : bl p ≤ 41) (hq : bl q ≤ 41) : impl_isPoly.f [(p : Int), (q : Int)] = some true := by
  have := le41 hp
  have := le41 hq
  unfold impl_isPoly.f
  simp
  omega
theorem isPoly1 {p : Nat} (hp : bl p ≤ 41) : impl_isPoly.f [(p : Int)] = some true := by
  have := le41 hp
  unfold impl_isPoly.f
  simp
  omega
theorem timesP {p q : Nat} (hp : bl p ≤ 41) (hq : bl q ≤ 41) (p0 : p ≠ 0) (q0 : q ≠ 0) (k : Nat) (hk : 100 < k) : impl_TimesPoly.f k (p : Int) (q : Int) = if bl p + bl q > 42 then some (0, false) else some (((mul p q : Nat) : Int), true) := by
  have a := bl_pos' p0
  have b := bl_pos' q0
  unfold impl_TimesPoly.f
  rw [isPoly2 hp hq, Option.bind_some, if_pos rfl, if_neg (by omega), if_neg (by omega), degree_at p (by omega), Option.bind_some, degree_at q (by omega), Option.bind_some, wrap_id (by omega) (by omega)]
  by_cases c : bl p + bl q > 42
  · rw [if_pos (by omega), if_pos c]
  · rw [if_neg (by omega), if_neg c, times_at p q (by omega) k (by omega)]; rfl
theorem gcdI : ∀ (b a k : Nat), b < k → laws_vGcd.l0 k (a : Int) (b : Int) = some ((Nat.gcd b a : Nat) : Int) := by
  intro b
  induction b using Nat.strongRecOn with
  | ind b ih =>
    intro a k hk
    obtain ⟨k, rfl⟩ : ∃ j, k = j + 1 := ⟨k - 1, by omega⟩
    rw [laws_vGcd.l0]
    by_cases c : b = 0
    · subst c; rw [if_neg (by omega), Nat.gcd_zero_left]
    · have hm := Nat.mod_lt a (Nat.pos_of_ne_zero c)
      rw [if_pos (by omega), if_neg (by omega), show Int.tmod (a : Int) (b : Int) = ((a % b : Nat) : Int) from rfl, ih (a % b) hm b k (by omega), Nat.gcd_rec b a]
theorem ffM_spec {p : Nat} (hp : p ≠ 0) : ∀ (d n : Nat), (ffM p d (n + 1) (rest (fb n) p) (rest (fb (n + 1)) p)).2 = true →
    ∃ m : Nat, (ffM p d (n + 1) (rest (fb n) p) (rest (fb (n + 1)) p)).1 = (m : Int) ∧ n + 1 ≤ m ∧ m ≤ n + d ∧ rest (fb m) p = 0 ∧ ∀ j, n + 1 ≤ j → j < m → rest (fb j) p ≠ 0 := by
  intro d
  induction d with
  | zero => intro n h; exact absurd h (by rw [ffM]; decide)
  | succ d ih =>
    intro n h
    rw [ffM] at h ⊢
    by_cases c : rest (fb (n + 1)) p = 0
    · rw [if_pos c]
      exact ⟨n + 1, rfl, Nat.le_refl _, by omega, c, fun j h1 h2 => by omega⟩
    · rw [if_neg c] at h ⊢
      have e : rest (2 * rest (fb (n + 1)) p) p ^^^ rest (fb n) p = rest (fb (n + 2)) p := by rw [rest_two hp, ← rest_xor hp, ← fb_step]
      rw [e] at h ⊢
      obtain ⟨m, h1, h2, h3, h4, h5⟩ := ih (n + 1) h
      refine ⟨m, h1, by omega, by omega, h4, fun j hj1 hj2 => ?_⟩
      by_cases z : j = n + 1
      · rw [z]; exact c
      · exact h5 j (by omega) hj2
theorem divideP {p q : Nat} (hp : bl p ≤ 41) (hq : bl q ≤ 41) (q0 : q ≠ 0) (k : Nat) (hk : 200 < k) : impl_DividePoly.f k (p : Int) (q : Int) = some (((divMod p q).1 : Int), ((rest p q : Nat) : Int), true) := by
  unfold impl_DividePoly.f
  rw [isPoly2 hp hq, Option.bind_some, if_pos rfl, if_neg (by omega), divide_at p q q0 (by omega) (by omega) k (by omega), Option.bind_some]
  rfl
theorem lastLoop {p m : Nat} (hp : 2 ≤ bl p) (hp' : bl p ≤ 11) (hm : 1 ≤ m) (hm' : m ≤ 6000) (h0 : rest (fb m) p = 0) (hn : ∀ j, 1 ≤ j → j < m → rest (fb j) p ≠ 0) : ∀ (d i k : Nat), i + d = 42 → 1 ≤ i → 2 * d + 300 < k → laws_FnFibonaccisPolynomials.l0 k (p : Int) (m : Int) (i : Int) = some true := by
  have p0 : p ≠ 0 := fun e => by rw [e, bl_zero] at hp; omega
  intro d
  induction d with
  | zero =>
    intro i k hi h1 hk
    obtain ⟨k, rfl⟩ : ∃ j, k = j + 1 + 1 := ⟨k - 2, by omega⟩
    have : i = 42 := by omega
    subst this
    rw [laws_FnFibonaccisPolynomials.l0, show decide (((42 : Nat) : Int) ≤ 41) = false from by decide]
    split <;> rw [laws_FnFibonaccisPolynomials.j9, if_neg (by decide)]
  | succ d ih =>
    intro i k hi h1 hk
    obtain ⟨k, rfl⟩ : ∃ j, k = j + 1 + 1 := ⟨k - 2, by omega⟩
    rw [laws_FnFibonaccisPolynomials.l0]
    by_cases c : i ≤ m
    · rw [if_pos (by omega), show decide ((i : Int) ≤ 41) = true from by simp; omega, laws_FnFibonaccisPolynomials.j9, if_pos rfl, (fibP (n := i) (by omega) k (by omega)).1, Option.bind_some]
      simp only
      rw [divideP (by rw [(fb_bl i).1]; omega) (by omega) p0 k (by omega), Option.bind_some]
      simp only
      have e : (((rest (fb i) p : Nat) : Int) == 0) = ((i : Int) == (m : Int)) := by
        rw [Bool.eq_iff_iff, beq_iff_eq, beq_iff_eq]
        constructor
        · intro z
          by_cases w : i = m
          · omega
          · exact absurd (by omega) (hn i h1 (by omega))
        · intro z
          rw [show i = m by omega, h0]; rfl
      rw [if_pos trivial, if_pos trivial, e, bne_self_eq_false, if_neg (by decide), show ((i : Int) + 1) = ((i + 1 : Nat) : Int) by omega, wrap_nat (by omega)]
      exact ih (i + 1) k (by omega) (by omega) (by omega)
    · rw [if_neg (by omega), laws_FnFibonaccisPolynomials.j9, if_neg (by decide)]
theorem draw1 {l : List Int} (h : By l) : ∃ n : Int, spec_DrawFibonacciPoly.f l = some n ∧ -1 ≤ n ∧ n ≤ 42 := by
  obtain ⟨x, q, s, e, h1, h2, _⟩ := pick_at h 0 0 44 (by omega) (by omega) (by omega)
  unfold spec_DrawFibonacciPoly.f
  rw [e, Option.bind_some]
  simp only
  rw [wrap_id (by omega) (by omega)]
  exact ⟨_, rfl, by omega, by omega⟩
theorem draw2 {l : List Int} (h : By l) : ∃ n : Int, ∀ k, 100 < k → spec_DrawFirstFibonacci.f k l = some n := by
  obtain ⟨x, q, s, e, h1, h2, h3⟩ := among_at h 0 0 [1, 2, 3, 4, 6] (by omega) (by omega) (by simp)
  have hx : 0 ≤ x ∧ x ≤ 40 := by
    simp only [List.mem_cons, List.not_mem_nil, or_false] at h1
    omega
  obtain ⟨y, q2, s2, e2, _⟩ := poly_at h q s x (by omega) (by omega) hx.1 hx.2
  refine ⟨y, fun k hk => ?_⟩
  unfold spec_DrawFirstFibonacci.f
  rw [e, Option.bind_some]
  simp only
  rw [e2 k hk]
  rfl
theorem st6 {l : List Int} (h : By l) (k : Nat) (hk : 8000 < k) : laws_FnFibonaccisPolynomials.j6 k l = some true := by
  obtain ⟨k, rfl⟩ : ∃ j, k = j + 1 + 1 := ⟨k - 2, by omega⟩
  obtain ⟨p, e⟩ := draw2 h
  rw [laws_FnFibonaccisPolynomials.j6, e _ (by omega), Option.bind_some]
  by_cases c : 0 ≤ p ∧ p ≤ 2199023255551 ∧ 2 ≤ bl p.toNat ∧ bl p.toNat ≤ 11
  · obtain ⟨h1, h2, h3, h4⟩ := c
    obtain ⟨p, rfl⟩ := Int.eq_ofNat_of_zero_le h1
    rw [Int.toNat_natCast] at h3 h4
    have p0 : p ≠ 0 := fun e => by rw [e, bl_zero] at h3; omega
    have f := firstFib_at h3 h4 (k + 1) (by omega)
    rw [f.1, f.2, Option.bind_some, Option.bind_some, bne_self_eq_false, if_neg (by decide), bne_self_eq_false, laws_FnFibonaccisPolynomials.j7, if_neg (by decide)]
    have g := ffM_spec p0 5000 0
    rw [show rest (fb 0) p = 0 from rest_of_lt (by show bl 0 < _; rw [bl_zero]; omega), show rest (fb (0 + 1)) p = 1 from rest_of_lt (by show 1 < _; omega)] at g
    by_cases t : (ffM p 5000 1 0 1).2 = true
    · obtain ⟨m, g1, g2, g3, g4, g5⟩ := g t
      rw [if_pos t, g1]
      exact lastLoop h3 h4 g2 (by omega) g4 g5 41 1 k (by omega) (by omega) (by omega)
    · rw [if_neg t]
  · have f := firstFib_no p c (k + 1) (by omega)
    rw [f.1, f.2, Option.bind_some, Option.bind_some, bne_self_eq_false, if_neg (by decide), bne_self_eq_false, laws_FnFibonaccisPolynomials.j7, if_neg (by decide), if_neg (by decide)]
theorem st3 {l : List Int} (h : By l) {n : Nat} (hn : n ≤ 41) (k : Nat) (hk : 8010 < k) : laws_FnFibonaccisPolynomials.j3 k l (n : Int) ((fb n : Nat) : Int) (decide ((n : Int) ≥ 1)) = some true := by
  obtain ⟨k, rfl⟩ : ∃ j, k = j + 1 + 1 + 1 := ⟨k - 3, by omega⟩
  rw [laws_FnFibonaccisPolynomials.j3]
  by_cases c : 1 ≤ n
  · have b := (fb_bl n).1
    have f0 : fb n ≠ 0 := fun e => by rw [e, bl_zero] at b; omega
    have d : impl_DegreeOf.f ((fb n : Nat) : Int) = some ((n : Int) - 1, true) := by
      unfold impl_DegreeOf.f
      rw [isPoly1 (by omega), Option.bind_some, if_pos rfl, degree_at _ (by omega), b]; rfl
    rw [if_pos (by rw [decide_eq_true_eq]; omega), d, Option.bind_some, timesP (by omega) (by omega) f0 f0 _ (by omega), b]
    rw [show (2 * (n : Int)) = ((2 * n : Nat) : Int) by omega, wrap_nat (by omega), wrap_id (x := (n : Int) - 1) (by omega) (by omega)]
    by_cases c2 : n + n > 42
    · have g := (fibN (a := ((2 * n : Nat) : Int)) (by omega) (k + 1 + 1)).1
      rw [if_pos c2, Option.bind_some, g, Option.bind_some]
      simp only
      rw [if_pos trivial, bne_self_eq_false, laws_FnFibonaccisPolynomials.j4, if_neg (by decide), if_neg (by decide), laws_FnFibonaccisPolynomials.j5, if_neg (by decide)]
      exact st6 h k (by omega)
    · rw [if_neg c2, Option.bind_some]
      by_cases c3 : 2 * n ≤ 41
      · have g := (fibP (n := 2 * n) c3 (k + 1 + 1) (by omega)).1
        have m0 := bl_mul f0 f0
        have mz := mul_ne_zero f0 f0
        rw [g, Option.bind_some]
        simp only
        rw [if_pos trivial, bne_self_eq_false, laws_FnFibonaccisPolynomials.j4, if_neg (by decide), if_pos rfl, laws_FnFibonaccisPolynomials.j5, if_pos rfl, show (2 : Int) = ((2 : Nat) : Int) from rfl, timesP (by omega) (by decide) mz (by decide) k (by omega), show bl 2 = 2 from by decide, if_neg (by omega), Option.bind_some]
        simp only
        rw [if_pos trivial, if_pos (by rw [fb_double (by omega)])]
        exact st6 h k (by omega)
      · have g := (fibN (a := ((2 * n : Nat) : Int)) (by omega) (k + 1 + 1)).1
        rw [g, Option.bind_some]
        simp only
        rw [if_pos trivial, bne_self_eq_false, laws_FnFibonaccisPolynomials.j4, if_neg (by decide), if_pos rfl, laws_FnFibonaccisPolynomials.j5, if_neg (by decide)]
        exact st6 h k (by omega)
  · rw [if_neg (by rw [decide_eq_true_eq]; omega)]
    exact st6 h _ (by omega)
theorem st2 {l : List Int} (h : By l) {n : Nat} (hn : n ≤ 41) (k : Nat) (hk : 8020 < k) : laws_FnFibonaccisPolynomials.j2 k l (n : Int) ((fb n : Nat) : Int) true = some true := by
  obtain ⟨k, rfl⟩ : ∃ j, k = j + 1 := ⟨k - 1, by omega⟩
  rw [laws_FnFibonaccisPolynomials.j2, if_pos rfl]
  exact st3 h hn k (by omega)
theorem FnFibonaccisPolynomials : laws_FnFibonaccisPolynomials.Pure := by
  intro l0 l1 _ _ w0 _ _ w1
  have h0 := by_wf w0
  have h1 := by_wf w1
  refine ⟨9000 + 1 + 1 + 1 + 1, ?_⟩
  generalize hK : 9000 = K
  unfold laws_FnFibonaccisPolynomials.f
  have hb : ∃ b, laws_big.f l0 l1 = some b := by
    unfold laws_big.f
    split
    · exact ⟨_, rfl⟩
    · exact ⟨_, rfl⟩
  obtain ⟨b, hb⟩ := hb
  obtain ⟨n, d1, n1, n2⟩ := draw1 h0
  obtain ⟨m, d2, m1, m2⟩ := draw1 h1
  rw [hb, Option.bind_some]
  cases b with
  | true => rfl
  | false =>
    rw [if_neg (by decide), d1, Option.bind_some]
    by_cases cn : 0 ≤ n ∧ n ≤ 41
    · obtain ⟨n, rfl⟩ := Int.eq_ofNat_of_zero_le cn.1
      have f := fibP (n := n) (by omega) (K + 1 + 1 + 1 + 1) (by omega)
      rw [f.1, f.2, Option.bind_some, Option.bind_some, d2, Option.bind_some]
      by_cases cm : 0 ≤ m ∧ m ≤ 41
      · obtain ⟨m, rfl⟩ := Int.eq_ofNat_of_zero_le cm.1
        have g := fibP (n := m) (by omega) (K + 1 + 1 + 1 + 1) (by omega)
        have bn := (fb_bl n).1
        have bm := (fb_bl m).1
        have gg : impl_GcdPoly.f (K + 1 + 1) ((fb n : Nat) : Int) ((fb m : Nat) : Int) = some (((fb (Nat.gcd m n) : Nat) : Int), true) := by
          unfold impl_GcdPoly.f
          rw [isPoly2 (by omega) (by omega), Option.bind_some, if_pos rfl, gcd_at _ _ (by omega) (by omega) _ (by omega), fb_gcd (by omega) (by omega)]; rfl
        have gi : laws_vGcd.f (K + 1 + 1) (n : Int) (m : Int) = some ((Nat.gcd m n : Nat) : Int) := gcdI m n _ (by omega)
        have gl : Nat.gcd m n ≤ 41 := by
          by_cases z : m = 0
          · rw [z, Nat.gcd_zero_left]; omega
          · have := Nat.gcd_le_left n (Nat.pos_of_ne_zero z); omega
        have gf := (fibP gl (K + 1 + 1) (by omega)).1
        rw [g.1, g.2, Option.bind_some, Option.bind_some]
        simp only
        rw [bne_self_eq_false, if_neg (by decide), if_pos trivial, if_neg (by decide), bne_self_eq_false, laws_FnFibonaccisPolynomials.j0, if_neg (by decide), if_pos rfl, laws_FnFibonaccisPolynomials.j1, if_pos rfl, gg, Option.bind_some, gi, Option.bind_some, gf, Option.bind_some]
        simp only
        rw [if_pos trivial, if_pos trivial, if_pos trivial]
        exact st2 h1 (by omega) _ (by omega)
      · have g := fibN cm (K + 1 + 1 + 1 + 1)
        rw [g.1, g.2, Option.bind_some, Option.bind_some]
        simp only
        rw [bne_self_eq_false, if_neg (by decide), if_pos trivial, bne_self_eq_false, if_neg (by decide), bne_self_eq_false, laws_FnFibonaccisPolynomials.j0, if_neg (by decide), if_pos rfl, laws_FnFibonaccisPolynomials.j1, if_neg (by decide)]
        exact st2 h1 (by omega) _ (by omega)
    · have f := fibN cn (K + 1 + 1 + 1 + 1)
      have g : ∃ r : Int × Bool, impl_FibonacciPoly.f (K + 1 + 1 + 1 + 1) m = some r ∧ spec_FibonacciPoly.f (K + 1 + 1 + 1 + 1) m = some r := by
        by_cases cm : 0 ≤ m ∧ m ≤ 41
        · obtain ⟨m, rfl⟩ := Int.eq_ofNat_of_zero_le cm.1
          exact ⟨_, fibP (n := m) (by omega) (K + 1 + 1 + 1 + 1) (by omega)⟩
        · exact ⟨_, fibN cm (K + 1 + 1 + 1 + 1)⟩
      obtain ⟨⟨r1, r2⟩, g1, g2⟩ := g
      rw [f.1, f.2, Option.bind_some, Option.bind_some, d2, Option.bind_some, g1, g2, Option.bind_some, Option.bind_some]
      simp only
      rw [bne_self_eq_false, if_neg (by decide), if_pos trivial, bne_self_eq_false, if_neg (by decide), bne_self_eq_false, laws_FnFibonaccisPolynomials.j0, if_neg (by decide), if_neg (by decide), laws_FnFibonaccisPolynomials.j1, if_neg (by decide), laws_FnFibonaccisPolynomials.j2, if_neg (by decide), laws_FnFibonaccisPolynomials.j3, if_neg (by decide)]
      exact st6 h1 K (by omega)
end Go.Proofs.Ytigkmdlbijdoaaa.Pure
