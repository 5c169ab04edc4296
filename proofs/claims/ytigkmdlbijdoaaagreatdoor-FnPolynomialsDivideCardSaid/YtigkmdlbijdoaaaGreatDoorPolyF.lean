/- What the functions on polynomials answer. -/
import Derived.Test.YtigkmdlbijdoaaaGreatDoorBits
import Derived.Test.YtigkmdlbijdoaaaGreatDoorPx1
import Derived.Test.YtigkmdlbijdoaaaGreatDoorPx2
import Derived.Test.YtigkmdlbijdoaaaGreatDoorPx5
import Derived.Test.YtigkmdlbijdoaaaGreatDoorPx7
namespace Go.Proofs.YtigkmdlbijdoaaaGreatDoor.Pf
open Go.RowKit Go.Proofs.YtigkmdlbijdoaaaGreatDoor.P Go.Proofs.YtigkmdlbijdoaaaGreatDoor.Bt Go.Proofs.YtigkmdlbijdoaaaGreatDoor.Gf Go.Proofs.YtigkmdlbijdoaaaGreatDoorW.PrintWords Go.Proofs.YtigkmdlbijdoaaaGreatDoorW.PrintLast Go.Proofs.YtigkmdlbijdoaaaGreatDoorW.PrintMore
set_option linter.unusedVariables false
set_option linter.unusedSimpArgs false

theorem pow62 : (2 : Nat) ^ 62 = 4611686018427387904 := rfl
theorem pow63 : (2 : Nat) ^ 63 = 9223372036854775808 := rfl
theorem bl_le62 {n : Nat} (h : n < 4611686018427387904) : bl n ≤ 62 := bl_le_iff.2 (by rw [pow62]; exact h)
theorem lt_of_bl {n : Nat} (h : bl n ≤ 62) : n < 4611686018427387904 := by have := bl_le_iff.1 h; rwa [pow62] at this
theorem bl41 {n : Nat} (h : (n : Int) ≤ 2199023255551) : bl n ≤ 41 := bl_le_iff.2 (by have : (2 : Nat) ^ 41 = 2199023255552 := rfl; omega)
theorem bl_pos' {n : Nat} (h : n ≠ 0) : 0 < bl n := Nat.pos_of_ne_zero (fun e => h (bl_eq_zero.1 e))

theorem two_nat (n : Nat) : (n : Int) * 2 = ((2 * n : Nat) : Int) := by omega
theorem soTop_l0 : ∀ (d n k : Nat) (c : Int), bl n = d → d ≤ 62 → -1 ≤ c → c + d ≤ 100 → d < k → spec_soTop.l0 k (n : Int) c = some (c + (d : Int)) := by
  intro d
  induction d with
  | zero =>
    intro n k c hn _ _ _ hk
    obtain ⟨k, rfl⟩ : ∃ m, k = m + 1 := ⟨k - 1, by omega⟩
    have : n = 0 := bl_eq_zero.1 hn
    subst this
    rw [spec_soTop.l0, if_neg (by omega)]
    simp
  | succ d ih =>
    intro n k c hn hd h1 h2 hk
    obtain ⟨k, rfl⟩ : ∃ m, k = m + 1 := ⟨k - 1, by omega⟩
    have h0 : n ≠ 0 := fun e => by rw [e, bl_zero] at hn; omega
    have hlt := lt_of_bl (n := n) (by omega)
    rw [spec_soTop.l0, if_pos (by omega), tdiv_two, wrap_nat (by omega), wrap_id (by omega) (by omega)]
    have hb := bl_half h0
    rw [ih (n / 2) k (c + 1) (by omega) (by omega) (by omega) (by omega) (by omega)]
    congr 1; omega
theorem soTop_at (n : Nat) (h : bl n ≤ 62) : ∀ k, bl n < k → spec_soTop.f k (n : Int) = some ((bl n : Int) - 1) := by
  intro k hk
  unfold spec_soTop.f
  rw [soTop_l0 (bl n) n k (-1) rfl h (by omega) (by omega) hk, Int.add_comm]
  rfl
theorem poDegree_at (n : Nat) (h : bl n ≤ 62) : ∀ k, 62 < k → spec_poDegree.f k (n : Int) = some ((bl n : Int) - 1) := by
  intro k hk
  unfold spec_poDegree.f
  rw [soTop_at n h k (by omega)]
  rfl
theorem u64_nat {n : Nat} (h : n < 18446744073709551616) : IntKind.u64.wrap (n : Int) = n := by
  rw [IntKind.wrap_u64]; omega
theorem top_at (n : Nat) (h : bl n ≤ 62) : impl_top.f (n : Int) = some ((bl n : Int) - 1) := by
  have hlt := lt_of_bl h
  unfold impl_top.f bits_Len.f bits_Len64.f
  rw [u64_nat (by omega), if_pos (by omega), Int.toNat_natCast, bitLen_bl n (by omega)]
  simp only [Option.bind_some]
  rw [wrap_id (by omega) (by omega)]
theorem degree_at (n : Nat) (h : bl n ≤ 62) : impl_degree.f (n : Int) = some ((bl n : Int) - 1) := by
  unfold impl_degree.f; rw [top_at n h]; rfl
theorem grIn_at (s i : Nat) (hs : s < 9223372036854775808) : spec_grIn.f (s : Int) (i : Int) = some (s.testBit i) := by
  unfold spec_grIn.f; rw [if_pos (by omega), grIn_val hs]
theorem has_at (s i : Nat) (hs : s < 9223372036854775808) : impl_has.f (s : Int) (i : Int) = some (s.testBit i) := by
  unfold impl_has.f; rw [if_pos (by omega), has_val hs]
theorem l1In_at (a b c : Int) : spec_l1In.f a b c = some (decide (b ≤ a) && decide (a ≤ c)) := by
  unfold spec_l1In.f
  by_cases h : b ≤ a
  · rw [if_pos h]; simp [h]
  · rw [if_neg h]; simp [h]
theorem in_at (a b c : Int) : impl_in.f a b c = some (decide (b ≤ a) && decide (a ≤ c)) := by
  unfold impl_in.f
  by_cases h : b ≤ a
  · rw [if_pos h]; simp [h]
  · rw [if_neg h]; simp [h]
theorem poGood_at (a : Int) : spec_poGood.f a = some (decide (0 ≤ a) && decide (a ≤ 2199023255551)) := by
  unfold spec_poGood.f; rw [l1In_at]; rfl

/-! ### products -/
theorem poTimes_l0 : ∀ (d p q out k : Nat), bl q = d → bl p + d ≤ 62 → bl out ≤ 62 → d < k →
    spec_poTimes.l0 k (p : Int) (q : Int) (out : Int) = some (((out ^^^ mul p q : Nat)) : Int) := by
  intro d
  induction d with
  | zero =>
    intro p q out k hq _ _ hk
    obtain ⟨k, rfl⟩ : ∃ m, k = m + 1 := ⟨k - 1, by omega⟩
    have : q = 0 := bl_eq_zero.1 hq
    subst this
    rw [spec_poTimes.l0, if_neg (by omega), mul_zero, Nat.xor_zero]
  | succ d ih =>
    intro p q out k hq hp ho hk
    obtain ⟨k, rfl⟩ : ∃ m, k = m + 1 := ⟨k - 1, by omega⟩
    have h0 : q ≠ 0 := fun e => by rw [e, bl_zero] at hq; omega
    have hb := bl_half h0
    have hql := lt_of_bl (n := q) (by omega)
    have hpl := lt_of_bl (n := p) (by omega)
    have hol := lt_of_bl ho
    have hp2 : bl (2 * p) ≤ bl p + 1 := by
      by_cases e : p = 0
      · subst e; simp [bl_zero]
      · rw [bl_two_mul e]; omega
    have e2 : wrap64 ((p : Int) * 2) = ((2 * p : Nat) : Int) := by
      rw [show (p : Int) * 2 = ((2 * p : Nat) : Int) from by omega, wrap_nat (by omega)]
    rw [spec_poTimes.l0, if_pos (by omega), tmod_two, tdiv_two, wrap_nat (by omega), e2]
    rw [mul_step p q]
    by_cases h1 : q % 2 = 1
    · rw [if_pos (by omega), if_pos h1, bits_xor (by omega) (by omega), ih (2 * p) (q / 2) (out ^^^ p) k (by omega) (by omega) (bl_xor_le _ _ _ ho (by omega)) (by omega), mul_two_left, Nat.xor_assoc]
    · rw [if_neg (by omega), if_neg h1, ih (2 * p) (q / 2) out k (by omega) (by omega) ho (by omega), mul_two_left, Nat.zero_xor]
theorem poTimes_at (p q : Nat) (h : bl p + bl q ≤ 62) (k : Nat) (hk : 62 < k) : spec_poTimes.f k (p : Int) (q : Int) = some ((mul p q : Nat) : Int) := by
  unfold spec_poTimes.f
  have := poTimes_l0 (bl q) p q 0 k rfl h (by rw [bl_zero]; omega) (by omega)
  rw [Nat.zero_xor] at this
  exact this
/-- The bits of q below k, times p. -/
theorem mul_low (p q k : Nat) : mul p (q % 2 ^ (k + 1)) = mul p (q % 2 ^ k) ^^^ (if q.testBit k = true then p <<< k else 0) := by
  have e : q % 2 ^ (k + 1) = (q % 2 ^ k) ^^^ (if q.testBit k = true then 1 <<< k else 0) := by
    apply Nat.eq_of_testBit_eq
    intro i
    rw [Nat.testBit_xor, Nat.testBit_mod_two_pow, Nat.testBit_mod_two_pow]
    have : (if q.testBit k = true then 1 <<< k else 0 : Nat).testBit i = (decide (i = k) && q.testBit k) := by
      split
      · rename_i h; rw [Nat.shiftLeft_eq, Nat.one_mul, Nat.testBit_two_pow, h, Bool.and_true]
        simp only [eq_comm]
      · rename_i h; simp at h; simp [h]
    rw [this]
    by_cases h1 : i < k
    · simp [h1, show i < k + 1 by omega, show ¬ i = k by omega]
    · by_cases h2 : i = k
      · subst h2; simp
      · simp [h1, h2, show ¬ i < k + 1 by omega]
  rw [e, mul_xor_right]
  congr 1
  split
  · rw [mul_shift]
  · rw [mul_zero]
theorem times_l0 : ∀ (d p q i k : Nat), bl q - i = d → i ≤ bl q → bl p + bl q ≤ 62 → d < k →
    impl_times.l0 k (p : Int) (q : Int) ((mul p (q % 2 ^ i) : Nat) : Int) (i : Int) = some ((mul p q : Nat) : Int) := by
  intro d
  induction d with
  | zero =>
    intro p q i k hd hi h hk
    obtain ⟨k, rfl⟩ : ∃ m, k = m + 1 := ⟨k - 1, by omega⟩
    have hql := lt_of_bl (n := q) (by omega)
    have e : i = bl q := by omega
    have hq : q < 2 ^ i := by rw [e]; exact lt_bl q
    rw [impl_times.l0, if_pos (by omega), shr_nat (by omega), Nat.shiftRight_eq_div_pow, Nat.div_eq_of_lt hq, if_neg (by omega), Nat.mod_eq_of_lt hq]
  | succ d ih =>
    intro p q i k hd hi h hk
    obtain ⟨k, rfl⟩ : ∃ m, k = m + 1 := ⟨k - 1, by omega⟩
    have hql := lt_of_bl (n := q) (by omega)
    have hpl := lt_of_bl (n := p) (by omega)
    have hge : 2 ^ i ≤ q := by
      rcases Nat.lt_or_ge q (2 ^ i) with h' | h'
      · have := bl_le_iff.2 h'; omega
      · exact h'
    have hpos : 0 < q / 2 ^ i := Nat.div_pos hge (Nat.two_pow_pos i)
    rw [impl_times.l0, if_pos (by omega), shr_nat (by omega), Nat.shiftRight_eq_div_pow, if_pos (by omega), has_at q i (by omega)]
    simp only [Option.bind_some]
    rw [show wrap64 ((i : Int) + 1) = ((i + 1 : Nat) : Int) from wrap_id (by omega) (by omega)]
    have hm := mul_low p q i
    have hbm : bl (mul p (q % 2 ^ i)) ≤ 62 := by
      by_cases e1 : p = 0
      · subst e1; rw [zero_mul, bl_zero]; omega
      · by_cases e2 : q % 2 ^ i = 0
        · rw [e2, mul_zero, bl_zero]; omega
        · have h3 := bl_mul e1 e2
          have h4 : bl (q % 2 ^ i) ≤ bl q := bl_mono (Nat.mod_le _ _)
          omega
    have hml := lt_of_bl hbm
    by_cases hb : q.testBit i = true
    · have hps : bl (p <<< i) ≤ 62 := by
        by_cases e : p = 0
        · subst e; simp [bl_zero]
        · rw [bl_shift e]; omega
      have hpsl := lt_of_bl hps
      have hmul : p * 2 ^ i < 9223372036854775808 := by rw [← Nat.shiftLeft_eq]; omega
      rw [if_pos hb] at hm ⊢
      rw [shl_nat (by omega) hmul, bits_xor (by omega) (by omega), ← hm]
      exact ih p q (i + 1) k (by omega) (by omega) h (by omega)
    · rw [if_neg hb] at hm ⊢
      rw [Nat.xor_zero] at hm
      rw [← hm]
      exact ih p q (i + 1) k (by omega) (by omega) h (by omega)
theorem times_at (p q : Nat) (h : bl p + bl q ≤ 62) (k : Nat) (hk : 62 < k) : impl_times.f k (p : Int) (q : Int) = some ((mul p q : Nat) : Int) := by
  unfold impl_times.f
  have := times_l0 (bl q) p q 0 k (by omega) (by omega) h (by omega)
  simp only [Nat.pow_zero, Nat.mod_one, mul_zero] at this
  exact this

/-! ### division -/
theorem or_bit {a k : Nat} (h : a.testBit k = false) : a ||| (1 <<< k) = a ^^^ (1 <<< k) := by
  apply Nat.eq_of_testBit_eq
  intro i
  rw [Nat.testBit_or, Nat.testBit_xor, Nat.shiftLeft_eq, Nat.one_mul, Nat.testBit_two_pow]
  by_cases e : k = i
  · subst e; simp [h]
  · simp [e]
theorem bl_one_shift (k : Nat) : bl (1 <<< k) = k + 1 := by rw [bl_shift (by omega)]; show 1 + k = _; omega
theorem shl_one {k : Nat} (h : k ≤ 61) : shl .i64 1 (k : Int) = ((1 <<< k : Nat) : Int) := by
  have h2 : (1 : Nat) * 2 ^ k < 9223372036854775808 := by
    have := Nat.pow_le_pow_right (n := 2) (by omega) h
    have e : (2 : Nat) ^ 61 = 2305843009213693952 := rfl
    omega
  exact shl_nat (a := 1) (by omega) h2
theorem divide_l0 (q : Nat) (hq : q ≠ 0) : ∀ (d p out k : Nat), bl p = d → d ≤ 61 → bl q ≤ 61 → bl out ≤ 62 → (∀ i, i + bl q ≤ d → out.testBit i = false) → d < k →
    impl_divide.l0 k (p : Int) (q : Int) (out : Int) = some (((out ^^^ (divMod p q).1 : Nat) : Int), (((divMod p q).2 : Nat) : Int)) := by
  intro d
  induction d using Nat.strongRecOn with
  | _ d ih =>
    intro p out k hp hd hqb ho hz hk
    obtain ⟨k, rfl⟩ : ∃ m, k = m + 1 := ⟨k - 1, by omega⟩
    have hpl := lt_of_bl (n := p) (by omega)
    have hql := lt_of_bl (n := q) (by omega)
    have hol := lt_of_bl ho
    rw [impl_divide.l0, degree_at p (by omega), degree_at q (by omega)]
    simp only [Option.bind_some]
    by_cases h : bl q ≤ bl p
    · have hlt := down_lt hq h
      rw [if_pos (by omega)]
      have e1 : wrap64 ((bl p : Int) - 1 - ((bl q : Int) - 1)) = ((bl p - bl q : Nat) : Int) := by rw [wrap_id (by omega) (by omega)]; omega
      have hqs : bl (q <<< (bl p - bl q)) ≤ 62 := by rw [bl_shift hq]; omega
      have hqsl := lt_of_bl hqs
      have hb0 : 0 < bl q := bl_pos' hq
      have hos := bl_one_shift (bl p - bl q)
      have hosl := lt_of_bl (n := 1 <<< (bl p - bl q)) (by omega)
      rw [e1, if_pos (by omega), shl_nat (by omega) (by rw [← Nat.shiftLeft_eq]; omega), bits_xor (by omega) (by omega), shl_one (by omega), bits_or (by omega) (by omega)]
      have hbit := hz (bl p - bl q) (by omega)
      rw [or_bit hbit]
      rw [ih (bl (p ^^^ q <<< (bl p - bl q))) (by omega) (p ^^^ q <<< (bl p - bl q)) (out ^^^ 1 <<< (bl p - bl q)) k rfl (by omega) hqb (bl_xor_le _ _ _ ho (by omega)) ?_ (by omega)]
      · rw [divMod_step hq h]
        simp only
        rw [Nat.xor_assoc, Nat.xor_comm (1 <<< _)]
      · intro i hi
        rw [Nat.testBit_xor, hz i (by omega), Nat.shiftLeft_eq, Nat.one_mul, Nat.testBit_two_pow, decide_eq_false (by omega)]
        rfl
    · rw [if_neg (by omega), divMod_done (by omega)]
      simp
theorem divide_at (p q : Nat) (hq : q ≠ 0) (hp : bl p ≤ 61) (hqb : bl q ≤ 61) (k : Nat) (hk : 62 < k) : impl_divide.f k (p : Int) (q : Int) = some (((divMod p q).1 : Int), ((divMod p q).2 : Int)) := by
  unfold impl_divide.f
  have := divide_l0 q hq (bl p) p 0 k rfl hp hqb (by rw [bl_zero]; omega) (by simp) (by omega)
  rw [Nat.zero_xor] at this
  exact this
theorem modulo_at (p q : Nat) (hq : q ≠ 0) (hp : bl p ≤ 61) (hqb : bl q ≤ 61) (k : Nat) (hk : 62 < k) : impl_modulo.f k (p : Int) (q : Int) = some ((rest p q : Nat) : Int) := by
  unfold impl_modulo.f
  rw [divide_at p q hq hp hqb k hk]
  rfl
theorem poDivide_l0 (q : Nat) (hq : q ≠ 0) (hqb : bl q ≤ 61) : ∀ (c p out k : Nat), bl p + 1 ≤ c + bl q → c + bl q ≤ 62 → bl out ≤ 62 → (∀ i, i < c → out.testBit i = false) → c + 62 < k →
    spec_poDivide.l0 k (p : Int) (q : Int) (out : Int) ((c : Int) - 1) = some (((out ^^^ (divMod p q).1 : Nat) : Int), (((divMod p q).2 : Nat) : Int)) := by
  intro c
  induction c with
  | zero =>
    intro p out k hp hc ho hz hk
    obtain ⟨k, rfl⟩ : ∃ m, k = m + 1 := ⟨k - 1, by omega⟩
    rw [spec_poDivide.l0, if_neg (by omega), divMod_done (by omega)]
    simp
  | succ c ih =>
    intro p out k hp hc ho hz hk
    obtain ⟨k, rfl⟩ : ∃ m, k = m + 1 := ⟨k - 1, by omega⟩
    have hb0 : 0 < bl q := bl_pos' hq
    have hpl := lt_of_bl (n := p) (by omega)
    have hql := lt_of_bl (n := q) (by omega)
    have hol := lt_of_bl ho
    rw [spec_poDivide.l0, if_pos (by omega), poDegree_at q (by omega) k (by omega)]
    simp only [Option.bind_some]
    have e1 : wrap64 (((c + 1 : Nat) : Int) - 1 + ((bl q : Int) - 1)) = ((c + (bl q - 1) : Nat) : Int) := by rw [wrap_id (by omega) (by omega)]; omega
    have e2 : wrap64 (((c + 1 : Nat) : Int) - 1 - 1) = (c : Int) - 1 := by rw [wrap_id (by omega) (by omega)]; omega
    have e3 : ((c + 1 : Nat) : Int) - 1 = (c : Int) := by omega
    rw [e1, e2, e3, grIn_at p _ (by omega)]
    simp only [Option.bind_some]
    by_cases hb : p.testBit (c + (bl q - 1)) = true
    · have hbp := bl_ge hb
      have hbe : bl p - bl q = c := by omega
      have hlt := down_lt (p := p) hq (by omega)
      rw [hbe] at hlt
      have hqs : bl (q <<< c) ≤ 62 := by rw [bl_shift hq]; omega
      have hqsl := lt_of_bl hqs
      have hos := bl_one_shift c
      have hosl := lt_of_bl (n := 1 <<< c) (by omega)
      rw [if_pos hb, if_pos (by omega), shl_nat (by omega) (by rw [← Nat.shiftLeft_eq]; omega), bits_xor (by omega) (by omega), shl_one (by omega), bits_or (by omega) (by omega), or_bit (hz c (by omega))]
      rw [ih (p ^^^ q <<< c) (out ^^^ 1 <<< c) k (by omega) (by omega) (bl_xor_le _ _ _ ho (by omega)) ?_ (by omega)]
      · rw [divMod_step (p := p) hq (by omega), hbe]
        simp only
        rw [Nat.xor_assoc, Nat.xor_comm (1 <<< _)]
      · intro i hi
        rw [Nat.testBit_xor, hz i (by omega), Nat.shiftLeft_eq, Nat.one_mul, Nat.testBit_two_pow, decide_eq_false (by omega)]
        rfl
    · rw [if_neg hb]
      refine ih p out k ?_ (by omega) ho (fun i hi => hz i (by omega)) (by omega)
      rcases Nat.lt_or_ge (bl p) (c + bl q) with h | h
      · omega
      · exfalso
        have hp0 : p ≠ 0 := fun e => by rw [e, bl_zero] at h; omega
        have := top_bit hp0
        rw [show bl p - 1 = c + (bl q - 1) by omega] at this
        exact hb this
theorem poDivide_at (p q : Nat) (hq : q ≠ 0) (hp : bl p ≤ 61) (hqb : bl q ≤ 61) (k : Nat) (hk : 130 < k) : spec_poDivide.f k (p : Int) (q : Int) = some (((divMod p q).1 : Int), ((divMod p q).2 : Int)) := by
  unfold spec_poDivide.f
  rw [poDegree_at p (by omega) k (by omega), poDegree_at q (by omega) k (by omega)]
  simp only [Option.bind_some]
  rw [wrap_id (by omega) (by omega)]
  rcases Nat.lt_or_ge (bl p) (bl q) with h | h
  · obtain ⟨k, rfl⟩ : ∃ m, k = m + 1 := ⟨k - 1, by omega⟩
    rw [spec_poDivide.l0, if_neg (by omega), divMod_done h]
    rfl
  · have := poDivide_l0 q hq hqb (bl p - bl q + 1) p 0 k (by omega) (by omega) (by rw [bl_zero]; omega) (by simp) (by omega)
    rw [Nat.zero_xor] at this
    rw [← this]
    congr 1; omega
end Go.Proofs.YtigkmdlbijdoaaaGreatDoor.Pf
