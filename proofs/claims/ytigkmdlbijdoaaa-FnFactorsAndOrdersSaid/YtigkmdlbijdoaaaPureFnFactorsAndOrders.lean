/- The law FnFactorsAndOrders, with no program in sight. -/
import Derived.Test.YtigkmdlbijdoaaaBundleG
import Derived.Test.YtigkmdlbijdoaaaPx10
import Derived.Test.YtigkmdlbijdoaaaPx11
import Derived.Test.YtigkmdlbijdoaaaPx15
import Derived.Test.YtigkmdlbijdoaaaPx23
import Derived.Test.YtigkmdlbijdoaaaPx29
import Derived.Test.YtigkmdlbijdoaaaPx30
namespace Go.Proofs.Ytigkmdlbijdoaaa.Pure
open Go.RowKit Go.Proofs.Ytigkmdlbijdoaaa.P Go.Proofs.Ytigkmdlbijdoaaa.Bt Go.Proofs.Ytigkmdlbijdoaaa.Pf Go.Proofs.Ytigkmdlbijdoaaa.Gf Go.Proofs.Ytigkmdlbijdoaaa.Dr Go.Proofs.YtigkmdlbijdoaaaW.PrintWords Go.Proofs.YtigkmdlbijdoaaaW.PrintLast
set_option linter.unusedVariables false
set_option linter.unusedSimpArgs false

theorem drawI {l : List Int} (h : By l) : ∃ n : Int, ∀ k, 100 < k → spec_DrawIsIrreducible.f k l = some n := by
  obtain ⟨x, q, s, e, h1, h2, h3⟩ := among_at h 0 0 [1, 2, 3, 5, 8, 12] (by omega) (by omega) (by simp)
  have hx : 0 ≤ x ∧ x ≤ 40 := by
    simp only [List.mem_cons, List.not_mem_nil, or_false] at h1
    omega
  obtain ⟨y, q2, s2, e2, _⟩ := poly_at h q s x (by omega) (by omega) hx.1 hx.2
  refine ⟨y, fun k hk => ?_⟩
  unfold spec_DrawIsIrreducible.f
  rw [e, Option.bind_some]
  simp only
  rw [e2 k hk]
  rfl
theorem drawO {l : List Int} (h : By l) : ∃ n : Int, ∀ k, 100 < k → spec_DrawOrderOfPoly.f k l = some n := by
  obtain ⟨x, q, s, e, h1, h2, h3⟩ := among_at h 0 0 [1, 2, 3, 5, 8] (by omega) (by omega) (by simp)
  have hx : 0 ≤ x ∧ x ≤ 40 := by
    simp only [List.mem_cons, List.not_mem_nil, or_false] at h1
    omega
  obtain ⟨y, q2, s2, e2, h4, h5⟩ := poly_at h q s x (by omega) (by omega) hx.1 hx.2
  obtain ⟨z, q3, s3, e3, _⟩ := pick_at h q2 s2 8 (by omega) (by omega) (by omega)
  refine ⟨Go.bits .or .i64 y (Int.tmod z 2), fun k hk => ?_⟩
  unfold spec_DrawOrderOfPoly.f
  rw [e, Option.bind_some]
  simp only
  rw [e2 k hk, Option.bind_some]
  simp only
  rw [e3, Option.bind_some]
theorem drawP {l : List Int} (h : By l) : ∃ r : Int × Int × Int, ∀ k, 100 < k → spec_DrawPowerModulo.f k l = some r := by
  obtain ⟨x, q, s, e, h1, h2, h3, h4⟩ := pick_at h 0 0 40 (by omega) (by omega) (by omega)
  obtain ⟨y, q1, s1, e1, g1, g2, g3, g4⟩ := pick_at h q s 8 (by omega) (by omega) (by omega)
  have one : spec_l1Cur_one.f l q s 8 = some (y == 0, q1, s1) := by
    unfold spec_l1Cur_one.f
    rw [e1, Option.bind_some]
  have tail : ∀ (q s : Int), 0 ≤ q → q < 1000 → ∃ u v : Int, ∀ (k : Nat) (t : Int), 100 < k → ((spec_l1Cur_poly.f k l q s 6).bind fun b1 => ((spec_l1Cur_among.f l b1.2.1 b1.2.2 (([1, 3, 6, 10] : List Int))).bind fun b2 => ((spec_l1Cur_poly.f k l b2.2.1 b2.2.2 b2.1).bind fun b3 => (some (b1.1, t, b3.1))))) = some (u, t, v) := by
    intro q s hq hq'
    obtain ⟨u, q1, s1, e1, a1, a2⟩ := poly_at h q s 6 hq (by omega) (by omega) (by omega)
    obtain ⟨w, q2, s2, e2, b1, b2, b3⟩ := among_at h q1 s1 [1, 3, 6, 10] (by omega) (by omega) (by simp)
    have hw : 0 ≤ w ∧ w ≤ 40 := by
      simp only [List.mem_cons, List.not_mem_nil, or_false] at b1
      omega
    obtain ⟨v, q3, s3, e3, c1, c2⟩ := poly_at h q2 s2 w (by omega) (by omega) hw.1 hw.2
    refine ⟨u, v, fun k t hk => ?_⟩
    rw [e1 k hk, Option.bind_some]
    simp only
    rw [e2, Option.bind_some]
    simp only
    rw [e3 k hk, Option.bind_some]
  by_cases c : (y == 0) = true
  · obtain ⟨w, q2, s2, e2, b1, b2, b3⟩ := among_at h q1 s1 [-1, 1000, 1000000, 1000001] (by omega) (by omega) (by simp)
    obtain ⟨u, v, t⟩ := tail q2 s2 (by omega) (by omega)
    refine ⟨(u, w, v), fun k hk => ?_⟩
    unfold spec_DrawPowerModulo.f
    rw [e, Option.bind_some]
    simp only
    rw [one, Option.bind_some]
    simp only
    rw [if_pos c, e2, Option.bind_some]
    exact t k w hk
  · obtain ⟨u, v, t⟩ := tail q1 s1 (by omega) (by omega)
    refine ⟨(u, x, v), fun k hk => ?_⟩
    unfold spec_DrawPowerModulo.f
    rw [e, Option.bind_some]
    simp only
    rw [one, Option.bind_some]
    simp only
    rw [if_neg c]
    exact t k x hk
theorem powers (p e m : Int) : ∃ r : Int × Bool, ∀ k, 400 < k → spec_PowerModulo.f k p e m = some r ∧ impl_PowerModulo.f k p e m = some r := by
  by_cases h : 0 ≤ p ∧ p ≤ 2199023255551 ∧ 0 ≤ m ∧ m ≤ 2199023255551 ∧ 0 ≤ e ∧ e ≤ 1000000 ∧ 2 ≤ bl m.toNat ∧ bl m.toNat ≤ 21
  · obtain ⟨h1, h2, h3, h4, h5, h6, h7, h8⟩ := h
    obtain ⟨p, rfl⟩ := Int.eq_ofNat_of_zero_le h1
    obtain ⟨m, rfl⟩ := Int.eq_ofNat_of_zero_le h3
    obtain ⟨e, rfl⟩ := Int.eq_ofNat_of_zero_le h5
    rw [Int.toNat_natCast] at h7 h8
    exact ⟨_, fun k hk => power_at p e m (bl41 h2) (by omega) h7 h8 k hk⟩
  · exact ⟨_, fun k hk => power_no p e m h k hk⟩
theorem st6 {l : List Int} (h : By l) : ∃ K, ∀ k, K ≤ k → laws_FnFactorsAndOrders.j6 k l = some true := by
  obtain ⟨⟨a, b, c⟩, e1⟩ := drawP h
  obtain ⟨x, e2⟩ := drawI h
  obtain ⟨⟨r1, r2⟩, e3⟩ := powers a b c
  obtain ⟨⟨u1, u2⟩, ⟨K1, e4⟩, ⟨K2, e5⟩⟩ := irr_both x
  simp only at e4 e5
  refine ⟨K1 + K2 + 1000, fun k hk => ?_⟩
  obtain ⟨k, rfl⟩ : ∃ j, k = j + 1 := ⟨k - 1, by omega⟩
  rw [laws_FnFactorsAndOrders.j6, e1 k (by omega), Option.bind_some]
  simp only
  rw [(e3 k (by omega)).1, (e3 k (by omega)).2, Option.bind_some, Option.bind_some, e2 k (by omega), Option.bind_some, e5 k (by omega), Option.bind_some, e4 k (by omega), Option.bind_some]
  simp
theorem stL {l : List Int} {K : Nat} (h6 : ∀ k, K ≤ k → laws_FnFactorsAndOrders.j6 k l = some true) {p r : Nat} (hp : 2 ≤ bl p) (hp' : bl p ≤ 13) (hr : r ≤ 8192) (hn : ∀ j, 1 ≤ j → j < r → pw p j ≠ 1) : ∀ (d i k : Nat), i + d = r → 1 ≤ i → K + d + 500 < k → laws_FnFactorsAndOrders.l1 k l (p : Int) (r : Int) 1 (i : Int) = some true := by
  intro d
  induction d with
  | zero =>
    intro i k hi h1 hk
    obtain ⟨k, rfl⟩ : ∃ j, k = j + 1 := ⟨k - 1, by omega⟩
    rw [laws_FnFactorsAndOrders.l1, if_neg (by omega)]
    exact h6 k (by omega)
  | succ d ih =>
    intro i k hi h1 hk
    obtain ⟨k, rfl⟩ : ∃ j, k = j + 1 := ⟨k - 1, by omega⟩
    have P := (power_at 2 i p (by decide) (by omega) hp (by omega) k (by omega)).2
    rw [← pw_ppow hp] at P
    have hne := hn i h1 (by omega)
    have n := ih (i + 1) k (by omega) (by omega) (by omega)
    rw [show ((2 : Nat) : Int) = 2 from rfl] at P
    rw [laws_FnFactorsAndOrders.l1, if_pos (by omega), if_neg (by omega), show ((i : Int) + 1) = ((i + 1 : Nat) : Int) by omega, wrap_nat (by omega), P, Option.bind_some]
    simp only
    by_cases z : Int.tmod (r : Int) (i : Int) = 0
    · rw [if_pos z, if_pos trivial, if_neg (by omega)]
      exact n
    · rw [if_neg z]
      exact n
theorem st2 {l : List Int} (h : By l) : ∃ K, ∀ k, K ≤ k → laws_FnFactorsAndOrders.j2 k l = some true := by
  obtain ⟨K, h6⟩ := st6 h
  obtain ⟨q, e⟩ := drawO h
  refine ⟨K + 20000, fun k hk => ?_⟩
  obtain ⟨k, rfl⟩ : ∃ j, k = j + 1 + 1 + 1 := ⟨k - 3, by omega⟩
  rw [laws_FnFactorsAndOrders.j2, e _ (by omega), Option.bind_some]
  by_cases c : 0 ≤ q ∧ q ≤ 2199023255551 ∧ q % 2 = 1 ∧ 2 ≤ bl q.toNat ∧ bl q.toNat ≤ 13
  · obtain ⟨h1, h2, h3, h4, h5⟩ := c
    obtain ⟨q, rfl⟩ := Int.eq_ofNat_of_zero_le h1
    rw [Int.toNat_natCast] at h4 h5
    obtain ⟨r, r1, r2, r3, r4, r5⟩ := order_at h4 h5 (by omega)
    have f := r5 (k + 1 + 1) (by omega)
    have P := (power_at 2 r q (by decide) (by omega) h4 (by omega) (k + 1) (by omega)).2
    have Q := (power_at 1 1 q (by decide) (by omega) h4 (by omega) (k + 1) (by omega)).2
    rw [← pw_ppow h4, r3] at P
    rw [show ppow 1 1 = 1 by rw [ppow, ppow, one_mul], rest_of_lt (show bl 1 < bl q by rw [show bl 1 = 1 by decide]; omega)] at Q
    rw [show ((2 : Nat) : Int) = 2 from rfl] at P
    rw [show ((1 : Nat) : Int) = 1 from rfl] at P Q
    rw [f.1, f.2, Option.bind_some, Option.bind_some, bne_self_eq_false, if_neg (by decide), bne_self_eq_false, laws_FnFactorsAndOrders.j3, if_neg (by decide), if_pos rfl, Q, Option.bind_some, P, Option.bind_some]
    simp only
    rw [if_pos trivial, if_pos trivial, bne_self_eq_false, laws_FnFactorsAndOrders.j4, if_neg (by decide)]
    exact stL h6 h4 h5 r2 r4 (r - 1) 1 k (by omega) (by omega) (by omega)
  · have f := order_no q c (k + 1 + 1) (by omega)
    rw [f.1, f.2, Option.bind_some, Option.bind_some, bne_self_eq_false, if_neg (by decide), bne_self_eq_false, laws_FnFactorsAndOrders.j3, if_neg (by decide), if_neg (by decide)]
    exact h6 (k + 1) (by omega)
theorem irr_at {p : Nat} (h0 : p ≠ 0) (hb : bl p ≤ 21) (k : Nat) (hk : 9000 < k) : impl_IsIrreducible.f k (p : Int) = some (decide ((facs p).length = 1), true) := by
  have hp := bl_le_iff.1 hb
  have e21 : (2 : Nat) ^ 21 = 2097152 := rfl
  have hi : impl_isPoly.f [(p : Int)] = some true := by unfold impl_isPoly.f; simp; omega
  obtain ⟨k, rfl⟩ : ∃ j, k = j + 1 := ⟨k - 1, by omega⟩
  unfold impl_IsIrreducible.f
  rw [hi, Option.bind_some, if_pos rfl, degree_at p (by omega), Option.bind_some, impl_IsIrreducible.j0, if_neg (by rw [decide_eq_true_eq]; omega), degree_at p (by omega), Option.bind_some]
  by_cases c : 2 ≤ bl p
  · rw [if_pos (by omega), factors_at p h0 hb k (by omega), Option.bind_some]
    congr 2
    rw [Bool.eq_iff_iff, beq_iff_eq, decide_eq_true_iff, ints_len]
    omega
  · rw [if_neg (by omega), facs_nil (by omega)]
    rfl
theorem vSame_at (l : List Int) (hl : l.length ≤ 1000) : ∀ (d i k : Nat), i + d = l.length → d < k → laws_vSame.l0 k l l (l.length : Int) (i : Int) = some true := by
  intro d
  induction d with
  | zero =>
    intro i k hi hk
    obtain ⟨k, rfl⟩ : ∃ j, k = j + 1 := ⟨k - 1, by omega⟩
    rw [laws_vSame.l0, if_neg (by omega)]
  | succ d ih =>
    intro i k hi hk
    obtain ⟨k, rfl⟩ : ∃ j, k = j + 1 := ⟨k - 1, by omega⟩
    rw [laws_vSame.l0, if_pos (by omega), if_pos (by omega), if_pos (by omega), if_pos (by omega), if_pos rfl, show ((i : Int) + 1) = ((i + 1 : Nat) : Int) by omega, wrap_nat (by omega)]
    exact ih (i + 1) k (by omega) (by omega)
theorem rd_ints (l : List Nat) (i : Nat) (h : i < l.length) : rd (ints l) (i : Int) = ((l[i] : Nat) : Int) := by
  unfold rd ints
  rw [Int.toNat_natCast, List.getD_eq_getElem?_getD, List.getElem?_map, List.getElem?_eq_getElem h]
  rfl
theorem st0 {l : List Int} {K : Nat} (h2 : ∀ k, K ≤ k → laws_FnFactorsAndOrders.j2 k l = some true) {p : Nat} (h0 : p ≠ 0) (hb : bl p ≤ 21) :
    ∀ (d i a k : Nat), i + d = (facs p).length → a ≠ 0 → mul a (prod ((facs p).drop i)) = p → K + d + 10000 < k → laws_FnFactorsAndOrders.l0 k l (p : Int) (ints (facs p)) (a : Int) (ints (facs p)) ((ints (facs p)).length : Int) (i : Int) = some true := by
  have hlen := facs_len _ p (Nat.le_refl _) h0
  intro d
  induction d with
  | zero =>
    intro i a k hi ha hm hk
    obtain ⟨k, rfl⟩ : ∃ j, k = j + 1 := ⟨k - 1, by omega⟩
    rw [List.drop_eq_nil_of_le (by omega), prod, mul_one] at hm
    rw [laws_FnFactorsAndOrders.l0, if_neg (by rw [ints_len]; omega), irr_at h0 hb k (by omega), Option.bind_some, if_pos (by omega)]
    simp only
    rw [if_pos trivial, ints_len, show (((facs p).length : Int) == 1) = decide ((facs p).length = 1) by rw [Bool.eq_iff_iff, beq_iff_eq, decide_eq_true_iff]; omega, bne_self_eq_false, if_neg (by decide)]
    exact h2 k (by omega)
  | succ d ih =>
    intro i a k hi ha hm hk
    obtain ⟨k, rfl⟩ : ∃ j, k = j + 1 := ⟨k - 1, by omega⟩
    have hlt : i < (facs p).length := by omega
    have mem := facs_mem _ p (Nat.le_refl _) h0 _ (List.getElem_mem hlt)
    have x0 : (facs p)[i] ≠ 0 := fun e => by have := mem.1; rw [e, bl_zero] at this; omega
    have xb := mem.2.2.bl_le h0
    have xi : (facs (facs p)[i]).length = 1 := (facs_len_one mem.1).2 mem.2.1
    rw [List.drop_eq_getElem_cons hlt, prod, ← mul_assoc] at hm
    have ma := mul_ne_zero ha x0
    have mb := bl_mul ha x0
    have md : Dv (mul a (facs p)[i]) p := ⟨prod ((facs p).drop (i + 1)), by rw [mul_comm]; exact hm⟩
    have mm := md.bl_le h0
    have T : impl_TimesPoly.f k (a : Int) (((facs p)[i] : Nat) : Int) = some (((mul a (facs p)[i] : Nat) : Int), true) := by
      have a41 := bl_le_iff.1 (show bl a ≤ 41 by omega)
      have x41 := bl_le_iff.1 (show bl (facs p)[i] ≤ 41 by omega)
      have e41 : (2 : Nat) ^ 41 = 2199023255552 := rfl
      have g : impl_isPoly.f [(a : Int), (((facs p)[i] : Nat) : Int)] = some true := by unfold impl_isPoly.f; simp; omega
      unfold impl_TimesPoly.f
      have := bl_pos' ha
      have := bl_pos' x0
      rw [g, Option.bind_some, if_pos rfl, if_neg (by omega), if_neg (by omega), degree_at a (by omega), Option.bind_some, degree_at _ (by omega), Option.bind_some, wrap_id (by omega) (by omega), if_neg (by omega), times_at a _ (by omega) k (by omega)]
      rfl
    have n := ih (i + 1) (mul a (facs p)[i]) k (by omega) ma hm (by omega)
    rw [laws_FnFactorsAndOrders.l0, if_pos (by rw [ints_len]; omega), if_pos (by omega), if_pos (by rw [ints_len]; omega), rd_ints _ i hlt, irr_at x0 (by omega) k (by omega), Option.bind_some, T, Option.bind_some, xi]
    simp only
    rw [if_pos trivial, if_pos (by decide), if_pos trivial, show ((i : Int) + 1) = ((i + 1 : Nat) : Int) by omega, wrap_nat (by omega)]
    by_cases z : i = 0
    · rw [if_neg (by omega)]
      exact n
    · have s := List.pairwise_iff_getElem.1 (facs_sorted _ p (Nat.le_refl _) h0) (i - 1) i (by omega) hlt (by omega)
      rw [if_pos (by omega), wrap_id (x := (i : Int) - 1) (by omega) (by omega), show ((i : Int) - 1) = ((i - 1 : Nat) : Int) by omega, if_pos (by omega), if_pos (by rw [ints_len]; omega), rd_ints _ (i - 1) (by omega), if_neg (by omega)]
      exact n
theorem FnFactorsAndOrders : laws_FnFactorsAndOrders.Pure := by
  intro l0 l1 _ _ w0 _ _ w1
  have h0 := by_wf w0
  have h1 := by_wf w1
  obtain ⟨K, j2⟩ := st2 h1
  obtain ⟨p, e⟩ := drawI h0
  have d : ∀ k, 100 < k → spec_DrawFactorsOf.f k l0 = some p := fun k hk => by unfold spec_DrawFactorsOf.f; rw [e k hk]; rfl
  have hb : ∃ b, laws_big.f l0 l1 = some b := by
    unfold laws_big.f
    split
    · exact ⟨_, rfl⟩
    · exact ⟨_, rfl⟩
  obtain ⟨b, hb⟩ := hb
  cases b with
  | true => exact ⟨0, by unfold laws_FnFactorsAndOrders.f; rw [hb]; rfl⟩
  | false =>
    by_cases c : 0 ≤ p ∧ p ≤ 2199023255551 ∧ 1 ≤ bl p.toNat ∧ bl p.toNat ≤ 21
    · obtain ⟨c1, c2, c3, c4⟩ := c
      obtain ⟨p, rfl⟩ := Int.eq_ofNat_of_zero_le c1
      rw [Int.toNat_natCast] at c3 c4
      have p0 : p ≠ 0 := fun e => by subst e; rw [bl_zero] at c3; omega
      obtain ⟨S, I⟩ := factors_in p p0 c4
      refine ⟨K + p + 20000 + 1, ?_⟩
      generalize hQ : K + p + 20000 = Q
      have hlen := facs_len _ p (Nat.le_refl _) p0
      have V : laws_vSame.f (Q + 1) (ints (facs p)) (ints (facs p)) = some true := by
        unfold laws_vSame.f
        rw [if_pos rfl]
        exact vSame_at _ (by rw [ints_len]; omega) _ 0 (Q + 1) (Nat.zero_add _) (by rw [ints_len]; omega)
      unfold laws_FnFactorsAndOrders.f
      rw [hb, Option.bind_some, if_neg (by decide), d _ (by omega), Option.bind_some, I _ (by omega), Option.bind_some, S _ (by omega), Option.bind_some]
      simp only
      rw [bne_self_eq_false, if_neg (by decide), V, Option.bind_some, laws_FnFactorsAndOrders.j0, if_neg (by decide), if_pos rfl]
      exact st0 j2 p0 c4 (facs p).length 0 1 Q (by omega) (by decide) (by rw [List.drop_zero, one_mul, facs_prod _ p (Nat.le_refl _) p0]) (by omega)
    · obtain ⟨S, I⟩ := factors_out p c
      refine ⟨K + 20000 + 1, ?_⟩
      generalize hQ : K + 20000 = Q
      have V : laws_vSame.f (Q + 1) [] [] = some true := by
        unfold laws_vSame.f
        rw [if_pos rfl]
        exact vSame_at [] (by simp) 0 0 (Q + 1) rfl (by omega)
      unfold laws_FnFactorsAndOrders.f
      rw [hb, Option.bind_some, if_neg (by decide), d _ (by omega), Option.bind_some, I _ (by omega), Option.bind_some, S _ (by omega), Option.bind_some]
      simp only
      rw [bne_self_eq_false, if_neg (by decide), V, Option.bind_some, laws_FnFactorsAndOrders.j0, if_neg (by decide), if_neg (by decide)]
      exact j2 Q (by omega)
end Go.Proofs.Ytigkmdlbijdoaaa.Pure
