/- The law FnPolynomialsDivide, with no program in sight. -/
import Derived.Test.YtigkmdlbijdoaaaGreatDoorDraw
import Derived.Test.YtigkmdlbijdoaaaGreatDoorDivZ
import Derived.Test.YtigkmdlbijdoaaaGreatDoorPx1
import Derived.Test.YtigkmdlbijdoaaaGreatDoorPx10
import Derived.Test.YtigkmdlbijdoaaaGreatDoorPx2
import Derived.Test.YtigkmdlbijdoaaaGreatDoorPx3
import Derived.Test.YtigkmdlbijdoaaaGreatDoorPx8
namespace Go.Proofs.YtigkmdlbijdoaaaGreatDoor.Pure
open Go.RowKit Go.Proofs.YtigkmdlbijdoaaaGreatDoor.P Go.Proofs.YtigkmdlbijdoaaaGreatDoor.Bt Go.Proofs.YtigkmdlbijdoaaaGreatDoor.Pf Go.Proofs.YtigkmdlbijdoaaaGreatDoor.Gf Go.Proofs.YtigkmdlbijdoaaaGreatDoor.Dr Go.Proofs.YtigkmdlbijdoaaaGreatDoor.Tx Go.Proofs.YtigkmdlbijdoaaaGreatDoor.Ps Go.Proofs.YtigkmdlbijdoaaaGreatDoor.Dv Go.Proofs.YtigkmdlbijdoaaaGreatDoorW.PrintWords Go.Proofs.YtigkmdlbijdoaaaGreatDoorW.PrintLast
set_option linter.unusedVariables false
set_option linter.unusedSimpArgs false

/-! ### what is drawn -/
theorem degree_of {l : List Int} (h : By l) (q s : Int) (hq : 0 ≤ q) (hq' : q < 500000) : ∃ x q' s', spec_l1Cur_degree.f l q s = some (x, q', s') ∧ 0 ≤ x ∧ x ≤ 40 ∧ q ≤ q' ∧ q' ≤ q + 2 := by
  obtain ⟨x, q1, s1, e, h1, h2, h3⟩ := among_at h q s [2, 4, 6, 8, 10, 20] hq (by omega) (by simp)
  have hx : 0 ≤ x ∧ x ≤ 40 := by
    simp only [List.mem_cons, List.not_mem_nil, or_false] at h1
    omega
  refine ⟨x, q1, s1, ?_, hx.1, hx.2, h2, h3⟩
  unfold spec_l1Cur_degree.f
  rw [e, Option.bind_some]
theorem one_of {l : List Int} (h : By l) (q s n : Int) (hq : 0 ≤ q) (hq' : q < 500000) (hn : 1 ≤ n) : ∃ b q' s', spec_l1Cur_one.f l q s n = some (b, q', s') ∧ q ≤ q' ∧ q' ≤ q + 2 := by
  obtain ⟨x, q1, s1, e, h1, h2, h3, h4⟩ := pick_at h q s n hq (by omega) hn
  refine ⟨x == 0, q1, s1, ?_, h3, h4⟩
  unfold spec_l1Cur_one.f
  rw [e, Option.bind_some]
theorem drawDivide {l : List Int} (h : By l) : ∃ r : Int × Int, ∀ k, 100 < k → spec_DrawDividePoly.f k l = some r := by
  obtain ⟨x, q, s, e, a1, a2, a3, a4⟩ := degree_of h 0 0 (by omega) (by omega)
  obtain ⟨y, q1, s1, e1, b1, b2⟩ := poly_at h q s x (by omega) (by omega) a1 a2
  obtain ⟨z, q2, s2, e2, c1, c2, c3⟩ := among_at h q1 s1 [1, 2, 4, 8] (by omega) (by omega) (by simp)
  have hz : 0 ≤ z ∧ z ≤ 40 := by
    simp only [List.mem_cons, List.not_mem_nil, or_false] at c1
    omega
  obtain ⟨u, q3, s3, e3, d1, d2⟩ := poly_at h q2 s2 z (by omega) (by omega) hz.1 hz.2
  refine ⟨(y, u), fun k hk => ?_⟩
  unfold spec_DrawDividePoly.f
  rw [e, Option.bind_some]
  simp only
  rw [e1 k hk, Option.bind_some]
  simp only
  rw [e2, Option.bind_some]
  simp only
  rw [e3 k hk, Option.bind_some]
theorem drawTimes {l : List Int} (h : By l) : ∃ r : Int × Int, ∀ k, 100 < k → spec_DrawTimesPoly.f k l = some r := by
  obtain ⟨x, q, s, e, a1, a2, a3, a4⟩ := degree_of h 0 0 (by omega) (by omega)
  obtain ⟨y, q1, s1, e1, b1, b2⟩ := poly_at h q s x (by omega) (by omega) a1 a2
  obtain ⟨z, q2, s2, e2, c1, c2, c3, c4⟩ := degree_of h q1 s1 (by omega) (by omega)
  obtain ⟨u, q3, s3, e3, d1, d2⟩ := poly_at h q2 s2 z (by omega) (by omega) c1 c2
  refine ⟨(y, u), fun k hk => ?_⟩
  unfold spec_DrawTimesPoly.f
  rw [e, Option.bind_some]
  simp only
  rw [e1 k hk, Option.bind_some]
  simp only
  rw [e2, Option.bind_some]
  simp only
  rw [e3 k hk, Option.bind_some]
theorem drawShift {l : List Int} (h : By l) : ∃ r : Int, ∀ k, 100 < k → spec_DrawShiftPoly.f k l = some r := by
  obtain ⟨x, q, s, e, a1, a2, a3, a4⟩ := degree_of h 0 0 (by omega) (by omega)
  obtain ⟨y, q1, s1, e1, b1, b2⟩ := poly_at h q s x (by omega) (by omega) a1 a2
  refine ⟨y, fun k hk => ?_⟩
  unfold spec_DrawShiftPoly.f spec_DrawDegreeOf.f
  rw [e, Option.bind_some]
  simp only
  rw [e1 k hk, Option.bind_some, Option.bind_some]
theorem drawGcd_j0 (a b c : Int) (x : Bool) (hx : x = true → ∃ p q r : Nat, a = p ∧ b = q ∧ c = r ∧ bl p ≤ 41 ∧ bl q ≤ 41 ∧ bl r ≤ 41 ∧ bl p + bl q + bl r ≤ 33) : ∃ r : Int × Int, ∀ k, 400 < k → spec_DrawGcdPoly.j0 k a b c x = some r := by
  cases x with
  | false =>
    refine ⟨(a, b), fun k hk => ?_⟩
    obtain ⟨k, rfl⟩ : ∃ j, k = j + 1 := ⟨k - 1, by omega⟩
    rw [spec_DrawGcdPoly.j0, if_neg (by decide)]
  | true =>
    obtain ⟨p, q, r, rfl, rfl, rfl, hp, hq, hr, hs⟩ := hx rfl
    refine ⟨(((mul p r : Nat) : Int), ((mul q r : Nat) : Int)), fun k hk => ?_⟩
    obtain ⟨k, rfl⟩ : ∃ j, k = j + 1 := ⟨k - 1, by omega⟩
    rw [spec_DrawGcdPoly.j0, if_pos rfl, poTimes_at p r (by omega) k (by omega), Option.bind_some, poTimes_at q r (by omega) k (by omega), Option.bind_some]
theorem drawGcd {l : List Int} (h : By l) : ∃ r : Int × Int, ∀ k, 500 < k → spec_DrawGcdPoly.f k l = some r := by
  obtain ⟨a, q, s, e, a3, a4⟩ := poly_at h 0 0 4 (by omega) (by omega) (by omega) (by omega)
  obtain ⟨b, q1, s1, e1, b1, b2⟩ := poly_at h q s 4 (by omega) (by omega) (by omega) (by omega)
  obtain ⟨c, q2, s2, e2, c1, c2⟩ := poly_at h q1 s1 4 (by omega) (by omega) (by omega) (by omega)
  obtain ⟨t, q3, s3, e3, d1, d2⟩ := one_of h q2 s2 2 (by omega) (by omega) (by omega)
  obtain ⟨r0, f0⟩ := drawGcd_j0 a b c false (fun h => by cases h)
  have R : ∀ k, 500 < k → spec_DrawGcdPoly.f k l = if t = true then (if okP a = true then (if okP b = true then (if okP c = true then ((spec_poDegree.f k a).bind fun t205 => ((spec_poDegree.f k b).bind fun t206 => ((spec_poDegree.f k c).bind fun t207 => (spec_DrawGcdPoly.j0 k a b c (decide ((wrap64 ((wrap64 (t205 + t206)) + t207)) ≤ 30)))))) else some r0) else some r0) else some r0) else some r0 := by
    intro k hk
    unfold spec_DrawGcdPoly.f
    rw [e k (by omega), Option.bind_some]
    simp only
    rw [e1 k (by omega), Option.bind_some]
    simp only
    rw [e2 k (by omega), Option.bind_some]
    simp only
    rw [e3, Option.bind_some]
    simp only
    rw [good_at, good_at, good_at, f0 k (by omega)]
    simp only [Option.bind_some]
  cases t with
  | false => exact ⟨r0, fun k hk => by rw [R k hk, if_neg (by decide)]⟩
  | true =>
    by_cases ha : okP a = true
    · by_cases hb : okP b = true
      · by_cases hc : okP c = true
        · obtain ⟨p, rfl, hp⟩ := okP_nat ha
          obtain ⟨q, rfl, hq⟩ := okP_nat hb
          obtain ⟨r, rfl, hr⟩ := okP_nat hc
          obtain ⟨v, hv⟩ := drawGcd_j0 p q r (decide ((bl p : Int) - 1 + ((bl q : Int) - 1) + ((bl r : Int) - 1) ≤ 30)) (fun g => ⟨p, q, r, rfl, rfl, rfl, hp, hq, hr, by have := of_decide_eq_true g; omega⟩)
          refine ⟨v, fun k hk => ?_⟩
          rw [R k hk, if_pos rfl, if_pos ha, if_pos hb, if_pos hc, poDegree_at p (by omega) k (by omega), Option.bind_some, poDegree_at q (by omega) k (by omega), Option.bind_some, poDegree_at r (by omega) k (by omega), Option.bind_some, wrap_id (x := (bl p : Int) - 1 + ((bl q : Int) - 1)) (by omega) (by omega), wrap_id (by omega) (by omega)]
          exact hv k (by omega)
        · exact ⟨r0, fun k hk => by rw [R k hk, if_pos rfl, if_pos ha, if_pos hb, if_neg hc]⟩
      · exact ⟨r0, fun k hk => by rw [R k hk, if_pos rfl, if_pos ha, if_neg hb]⟩
    · exact ⟨r0, fun k hk => by rw [R k hk, if_pos rfl, if_neg ha]⟩
/-! ### a text that is spoilt -/
theorem nums_size (a : Int) : (strOfNums [a]).size = 1 := by
  rw [Go.Lib.size_eq]; rfl
theorem ext_size (s : ByteArray) (i j : Nat) : (s.extract i j).size ≤ s.size := by
  rw [ByteArray.size_extract]; omega
theorem app_size (s t : ByteArray) : (s ++ t).size = s.size + t.size := ByteArray.size_append
theorem spoilt_j1 (l : List Int) (a2 x : ByteArray) (d i : Nat) (j t q s q1 s1 q2 s2 q3 s3 : Int) (hi : i < x.size) (hx : x.size ≤ 900) (hd : d ≤ 9) (e1 : spec_l1Cur_pick.f l q s (x.size : Int) = some ((i : Int), q1, s1)) (e2 : spec_l1Cur_pick.f l q1 s1 (a2.size : Int) = some (j, q2, s2)) (e3 : spec_l1Cur_pick.f l q2 s2 3 = some (t, q3, s3)) (b1 : 0 ≤ j) (b2 : j < (a2.size : Int)) (k : Nat) : spec_l1Cur_spoilt.j1 (k + 1) x a2 ((d + 1 : Nat) : Int) true l q s = if t = 0 then (spec_l1Cur_spoilt.l0 k (((x.extract 0 i) ++ (strOfNums [bt a2 j])) ++ (x.extract i x.size)) a2 (d : Int) l q3 s3) else if t = 1 then (spec_l1Cur_spoilt.l0 k (((x.extract 0 i) ++ (strOfNums [bt a2 j])) ++ (x.extract (i + 1) x.size)) a2 (d : Int) l q3 s3) else (spec_l1Cur_spoilt.l0 k ((x.extract 0 i) ++ (x.extract (i + 1) x.size)) a2 (d : Int) l q3 s3) := by
  have w1 : wrap64 ((i : Int) + 1) = ((i + 1 : Nat) : Int) := by rw [wrap_id (by omega) (by omega)]; omega
  have wd : wrap64 (((d + 1 : Nat) : Int) - 1) = (d : Int) := by rw [wrap_id (by omega) (by omega)]; omega
  have n1 := nums_size (bt a2 j)
  have z1 : (x.extract 0 i).size + (strOfNums [bt a2 j]).size ≤ 9223372036854775807 := by rw [n1, ByteArray.size_extract]; omega
  have z2 : ((x.extract 0 i) ++ (strOfNums [bt a2 j])).size + (x.extract i x.size).size ≤ 9223372036854775807 := by rw [app_size, n1, ByteArray.size_extract, ByteArray.size_extract]; omega
  have z3 : ((x.extract 0 i) ++ (strOfNums [bt a2 j])).size + (x.extract (i + 1) x.size).size ≤ 9223372036854775807 := by rw [app_size, n1, ByteArray.size_extract, ByteArray.size_extract]; omega
  have z4 : (x.extract 0 i).size + (x.extract (i + 1) x.size).size ≤ 9223372036854775807 := by rw [ByteArray.size_extract, ByteArray.size_extract]; omega
  have y1 : (0 : Int) ≤ (i : Int) := by omega
  have y2 : (i : Int) ≤ (x.size : Int) := by omega
  have y3 : (0 : Int) ≤ ((i + 1 : Nat) : Int) := by omega
  have y4 : ((i + 1 : Nat) : Int) ≤ (x.size : Int) := by omega
  rw [spec_l1Cur_spoilt.j1, if_pos rfl, e1, Option.bind_some]
  simp only
  rw [e2, Option.bind_some]
  simp only
  rw [if_pos b1, if_pos b2, Option.bind_some, e3, Option.bind_some]
  simp only [w1, wd, Int.toNat_natCast]
  by_cases t0 : t = 0
  · rw [if_pos t0, if_pos t0, if_pos y1, if_pos y2, if_pos z1, if_pos z2]
  · rw [if_neg t0, if_neg t0]
    by_cases t1 : t = 1
    · rw [if_pos t1, if_pos t1, if_pos y1, if_pos y2, if_pos z1, if_pos y3, if_pos y4, if_pos z3]
    · rw [if_neg t1, if_neg t1, if_pos y1, if_pos y2, if_pos y3, if_pos y4, if_pos z4]
theorem sz0 (x : ByteArray) (i : Nat) (a : Int) (hi : i < x.size) : (((x.extract 0 i) ++ (strOfNums [a])) ++ (x.extract i x.size)).size = x.size + 1 := by
  rw [app_size, app_size, nums_size, ByteArray.size_extract, ByteArray.size_extract]; omega
theorem sz1 (x : ByteArray) (i : Nat) (a : Int) (hi : i < x.size) : (((x.extract 0 i) ++ (strOfNums [a])) ++ (x.extract (i + 1) x.size)).size = x.size := by
  rw [app_size, app_size, nums_size, ByteArray.size_extract, ByteArray.size_extract]; omega
theorem sz2 (x : ByteArray) (i : Nat) (hi : i < x.size) : ((x.extract 0 i) ++ (x.extract (i + 1) x.size)).size + 1 = x.size := by
  rw [app_size, ByteArray.size_extract, ByteArray.size_extract]; omega
theorem spoilt_l0 {l : List Int} (h : By l) (a2 : ByteArray) (h2 : 1 ≤ a2.size) (h2' : a2.size ≤ 1000) : ∀ (d : Nat) (x : ByteArray) (q s : Int), x.size + d ≤ 900 → d ≤ 10 → 0 ≤ q → q + 6 * d < 500000 → ∃ y q' s', y.size ≤ 900 ∧ ∀ k, 2 * d + 2 < k → spec_l1Cur_spoilt.l0 k x a2 (d : Int) l q s = some (y, q', s') := by
  intro d
  induction d with
  | zero =>
    intro x q s hx _ hq hq'
    refine ⟨x, q, s, by omega, fun k hk => ?_⟩
    obtain ⟨k, rfl⟩ : ∃ j, k = j + 1 + 1 := ⟨k - 2, by omega⟩
    rw [spec_l1Cur_spoilt.l0, if_neg (by omega), spec_l1Cur_spoilt.j1, if_neg (by decide)]
  | succ d ih =>
    intro x q s hx hd hq hq'
    by_cases c : x.size = 0
    · refine ⟨x, q, s, by omega, fun k hk => ?_⟩
      obtain ⟨k, rfl⟩ : ∃ j, k = j + 1 + 1 := ⟨k - 2, by omega⟩
      rw [spec_l1Cur_spoilt.l0, if_pos (by omega), spec_l1Cur_spoilt.j1, if_neg (fun g => by have := of_decide_eq_true g; omega)]
    · obtain ⟨i, q1, s1, e1, a1, a2', a3, a4⟩ := pick_at h q s x.size hq (by omega) (by omega)
      obtain ⟨j, q2, s2, e2, b1, b2, b3, b4⟩ := pick_at h q1 s1 a2.size (by omega) (by omega) (by omega)
      obtain ⟨t, q3, s3, e3, c1, c2, c3, c4⟩ := pick_at h q2 s2 3 (by omega) (by omega) (by omega)
      obtain ⟨i, rfl⟩ := Int.eq_ofNat_of_zero_le a1
      have step : ∀ (y : ByteArray), y.size + d ≤ 900 → (∀ k, spec_l1Cur_spoilt.j1 (k + 1) x a2 ((d + 1 : Nat) : Int) true l q s = spec_l1Cur_spoilt.l0 k y a2 (d : Int) l q3 s3) → ∃ y q' s', y.size ≤ 900 ∧ ∀ k, 2 * (d + 1) + 2 < k → spec_l1Cur_spoilt.l0 k x a2 ((d + 1 : Nat) : Int) l q s = some (y, q', s') := by
        intro y hy hj
        obtain ⟨z, q', s', hz, hk⟩ := ih y q3 s3 hy (by omega) (by omega) (by omega)
        refine ⟨z, q', s', hz, fun k hk' => ?_⟩
        obtain ⟨k, rfl⟩ : ∃ j, k = j + 1 + 1 := ⟨k - 2, by omega⟩
        rw [spec_l1Cur_spoilt.l0, if_pos (by omega), show decide ((x.size : Int) > 0) = true from decide_eq_true (by omega), hj]
        exact hk k (by omega)
      have J := spoilt_j1 l a2 x d i j t q s q1 s1 q2 s2 q3 s3 (by omega) (by omega) (by omega) e1 e2 e3 b1 b2
      have g0 := sz0 x i (bt a2 j) (by omega)
      have g1 := sz1 x i (bt a2 j) (by omega)
      have g2 := sz2 x i (by omega)
      by_cases t0 : t = 0
      · exact step _ (by rw [g0]; omega) (fun k => (J k).trans (if_pos t0))
      · by_cases t1 : t = 1
        · exact step _ (by rw [g1]; omega) (fun k => (J k).trans ((if_neg t0).trans (if_pos t1)))
        · refine step ((x.extract 0 i) ++ (x.extract (i + 1) x.size)) (by omega) (fun k => (J k).trans ((if_neg t0).trans (if_neg t1)))
theorem spoilt_of {l : List Int} (h : By l) (a1 a2 : ByteArray) (h1 : a1.size ≤ 800) (h2 : 1 ≤ a2.size) (h2' : a2.size ≤ 1000) (q s : Int) (hq : 0 ≤ q) (hq' : q < 400000) : ∃ y q' s', y.size ≤ 900 ∧ ∀ k, 50 < k → spec_l1Cur_spoilt.f k l q s a1 a2 = some (y, q', s') := by
  obtain ⟨i, q1, s1, e1, a1', a2', a3, a4⟩ := pick_at h q s 2 hq (by omega) (by omega)
  obtain ⟨i, rfl⟩ := Int.eq_ofNat_of_zero_le a1'
  obtain ⟨y, q', s', hy, e⟩ := spoilt_l0 h a2 h2 h2' (1 + i) a1 q1 s1 (by omega) (by omega) (by omega) (by omega)
  refine ⟨y, q', s', hy, fun k hk => ?_⟩
  unfold spec_l1Cur_spoilt.f
  rw [e1, Option.bind_some]
  simp only
  rw [show wrap64 (1 + (i : Int)) = ((1 + i : Nat) : Int) by rw [wrap_id (by omega) (by omega)]; omega]
  exact e k (by omega)
theorem of_at {l : List Int} (h : By l) (q s : Int) (L : List ByteArray) (hq : 0 ≤ q) (hq' : q < 500000) (hn : 1 ≤ L.length) : ∃ x q' s', spec_l1Cur_of.f l q s L = some (x, q', s') ∧ x ∈ L := by
  obtain ⟨x, q', s', e, h1, h2, h3, h4⟩ := pick_at h q s L.length hq (by omega) (by omega)
  unfold spec_l1Cur_of.f
  rw [e, Option.bind_some]
  simp only
  rw [if_pos h1, if_pos h2]
  refine ⟨_, _, _, rfl, ?_⟩
  unfold rdOf
  rw [List.getD_eq_getElem?_getD, List.getElem?_eq_getElem (by omega)]
  exact List.getElem_mem _
def odd : List ByteArray := [(⟨#[]⟩ : ByteArray), (⟨#[120, 49]⟩ : ByteArray), (⟨#[120, 48]⟩ : ByteArray), (⟨#[49, 43, 120]⟩ : ByteArray), (⟨#[120, 43, 120]⟩ : ByteArray), (⟨#[120, 52, 49]⟩ : ByteArray), (⟨#[48, 43, 49]⟩ : ByteArray)]
theorem odd_size {y : ByteArray} (h : y ∈ odd) : y.size ≤ 1000 := by
  simp only [odd, List.mem_cons, List.not_mem_nil, or_false] at h
  rcases h with rfl | rfl | rfl | rfl | rfl | rfl | rfl <;> decide
theorem txt_small (n : Nat) (hn : bl n ≤ 41) : (txt n).size ≤ 800 := by
  by_cases c : n = 0
  · subst c; decide
  · have := Go.Proofs.YtigkmdlbijdoaaaGreatDoor.Ps.txt_size c hn; omega
theorem drawParse {l : List Int} (h : By l) : ∃ y : ByteArray, y.size ≤ 1048576 ∧ Ev (fun k => spec_DrawParsePoly.f k l) y := by
  obtain ⟨a, q, s, e, a3, a4⟩ := poly_at h 0 0 8 (by omega) (by omega) (by omega) (by omega)
  by_cases ha : okP a = true
  · obtain ⟨n, rfl, hn⟩ := okP_nat ha
    obtain ⟨⟨K, hK⟩, -⟩ := text_ev n (le41 hn)
    obtain ⟨t, q1, s1, e1, d1, d2⟩ := one_of h q s 3 (by omega) (by omega) (by omega)
    have hz := txt_small n hn
    obtain ⟨y, q2, s2, hy, e2⟩ := spoilt_of h (txt n) ⟨#[120, 43, 49, 50, 48, 51]⟩ hz (by decide) (by decide) q1 s1 (by omega) (by omega)
    refine ⟨if t = true then y else txt n, ?_, K + 200, fun k hk => ?_⟩
    · split <;> omega
    · have e0 := hK k (by omega)
      simp only at e0
      show spec_DrawParsePoly.f k l = _
      unfold spec_DrawParsePoly.f
      rw [e k (by omega), Option.bind_some]
      simp only
      rw [good_at, ha, Option.bind_some, if_pos rfl, e0, Option.bind_some, e1, Option.bind_some]
      simp only
      cases t with
      | true => rw [if_pos rfl, if_pos rfl, e2 k (by omega), Option.bind_some]
      | false => rw [if_neg (by decide), if_neg (by decide)]
  · have ha : okP a = false := by simpa using ha
    obtain ⟨y, q1, s1, e1, hy⟩ := of_at h q s odd (by omega) (by omega) (by decide)
    have hz := odd_size hy
    refine ⟨y, by omega, 200, fun k hk => ?_⟩
    unfold odd at e1
    show spec_DrawParsePoly.f k l = _
    unfold spec_DrawParsePoly.f
    rw [e k (by omega), Option.bind_some]
    simp only
    rw [good_at, ha, Option.bind_some, if_neg (by decide), e1, Option.bind_some]
/-! ### the law, from its end -/
theorem st9 {s : ByteArray} {R : Int × Bool} (h : Fits s R) : Ev (fun k => laws_FnPolynomialsDivide.j9 k s R.1 R.2 false) true := by
  rcases h with rfl | ⟨n, hn, rfl, e⟩
  · refine ⟨1, fun k hk => ?_⟩
    obtain ⟨k, rfl⟩ : ∃ j, k = j + 1 := ⟨k - 1, by omega⟩
    show laws_FnPolynomialsDivide.j9 (k + 1) s 0 false false = _
    rw [laws_FnPolynomialsDivide.j9, if_neg (by decide), if_neg (by decide)]
  · obtain ⟨K, hK⟩ := text_in n (bl41 hn)
    refine ⟨K + 1, fun k hk => ?_⟩
    obtain ⟨k, rfl⟩ : ∃ j, k = j + 1 := ⟨k - 1, by omega⟩
    have e0 := hK k (by omega)
    simp only at e0
    show laws_FnPolynomialsDivide.j9 (k + 1) s (n : Int) true false = _
    rw [laws_FnPolynomialsDivide.j9, if_neg (by decide), if_pos rfl, e0, Option.bind_some]
    simp only
    rw [if_pos trivial, e, beq_self_eq_true]
theorem st8 {l : List Int} (h : By l) : Ev (fun k => laws_FnPolynomialsDivide.j8 k l) true := by
  obtain ⟨s, hs, K, hK⟩ := drawParse h
  obtain ⟨R, hR, ⟨K1, h1⟩, ⟨K2, h2⟩⟩ := both s hs
  obtain ⟨K3, h3⟩ := st9 hR
  refine ⟨K + K1 + K2 + K3 + 1, fun k hk => ?_⟩
  obtain ⟨k, rfl⟩ : ∃ j, k = j + 1 := ⟨k - 1, by omega⟩
  have e := hK k (by omega)
  have e1 := h1 k (by omega)
  have e2 := h2 k (by omega)
  have e3 := h3 k (by omega)
  simp only at e e1 e2 e3
  show laws_FnPolynomialsDivide.j8 (k + 1) l = _
  rw [laws_FnPolynomialsDivide.j8, e, Option.bind_some, e2, Option.bind_some, e1, Option.bind_some, bne_self_eq_false, if_neg (by decide), bne_self_eq_false]
  exact e3
theorem st7 {l : List Int} (h : By l) (t a c : Int) (b : Bool) (hb : b = true → ∃ n : Nat, t = n ∧ bl n ≤ 41 ∧ a = ((sub1 n : Nat) : Int) ∧ c = (bl n : Int) - 1) : Ev (fun k => laws_FnPolynomialsDivide.j7 k l t a b c false) true := by
  obtain ⟨K, h8⟩ := st8 h
  cases b with
  | false =>
    refine ⟨K + 1, fun k hk => ?_⟩
    obtain ⟨k, rfl⟩ : ∃ j, k = j + 1 := ⟨k - 1, by omega⟩
    show laws_FnPolynomialsDivide.j7 (k + 1) l t a false c false = _
    rw [laws_FnPolynomialsDivide.j7, if_neg (by decide), if_neg (by decide)]
    exact h8 k (by omega)
  | true =>
    obtain ⟨n, rfl, hn, rfl, rfl⟩ := hb rfl
    obtain ⟨K1, h1⟩ := text_in n hn
    obtain ⟨-, K2, h2⟩ := txt_both n (le41 hn)
    refine ⟨K + K1 + K2 + 500, fun k hk => ?_⟩
    obtain ⟨k, rfl⟩ : ∃ j, k = j + 1 := ⟨k - 1, by omega⟩
    have e1 := h1 k (by omega)
    have e2 := h2 k (by omega)
    simp only at e1 e2
    show laws_FnPolynomialsDivide.j7 (k + 1) l (n : Int) ((sub1 n : Nat) : Int) true ((bl n : Int) - 1) false = _
    rw [laws_FnPolynomialsDivide.j7, if_neg (by decide), if_pos rfl, shift_in (n := sub1 n) (by rw [bl_sub1]; exact hn) k (by omega), sub1_back, Option.bind_some, e1, Option.bind_some]
    simp only
    rw [e2, Option.bind_some]
    simp only
    rw [if_pos trivial, if_pos trivial, vTop_at n (by omega) k (by omega), Option.bind_some, if_pos rfl, if_pos trivial, if_pos trivial, if_pos trivial]
    exact h8 k (by omega)
theorem st6 {l m : List Int} (h : By l) (h' : By m) : Ev (fun k => laws_FnPolynomialsDivide.j6 k l m) true := by
  obtain ⟨t, e⟩ := drawShift h'
  by_cases ht : okP t = true
  · obtain ⟨n, rfl, hn⟩ := okP_nat ht
    obtain ⟨v, hv⟩ := rev_both n hn
    obtain ⟨K, h7⟩ := st7 h (n : Int) ((sub1 n : Nat) : Int) ((bl n : Int) - 1) true (fun _ => ⟨n, rfl, hn, rfl, rfl⟩)
    refine ⟨K + 600, fun k hk => ?_⟩
    obtain ⟨k, rfl⟩ : ∃ j, k = j + 1 := ⟨k - 1, by omega⟩
    have e7 := h7 k (by omega)
    simp only at e7
    have d1 : impl_DegreeOf.f (n : Int) = some ((bl n : Int) - 1, true) := by
      unfold impl_DegreeOf.f
      rw [isPoly_one, ht, Option.bind_some, if_pos rfl, degree_at n (by omega)]; rfl
    have d2 : spec_DegreeOf.f k (n : Int) = some ((bl n : Int) - 1, true) := by
      unfold spec_DegreeOf.f
      rw [good_at, ht, Option.bind_some, if_pos rfl, poDegree_at n (by omega) k (by omega)]; rfl
    show laws_FnPolynomialsDivide.j6 (k + 1) l m = _
    rw [laws_FnPolynomialsDivide.j6, e k (by omega), Option.bind_some, shift_in hn k (by omega), Option.bind_some, shift_spec hn k (by omega), Option.bind_some, (hv k (by omega)).1, Option.bind_some, (hv k (by omega)).2, Option.bind_some, d1, Option.bind_some, d2, Option.bind_some]
    simp only
    rw [if_neg (by decide), if_pos trivial, if_neg (by decide), if_pos trivial, if_neg (by decide), if_pos trivial]
    exact e7
  · have ht : okP t = false := by simpa using ht
    obtain ⟨K, h7⟩ := st7 h t 0 0 false (fun h => by cases h)
    refine ⟨K + 600, fun k hk => ?_⟩
    obtain ⟨k, rfl⟩ : ∃ j, k = j + 1 := ⟨k - 1, by omega⟩
    have e7 := h7 k (by omega)
    simp only at e7
    have d1 : impl_DegreeOf.f t = some (0, false) := by
      unfold impl_DegreeOf.f
      rw [isPoly_one, ht]; rfl
    have d2 : spec_DegreeOf.f k t = some (0, false) := by
      unfold spec_DegreeOf.f
      rw [good_at, ht]; rfl
    have s1 : impl_ShiftPoly.f k t = some (0, false) := by
      unfold impl_ShiftPoly.f
      rw [isPoly_one, ht]; rfl
    have s2 : spec_ShiftPoly.f k t = some (0, false) := by
      unfold spec_ShiftPoly.f
      rw [good_at, ht]; rfl
    have r1 : impl_ReversedPoly.f k t = some (0, false) := by
      unfold impl_ReversedPoly.f
      rw [isPoly_one, ht]; rfl
    have r2 : spec_ReversedPoly.f k t = some (0, false) := by
      unfold spec_ReversedPoly.f
      rw [good_at, ht]; rfl
    show laws_FnPolynomialsDivide.j6 (k + 1) l m = _
    rw [laws_FnPolynomialsDivide.j6, e k (by omega), Option.bind_some, s1, Option.bind_some, s2, Option.bind_some, r1, Option.bind_some, r2, Option.bind_some, d1, Option.bind_some, d2, Option.bind_some]
    simp only
    rw [if_neg (by decide), if_pos trivial, if_neg (by decide), if_pos trivial, if_neg (by decide), if_pos trivial]
    exact e7
theorem mul_bl (p q : Nat) (hp : bl p ≤ 41) (hq : bl q ≤ 41) (h : p = 0 ∨ q = 0 ∨ bl p + bl q ≤ 42) : bl (mul p q) ≤ 41 := by
  by_cases p0 : p = 0
  · rw [p0, zero_mul, bl_zero]; omega
  · by_cases q0 : q = 0
    · rw [q0, mul_zero, bl_zero]; omega
    · have := bl_mul p0 q0
      omega
theorem st5 {l m : List Int} (h : By l) (h' : By m) (a b : Int) (R : Int × Bool) (hR : R.2 = true → ∃ p q : Nat, a = p ∧ b = q ∧ bl p ≤ 41 ∧ bl q ≤ 41 ∧ (p = 0 ∨ q = 0 ∨ bl p + bl q ≤ 42) ∧ R.1 = ((mul p q : Nat) : Int)) : Ev (fun k => laws_FnPolynomialsDivide.j5 k l m a b R.1 R.2 false) true := by
  obtain ⟨K, h6⟩ := st6 h h'
  by_cases c : R.2 = true
  · obtain ⟨p, q, rfl, rfl, hp, hq, hz, e⟩ := hR c
    have hm := mul_bl p q hp hq hz
    have dp := der_bl p
    have dq := der_bl q
    refine ⟨K + 600, fun k hk => ?_⟩
    obtain ⟨k, rfl⟩ : ∃ j, k = j + 1 := ⟨k - 1, by omega⟩
    have e6 := h6 k (by omega)
    simp only at e6
    have z1 : sub1 p = 0 ∨ sub1 q = 0 ∨ bl (sub1 p) + bl (sub1 q) ≤ 42 := by
      rw [bl_sub1, bl_sub1]
      rcases hz with rfl | rfl | hz
      · exact .inl sub1_zero
      · exact .inr (.inl sub1_zero)
      · exact .inr (.inr hz)
    have z2 : der p = 0 ∨ q = 0 ∨ bl (der p) + bl q ≤ 42 := by
      rcases hz with rfl | rfl | hz
      · exact .inl der_zero
      · exact .inr (.inl rfl)
      · exact .inr (.inr (by omega))
    have z3 : p = 0 ∨ der q = 0 ∨ bl p + bl (der q) ≤ 42 := by
      rcases hz with rfl | rfl | hz
      · exact .inl rfl
      · exact .inr (.inl der_zero)
      · exact .inr (.inr (by omega))
    have b1 := mul_bl _ _ (by omega) hq z2
    have b2 := mul_bl _ _ hp (by omega) z3
    have l1 := lt_of_bl (n := mul (der p) q) (by omega)
    have l2 := lt_of_bl (n := mul p (der q)) (by omega)
    show laws_FnPolynomialsDivide.j5 (k + 1) l m (p : Int) (q : Int) R.1 R.2 false = _
    rw [c, e, laws_FnPolynomialsDivide.j5, if_neg (by decide), if_pos rfl, shift_in hp k (by omega), Option.bind_some, shift_in hq k (by omega), Option.bind_some, shift_in hm k (by omega), Option.bind_some]
    simp only
    rw [times_zero (by rw [bl_sub1]; exact hp) (by rw [bl_sub1]; exact hq) z1 k (by omega), Option.bind_some, der_in hp k (by omega), Option.bind_some, der_in hq k (by omega), Option.bind_some, der_in hm k (by omega), Option.bind_some]
    simp only
    rw [times_zero (by omega) hq z2 k (by omega), Option.bind_some, times_zero hp (by omega) z3 k (by omega), Option.bind_some]
    simp only
    rw [if_pos trivial, if_pos trivial, if_pos trivial, if_pos trivial, if_pos trivial, if_pos trivial, if_pos trivial, if_pos trivial, if_pos trivial, if_pos (by rw [sub1_mul]), if_pos (by rw [bits_xor (by omega) (by omega), der_mul])]
    exact e6
  · have c : R.2 = false := by simpa using c
    refine ⟨K + 1, fun k hk => ?_⟩
    obtain ⟨k, rfl⟩ : ∃ j, k = j + 1 := ⟨k - 1, by omega⟩
    show laws_FnPolynomialsDivide.j5 (k + 1) l m a b R.1 R.2 false = _
    rw [c, laws_FnPolynomialsDivide.j5, if_neg (by decide), if_neg (by decide)]
    exact h6 k (by omega)
theorem st4 {l m : List Int} (h : By l) (h' : By m) : Ev (fun k => laws_FnPolynomialsDivide.j4 k l m) true := by
  obtain ⟨⟨a, b⟩, e⟩ := drawTimes h'
  obtain ⟨R, h1, h2⟩ := times_both a b
  obtain ⟨K, h5⟩ := st5 h h' a b R h2
  refine ⟨K + 600, fun k hk => ?_⟩
  obtain ⟨k, rfl⟩ : ∃ j, k = j + 1 := ⟨k - 1, by omega⟩
  have e5 := h5 k (by omega)
  simp only at e5
  show laws_FnPolynomialsDivide.j4 (k + 1) l m = _
  rw [laws_FnPolynomialsDivide.j4, e k (by omega), Option.bind_some]
  simp only
  rw [(h1 k (by omega)).1, Option.bind_some, (h1 k (by omega)).2, Option.bind_some, bne_self_eq_false, if_neg (by decide), bne_self_eq_false]
  exact e5
theorem st2 {l m : List Int} (h : By l) (h' : By m) (a b : Int) (R : Int × Bool) (hR : R.2 = true → ∃ p q : Nat, a = p ∧ b = q ∧ bl p ≤ 41 ∧ bl q ≤ 41 ∧ R.1 = ((Gf.gcd p q : Nat) : Int)) : Ev (fun k => laws_FnPolynomialsDivide.j2 k l m a b R.1 R.2 false) true := by
  obtain ⟨K, h4⟩ := st4 h h'
  have no : ∀ k, K ≤ k → laws_FnPolynomialsDivide.j3 (k + 1) l m a b R.1 false = some true := fun k hk => by
    rw [laws_FnPolynomialsDivide.j3, if_neg (by decide)]
    exact h4 k hk
  refine ⟨K + 600, fun k hk => ?_⟩
  obtain ⟨k, rfl⟩ : ∃ j, k = j + 1 + 1 := ⟨k - 2, by omega⟩
  show laws_FnPolynomialsDivide.j2 (k + 1 + 1) l m a b R.1 R.2 false = _
  rw [laws_FnPolynomialsDivide.j2, if_neg (by decide)]
  by_cases c : R.2 = true
  · rw [if_pos c]
    obtain ⟨p, q, rfl, rfl, hp, hq, e⟩ := hR c
    by_cases g0 : Gf.gcd p q = 0
    · rw [show decide (R.1 > 0) = false from decide_eq_false (by rw [e, g0]; decide)]
      exact no k (by omega)
    · rw [show decide (R.1 > 0) = true from decide_eq_true (by rw [e]; omega), e, laws_FnPolynomialsDivide.j3, if_pos rfl]
      obtain ⟨g1, g2⟩ := gcd_dv p q
      have r1 := (rest_zero_iff g0).2 g1
      have r2 := (rest_zero_iff g0).2 g2
      have hg : bl (Gf.gcd p q) ≤ 41 := by
        by_cases p0 : p = 0
        · by_cases q0 : q = 0
          · exact absurd (by rw [p0, q0, gcd_zero]) g0
          · have := g2.bl_le q0; omega
        · have := g1.bl_le p0; omega
      rw [divide_in hp hg g0 k (by omega), Option.bind_some, divide_in hq hg g0 k (by omega), Option.bind_some, r1, r2]
      simp only
      rw [if_pos trivial, if_pos trivial, if_pos (by rfl), if_pos (by rfl)]
      exact h4 k (by omega)
  · rw [if_neg c]
    exact no k (by omega)
theorem st1 {l m : List Int} (h : By l) (h' : By m) : Ev (fun k => laws_FnPolynomialsDivide.j1 k l m) true := by
  obtain ⟨⟨a, b⟩, e⟩ := drawGcd h'
  obtain ⟨R, h1, h2⟩ := gcd_both a b
  obtain ⟨K, h5⟩ := st2 h h' a b R h2
  refine ⟨K + 600, fun k hk => ?_⟩
  obtain ⟨k, rfl⟩ : ∃ j, k = j + 1 := ⟨k - 1, by omega⟩
  have e5 := h5 k (by omega)
  simp only at e5
  show laws_FnPolynomialsDivide.j1 (k + 1) l m = _
  rw [laws_FnPolynomialsDivide.j1, e k (by omega), Option.bind_some]
  simp only
  rw [(h1 k (by omega)).1, Option.bind_some, (h1 k (by omega)).2, Option.bind_some, bne_self_eq_false, if_neg (by decide), bne_self_eq_false]
  exact e5
theorem st0 {l m : List Int} (h : By l) (h' : By m) (a b : Int) (R : Int × Int × Bool) (hR : R.2.2 = true → ∃ p q : Nat, a = p ∧ b = q ∧ bl p ≤ 41 ∧ bl q ≤ 41 ∧ q ≠ 0 ∧ R.1 = ((divMod p q).1 : Int) ∧ R.2.1 = ((rest p q : Nat) : Int)) : Ev (fun k => laws_FnPolynomialsDivide.j0 k l m a b R.1 R.2.1 R.2.2 false) true := by
  obtain ⟨K, h1⟩ := st1 h h'
  refine ⟨K + 600, fun k hk => ?_⟩
  obtain ⟨k, rfl⟩ : ∃ j, k = j + 1 := ⟨k - 1, by omega⟩
  show laws_FnPolynomialsDivide.j0 (k + 1) l m a b R.1 R.2.1 R.2.2 false = _
  rw [laws_FnPolynomialsDivide.j0, if_neg (by decide)]
  by_cases c : R.2.2 = true
  · obtain ⟨p, q, rfl, rfl, hp, hq, q0, e1, e2⟩ := hR c
    obtain ⟨d1, d2⟩ := divMod_spec q0 p
    have hr := rest_lt q0 p
    have hz : (divMod p q).1 = 0 ∨ q = 0 ∨ bl (divMod p q).1 + bl q ≤ 42 := by
      by_cases s0 : (divMod p q).1 = 0
      · exact .inl s0
      · refine .inr (.inr ?_)
        have hm := bl_mul s0 q0
        have sw : ∀ a b c : Nat, a ^^^ b = c → a = c ^^^ b := by rintro a b c rfl; rw [Nat.xor_assoc, Nat.xor_self, Nat.xor_zero]
        have e : mul (divMod p q).1 q = p ^^^ rest p q := sw _ _ _ d1
        have := bl_xor_le p (rest p q) 41 hp (by omega)
        rw [← e] at this
        omega
    have hs : bl (divMod p q).1 ≤ 41 := by
      rcases hz with e | e | e
      · rw [e, bl_zero]; omega
      · exact absurd e q0
      · have := bl_pos' q0; omega
    have l1 := lt_of_bl (n := mul (divMod p q).1 q) (by have := mul_bl _ _ hs hq hz; omega)
    have l2 := lt_of_bl (n := rest p q) (by omega)
    rw [if_pos c, e1, e2, times_zero hs hq hz k (by omega), Option.bind_some]
    simp only
    rw [if_pos trivial, if_pos (by rw [bits_xor (by omega) (by omega)]; unfold rest; rw [d1]), vTop_at _ (by omega) k (by omega), Option.bind_some, vTop_at q (by omega) k (by omega), Option.bind_some, if_neg (by omega)]
    exact h1 k (by omega)
  · rw [if_neg c]
    exact h1 k (by omega)
theorem st {l m : List Int} (h : By l) (h' : By m) : ∃ k, laws_FnPolynomialsDivide.f k l m = some true := by
  obtain ⟨⟨a, b⟩, e⟩ := drawDivide h
  obtain ⟨R, h1, h2⟩ := divide_both a b
  obtain ⟨K, h0⟩ := st0 h h' a b R h2
  have e0 := h0 (K + 600) (by omega)
  simp only at e0
  refine ⟨K + 600, ?_⟩
  unfold laws_FnPolynomialsDivide.f
  obtain ⟨t, hb⟩ : ∃ t, laws_big.f l m = some t := by
    unfold laws_big.f
    split
    · exact ⟨_, rfl⟩
    · exact ⟨_, rfl⟩
  rw [hb, Option.bind_some]
  by_cases c : t = true
  · rw [if_pos c]
  · rw [if_neg c, e (K + 600) (by omega), Option.bind_some]
    simp only
    rw [(h1 (K + 600) (by omega)).1, Option.bind_some, (h1 (K + 600) (by omega)).2, Option.bind_some, bne_self_eq_false, if_neg (by decide), if_pos rfl, bne_self_eq_false]
    exact e0
theorem FnPolynomialsDivide : laws_FnPolynomialsDivide.Pure := fun l m _ _ w _ _ w' => st (by_wf w) (by_wf w')
end Go.Proofs.YtigkmdlbijdoaaaGreatDoor.Pure
