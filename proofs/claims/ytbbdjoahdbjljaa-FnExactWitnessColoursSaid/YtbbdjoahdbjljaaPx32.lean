-- Written by a program of this session (wip/mp.py), which runs the kit's print with contracts of the session's own.
import Derived.Test.YtbbdjoahdbjljaaPx0
import Derived.Test.YtbbdjoahdbjljaaPx3
import Derived.Test.YtbbdjoahdbjljaaPx7
import Derived.Test.YtbbdjoahdbjljaaPx25
import Derived.Test.YtbbdjoahdbjljaaPx27
namespace Go.Proofs.Ytbbdjoahdbjljaa.P
open Go.RowKit Go.Proofs.YtbbdjoahdbjljaaW.PrintWords Go.Proofs.YtbbdjoahdbjljaaW.PrintLast Go.Proofs.YtbbdjoahdbjljaaW.PrintMore
attribute [local go_sem] max2_int min2_int max_two min_two max_three min_three max_four min_four   -- for this text's walks alone
set_option linter.unusedVariables false
set_option linter.unusedSimpArgs false
/-! ### spec_WitnessColours: function 42 -/
-- BY HAND
/-- The sum of products of two rows, from the place i of the second on. -/
def dotW : List Int → List Int → Nat → Int → Option Int
  | [], _, _, s => some s
  | x :: xs, ys, i, s => if i < ys.length then dotW xs ys (i + 1) (wrap64 (s + wrap64 (x * rd ys (i : Int)))) else none
/-- The first row whose sum with lights is not divided by m. -/
def witF (sw : Bool) (m : Int) (lights : List Int) : List (List Int) → Option (List Int × Bool)
  | [] => some ([], false)
  | q :: qs => (if sw = true then dotW lights q 0 0 else dotW q lights 0 0).bind fun s => if m = 0 then none else if Int.tmod s m = 0 then witF sw m lights qs else some (q, true)
def spec_WitnessColours.f (k : Nat) (l0_0 : List Int) (a0_1 : Bool) (a1 : Int) (l2 : List Int) : Option (List Int × Bool) :=
  (spec_clList.f k l0_0 a0_1 a1 l2).bind fun t => if t = true then (spec_clQuiet.f k l0_0 a0_1 a1).bind fun Q => witF true a1 l2 Q else some ([], false)
set_option maxHeartbeats 8000000 in
set_option maxRecDepth 100000 in
theorem spec_WitnessColours.calls (k : Nat) (A0_0 : Option Addr) (c0_0 : Nat) (l0_0 : List Int) (a0_1 : Bool) (a1 : Int) (A2 : Option Addr) (c2 : Nat) (l2 : List Int) (r1 : List Int) (r2 : Bool) (w : World) (hr0_0 : Kd.C (Kd.int .i64) w A0_0 l0_0.length l0_0) (hc0_0 : l0_0.length ≤ c0_0) (hr2 : Kd.C (Kd.int .i64) w A2 l2.length l2) (hc2 : l2.length ≤ c2) (h : spec_WitnessColours.f k l0_0 a0_1 a1 l2 = some (r1, r2)) :
    Calls Try.prog 42 #[.agg #[.slice A0_0 l0_0.length c0_0, .bool a0_1], .int .i64 a1, .slice A2 l2.length c2] w fun e w' => ∃ v0_ : Value, e = .returned (.tuple #[v0_, .bool r2]) ∧ Kd.R (Kd.int .i64) 3 w' w.heap.size (fun _ => True) v0_ r1 ∧ Below w.heap.size w w' := by
  have hu28 := Try.underlying28
  unfold spec_WitnessColours.f at h
  obtain ⟨t, hg, h⟩ := Option.bind_eq_some_iff.mp h
  have HGG := Aside0.mk (fun (W : World) (hB : Below w.heap.size w W) => spec_clList.calls k A0_0 c0_0 l0_0 a0_1 a1 A2 c2 l2 t W (Kd.C_below hr0_0 hB) hc0_0 (Kd.C_below hr2 hB) hc2 hg)
  have hbx := blk_new w (.cells #[.slice A0_0 l0_0.length c0_0, .bool a0_1] 28)
  have HB := Aside0.mk (below_alloc (Below.refl w.heap.size w) (.cells #[.slice A0_0 l0_0.length c0_0, .bool a0_1] 28))
  have HBX := Aside0.mk (fun (W : World) (hB : Below (w.alloc (.cells #[.slice A0_0 l0_0.length c0_0, .bool a0_1] 28)).heap.size (w.alloc (.cells #[.slice A0_0 l0_0.length c0_0, .bool a0_1] 28)) W) => blk_below hbx hB)
  clear hg
  have hzb0 : (w.alloc (.cells #[.slice A0_0 l0_0.length c0_0, .bool a0_1] 28)).cell? ⟨w.heap.size, 0, none⟩ = some (.slice A0_0 l0_0.length c0_0) := (blk_cell hbx 0).trans rfl
  clear hbx
  cases t with
  | false =>
    rw [if_neg (by simp)] at h
    injection h with h
    injection h with e1 e2
    subst e1 e2
    clear hr0_0 hc0_0 hr2 hc2
    go_enter Try.func42, Try.ntmps42
    go_wp2_with (go_at_call 52; refine (HGG.out _ HB.out).mono ?_; rintro e w2 ⟨rfl, hb2⟩; have HB2 := Aside0.mk (below_step HB.out hb2); clear hb2)
    go_ret2
    exact ⟨_, by first | rfl | (simp; done), Kd.R_nil _ _ _ _ _, HB2.out⟩
  | true =>
    rw [if_pos rfl] at h
    obtain ⟨Q, h1, h⟩ := Option.bind_eq_some_iff.mp h
    have HC1 := Aside0.mk (fun (W : World) (hB : Below w.heap.size w W) => spec_clQuiet.calls k A0_0 c0_0 l0_0 a0_1 a1 Q W (Kd.C_below hr0_0 hB) hc0_0 h1)
    have H2 := Aside0.mk h
    have HR2 := Aside0.mk hr2
    have hm2 := Kd.C_max hr2
    clear h h1 hr0_0 hc0_0 hr2 hc2
    go_enter Try.func42, Try.ntmps42
    go_wp2_with (first | (go_at_call 52; refine (HGG.out _ HB.out).mono ?_; rintro e w2 ⟨rfl, hb2⟩; have HB2 := Aside0.mk (below_step HB.out hb2); have HBK2 := Aside0.mk (HBX.out w2 hb2); have hz0 : w2.cell? ⟨w.heap.size, 0, none⟩ = some (.slice A0_0 l0_0.length c0_0) := (blk_cell HBK2.out 0).trans rfl; have hz1 : w2.cell? ⟨w.heap.size, 1, none⟩ = some (.bool a0_1) := (blk_cell HBK2.out 1).trans rfl; clear hb2) | (go_at_call 64; refine (HC1.out _ HB2.out).mono ?_; rintro e w4 ⟨v20, rfl, hS, hb4⟩; obtain ⟨AE, cE, rfl⟩ := Kd.S_slice hS; have HS := Aside0.mk (Kd.S_lower hS HB2.out.size); have HB4 := Aside0.mk (below_step HB2.out hb4); clear hb4 hS hz0 hz1 HBK2))
    have hm := Kd.C_max (Kd.S_reads' HS.out).2.2
    replace HR2 := Aside0.mk (Kd.C_below HR2.out HB4.out)
    go_loopg [22] Q.length (fun kq v22 w' => ∃ jj : Nat, jj ≤ Q.length ∧ Q.length - jj ≤ kq ∧ v22 = .int .i64 jj ∧ w' = w4 ∧ Aside0 (witF true a1 l2 (Q.drop jj) = some (r1, r2)))
    case atStart => exact ⟨0, Nat.zero_le _, by omega, rfl, rfl, H2⟩
    case round =>
      clear H2
      obtain ⟨jj, hjj, hgq, rfl, rfl, HA⟩ := hrel
      by_cases hlt : jj < Q.length
      · have hltz : (jj : Int) < (Q.length : Int) := by omega
        have p0 : 0 ≤ (jj : Int) := by omega
        have H3 := HA.out
        rw [List.drop_eq_getElem_cons hlt, witF] at H3
        obtain ⟨adE, rfl⟩ : ∃ ad, AE = some ad := by
          obtain ⟨ad, _, _, e, -⟩ := at_L1 (Kd.S_reads' HS.out).2.2 (jj : Int) p0 hltz
          exact ⟨_, e⟩
        obtain ⟨ce, hcl, hM, hcc⟩ := Kd.S_get HS.out [] (jj : Int) p0 hltz
        obtain ⟨ve, rfl, hR⟩ := hM
        have hrow : Q.getD (jj : Int).toNat [] = Q[jj] := by rw [Int.toNat_natCast, List.getD_eq_getElem?_getD, List.getElem?_eq_getElem hlt]; rfl
        rw [hrow] at hR
        obtain ⟨q, hq⟩ : ∃ z, z = Q[jj] := ⟨_, rfl⟩
        rw [← hq] at hR H3
        obtain ⟨Ae, cs, rfl⟩ := Kd.R_slice hR
        have hv := hcc 0 _ rfl
        rw [Int.toNat_natCast, Nat.add_zero, show (Kd.slice 3 (Kd.int .i64)).sz = 1 from rfl, Nat.mul_one] at hv
        have HR := Aside0.mk (Kd.R_mono (ok' := fun _ => True) hR (fun _ _ => trivial))
        have hmq := Kd.C_max (Kd.R_reads' hR).2.2
        obtain ⟨s, g1, H3⟩ := Option.bind_eq_some_iff.mp H3
        replace g1 := Aside0.mk g1
        by_cases cm : a1 = 0
        · rw [if_pos cm] at H3; cases H3
        rw [if_neg cm] at H3
        replace H3 := Aside0.mk H3
        have dm1 : decide (a1 = 0) = false := decide_eq_false cm
        have dm2 : (a1 == 0) = false := by simpa using cm
        clear hcc hcl hR hrow hq HA
        go_wp2
        go_loopg [10, 28] l2.length (fun kq v10 v28 w' => ∃ (ii : Nat) (sm : Int), ii ≤ l2.length ∧ l2.length - ii ≤ kq ∧ v10 = .int .i64 sm ∧ v28 = .int .i64 ii ∧ w' = wr ∧ Aside0 (dotW (l2.drop ii) q ii sm = some s))
        case atStart => exact ⟨0, 0, Nat.zero_le _, by omega, rfl, rfl, rfl, g1⟩
        case round =>
          obtain ⟨ii, sm, hii, hgi, rfl, rfl, rfl, HA⟩ := hrel
          by_cases hl2 : ii < l2.length
          · have hl2z : (ii : Int) < (l2.length : Int) := by omega
            have p1 : 0 ≤ (ii : Int) := by omega
            have H4 := HA.out
            rw [List.drop_eq_getElem_cons hl2, dotW] at H4
            by_cases c1 : ii < q.length
            · rw [if_pos c1] at H4
              have c1z : (ii : Int) < (q.length : Int) := by omega
              obtain ⟨ad1, e1, hx1⟩ := Kd.at_int HR2.out (ii : Int) p1 hl2z
              cases e1
              rw [Int.toNat_natCast] at hx1
              obtain ⟨ad2, e2, hx2⟩ := Kd.at_int (Kd.R_reads' HR.out).2.2 (ii : Int) p1 c1z
              cases e2
              rw [Int.toNat_natCast] at hx2
              obtain ⟨x, hx⟩ : ∃ z, z = rd l2 ii := ⟨_, rfl⟩
              obtain ⟨y, hy⟩ : ∃ z, z = rd q ii := ⟨_, rfl⟩
              rw [show l2[ii] = x by rw [hx]; simp [rd, List.getElem?_eq_getElem hl2], ← hy] at H4
              rw [← hx] at hx1
              rw [← hy] at hx2
              replace H4 := Aside0.mk H4
              clear hx hy HA
              go_wp2
              go_roundg (l2.length - (ii + 1))
              case measure => omega
              case rel => exact ⟨ii + 1, _, by omega, by omega, by go_num, by go_num, rfl, H4⟩
            · rw [if_neg c1] at H4
              cases H4
          · have hl2z : ¬ (ii : Int) < (l2.length : Int) := by omega
            obtain rfl : ii = l2.length := by omega
            have H4 := HA.out
            rw [List.drop_length, dotW] at H4
            injection H4 with H4
            subst H4
            clear HA
            have H3 := H3.out
            by_cases c2_ : Int.tmod sm a1 = 0
            · rw [if_pos c2_] at H3
              have d1 : decide (Int.tmod sm a1 = 0) = true := decide_eq_true c2_
              have d2 : (Int.tmod sm a1 == 0) = true := by simpa using c2_
              have d3 : (Int.tmod sm a1 != 0) = false := by simpa using c2_
              replace H3 := Aside0.mk H3
              clear c2_
              go_wp2
              go_roundg (Q.length - (jj + 1))
              case measure => omega
              case rel => exact ⟨jj + 1, by omega, by omega, by go_num, rfl, H3⟩
            · rw [if_neg c2_] at H3
              have d1 : decide (Int.tmod sm a1 = 0) = false := decide_eq_false c2_
              have d2 : (Int.tmod sm a1 == 0) = false := by simpa using c2_
              have d3 : (Int.tmod sm a1 != 0) = true := by simpa using c2_
              injection H3 with H3
              injection H3 with e1 e2
              subst e1 e2
              clear c2_
              go_wp2
              go_ret2
              exact ⟨_, by first | rfl | (simp; done), HR.out, HB4.out⟩
      · have hltz : ¬ (jj : Int) < (Q.length : Int) := by omega
        obtain rfl : jj = Q.length := by omega
        have H3 := HA.out
        rw [List.drop_length, witF] at H3
        injection H3 with H3
        injection H3 with e1 e2
        subst e1 e2
        clear HA
        go_wp2
        go_ret2
        exact ⟨_, by first | rfl | (simp; done), Kd.R_nil _ _ _ _ _, HB4.out⟩
/-! ### impl_WitnessColours: function 43 -/
-- BY HAND
def impl_WitnessColours.f (k : Nat) (l0_0 : List Int) (a0_1 : Bool) (a1 : Int) (l2 : List Int) : Option (List Int × Bool) :=
  (impl_areColours.f k l0_0 a0_1 a1 l2).bind fun t => if t = true then (impl_Graph_quietColours.f k l0_0 a0_1 a1).bind fun Q => witF false a1 l2 Q else some ([], false)
set_option maxHeartbeats 8000000 in
set_option maxRecDepth 100000 in
theorem impl_WitnessColours.calls (k : Nat) (A0_0 : Option Addr) (c0_0 : Nat) (l0_0 : List Int) (a0_1 : Bool) (a1 : Int) (A2 : Option Addr) (c2 : Nat) (l2 : List Int) (r1 : List Int) (r2 : Bool) (w : World) (hr0_0 : Kd.C (Kd.int .i64) w A0_0 l0_0.length l0_0) (hc0_0 : l0_0.length ≤ c0_0) (hr2 : Kd.C (Kd.int .i64) w A2 l2.length l2) (hc2 : l2.length ≤ c2) (h : impl_WitnessColours.f k l0_0 a0_1 a1 l2 = some (r1, r2)) :
    Calls Try.prog 43 #[.agg #[.slice A0_0 l0_0.length c0_0, .bool a0_1], .int .i64 a1, .slice A2 l2.length c2] w fun e w' => ∃ v0_ : Value, e = .returned (.tuple #[v0_, .bool r2]) ∧ Kd.R (Kd.int .i64) 3 w' w.heap.size (fun _ => True) v0_ r1 ∧ Below w.heap.size w w' := by
  have hu28 := Try.underlying28
  unfold impl_WitnessColours.f at h
  obtain ⟨t, hg, h⟩ := Option.bind_eq_some_iff.mp h
  have HGG := Aside0.mk (fun (W : World) (hB : Below w.heap.size w W) => impl_areColours.calls k A0_0 c0_0 l0_0 a0_1 a1 A2 c2 l2 t W (Kd.C_below hr0_0 hB) hc0_0 (Kd.C_below hr2 hB) hc2 hg)
  have hbx := blk_new w (.cells #[.slice A0_0 l0_0.length c0_0, .bool a0_1] 28)
  have HB := Aside0.mk (below_alloc (Below.refl w.heap.size w) (.cells #[.slice A0_0 l0_0.length c0_0, .bool a0_1] 28))
  have HBX := Aside0.mk (fun (W : World) (hB : Below (w.alloc (.cells #[.slice A0_0 l0_0.length c0_0, .bool a0_1] 28)).heap.size (w.alloc (.cells #[.slice A0_0 l0_0.length c0_0, .bool a0_1] 28)) W) => blk_below hbx hB)
  clear hg
  have hzb0 : (w.alloc (.cells #[.slice A0_0 l0_0.length c0_0, .bool a0_1] 28)).cell? ⟨w.heap.size, 0, none⟩ = some (.slice A0_0 l0_0.length c0_0) := (blk_cell hbx 0).trans rfl
  clear hbx
  cases t with
  | false =>
    rw [if_neg (by simp)] at h
    injection h with h
    injection h with e1 e2
    subst e1 e2
    clear hr0_0 hc0_0 hr2 hc2
    go_enter Try.func43, Try.ntmps43
    go_wp2_with (go_at_call 54; refine (HGG.out _ HB.out).mono ?_; rintro e w2 ⟨rfl, hb2⟩; have HB2 := Aside0.mk (below_step HB.out hb2); clear hb2)
    go_ret2
    exact ⟨_, by first | rfl | (simp; done), Kd.R_nil _ _ _ _ _, HB2.out⟩
  | true =>
    rw [if_pos rfl] at h
    obtain ⟨Q, h1, h⟩ := Option.bind_eq_some_iff.mp h
    have HC1 := Aside0.mk (fun (W : World) (hB : Below w.heap.size w W) => impl_Graph_quietColours.calls k A0_0 c0_0 l0_0 a0_1 a1 Q W (Kd.C_below hr0_0 hB) hc0_0 h1)
    have H2 := Aside0.mk h
    have HR2 := Aside0.mk hr2
    have hm2 := Kd.C_max hr2
    clear h h1 hr0_0 hc0_0 hr2 hc2
    go_enter Try.func43, Try.ntmps43
    go_wp2_with (first | (go_at_call 54; refine (HGG.out _ HB.out).mono ?_; rintro e w2 ⟨rfl, hb2⟩; have HB2 := Aside0.mk (below_step HB.out hb2); have HBK2 := Aside0.mk (HBX.out w2 hb2); have hz0 : w2.cell? ⟨w.heap.size, 0, none⟩ = some (.slice A0_0 l0_0.length c0_0) := (blk_cell HBK2.out 0).trans rfl; have hz1 : w2.cell? ⟨w.heap.size, 1, none⟩ = some (.bool a0_1) := (blk_cell HBK2.out 1).trans rfl; clear hb2) | (go_at_call 65; refine (HC1.out _ HB2.out).mono ?_; rintro e w4 ⟨v20, rfl, hS, hb4⟩; obtain ⟨AE, cE, rfl⟩ := Kd.S_slice hS; have HS := Aside0.mk (Kd.S_lower hS HB2.out.size); have HB4 := Aside0.mk (below_step HB2.out hb4); clear hb4 hS hz0 hz1 HBK2))
    have hm := Kd.C_max (Kd.S_reads' HS.out).2.2
    replace HR2 := Aside0.mk (Kd.C_below HR2.out HB4.out)
    go_loopg [22] Q.length (fun kq v22 w' => ∃ jj : Nat, jj ≤ Q.length ∧ Q.length - jj ≤ kq ∧ v22 = .int .i64 jj ∧ w' = w4 ∧ Aside0 (witF false a1 l2 (Q.drop jj) = some (r1, r2)))
    case atStart => exact ⟨0, Nat.zero_le _, by omega, rfl, rfl, H2⟩
    case round =>
      clear H2
      obtain ⟨jj, hjj, hgq, rfl, rfl, HA⟩ := hrel
      by_cases hlt : jj < Q.length
      · have hltz : (jj : Int) < (Q.length : Int) := by omega
        have p0 : 0 ≤ (jj : Int) := by omega
        have H3 := HA.out
        rw [List.drop_eq_getElem_cons hlt, witF] at H3
        obtain ⟨adE, rfl⟩ : ∃ ad, AE = some ad := by
          obtain ⟨ad, _, _, e, -⟩ := at_L1 (Kd.S_reads' HS.out).2.2 (jj : Int) p0 hltz
          exact ⟨_, e⟩
        obtain ⟨ce, hcl, hM, hcc⟩ := Kd.S_get HS.out [] (jj : Int) p0 hltz
        obtain ⟨ve, rfl, hR⟩ := hM
        have hrow : Q.getD (jj : Int).toNat [] = Q[jj] := by rw [Int.toNat_natCast, List.getD_eq_getElem?_getD, List.getElem?_eq_getElem hlt]; rfl
        rw [hrow] at hR
        obtain ⟨q, hq⟩ : ∃ z, z = Q[jj] := ⟨_, rfl⟩
        rw [← hq] at hR H3
        obtain ⟨Ae, cs, rfl⟩ := Kd.R_slice hR
        have hv := hcc 0 _ rfl
        rw [Int.toNat_natCast, Nat.add_zero, show (Kd.slice 3 (Kd.int .i64)).sz = 1 from rfl, Nat.mul_one] at hv
        have HR := Aside0.mk (Kd.R_mono (ok' := fun _ => True) hR (fun _ _ => trivial))
        have hmq := Kd.C_max (Kd.R_reads' hR).2.2
        obtain ⟨s, g1, H3⟩ := Option.bind_eq_some_iff.mp H3
        replace g1 := Aside0.mk g1
        by_cases cm : a1 = 0
        · rw [if_pos cm] at H3; cases H3
        rw [if_neg cm] at H3
        replace H3 := Aside0.mk H3
        have dm1 : decide (a1 = 0) = false := decide_eq_false cm
        have dm2 : (a1 == 0) = false := by simpa using cm
        clear hcc hcl hR hrow hq HA
        go_wp2
        go_loopg [10, 28] q.length (fun kq v10 v28 w' => ∃ (ii : Nat) (sm : Int), ii ≤ q.length ∧ q.length - ii ≤ kq ∧ v10 = .int .i64 sm ∧ v28 = .int .i64 ii ∧ w' = wr ∧ Aside0 (dotW (q.drop ii) l2 ii sm = some s))
        case atStart => exact ⟨0, 0, Nat.zero_le _, by omega, rfl, rfl, rfl, g1⟩
        case round =>
          obtain ⟨ii, sm, hii, hgi, rfl, rfl, rfl, HA⟩ := hrel
          by_cases hl2 : ii < q.length
          · have hl2z : (ii : Int) < (q.length : Int) := by omega
            have p1 : 0 ≤ (ii : Int) := by omega
            have H4 := HA.out
            rw [List.drop_eq_getElem_cons hl2, dotW] at H4
            by_cases c1 : ii < l2.length
            · rw [if_pos c1] at H4
              have c1z : (ii : Int) < (l2.length : Int) := by omega
              obtain ⟨ad1, e1, hx1⟩ := Kd.at_int (Kd.R_reads' HR.out).2.2 (ii : Int) p1 hl2z
              cases e1
              rw [Int.toNat_natCast] at hx1
              obtain ⟨ad2, e2, hx2⟩ := Kd.at_int HR2.out (ii : Int) p1 c1z
              cases e2
              rw [Int.toNat_natCast] at hx2
              obtain ⟨x, hx⟩ : ∃ z, z = rd q ii := ⟨_, rfl⟩
              obtain ⟨y, hy⟩ : ∃ z, z = rd l2 ii := ⟨_, rfl⟩
              rw [show q[ii] = x by rw [hx]; simp [rd, List.getElem?_eq_getElem hl2], ← hy] at H4
              rw [← hx] at hx1
              rw [← hy] at hx2
              replace H4 := Aside0.mk H4
              clear hx hy HA
              go_wp2
              go_roundg (q.length - (ii + 1))
              case measure => omega
              case rel => exact ⟨ii + 1, _, by omega, by omega, by go_num, by go_num, rfl, H4⟩
            · rw [if_neg c1] at H4
              cases H4
          · have hl2z : ¬ (ii : Int) < (q.length : Int) := by omega
            obtain rfl : ii = q.length := by omega
            have H4 := HA.out
            rw [List.drop_length, dotW] at H4
            injection H4 with H4
            subst H4
            clear HA
            have H3 := H3.out
            by_cases c2_ : Int.tmod sm a1 = 0
            · rw [if_pos c2_] at H3
              have d1 : decide (Int.tmod sm a1 = 0) = true := decide_eq_true c2_
              have d2 : (Int.tmod sm a1 == 0) = true := by simpa using c2_
              have d3 : (Int.tmod sm a1 != 0) = false := by simpa using c2_
              replace H3 := Aside0.mk H3
              clear c2_
              go_wp2
              go_roundg (Q.length - (jj + 1))
              case measure => omega
              case rel => exact ⟨jj + 1, by omega, by omega, by go_num, rfl, H3⟩
            · rw [if_neg c2_] at H3
              have d1 : decide (Int.tmod sm a1 = 0) = false := decide_eq_false c2_
              have d2 : (Int.tmod sm a1 == 0) = false := by simpa using c2_
              have d3 : (Int.tmod sm a1 != 0) = true := by simpa using c2_
              injection H3 with H3
              injection H3 with e1 e2
              subst e1 e2
              clear c2_
              go_wp2
              go_ret2
              exact ⟨_, by first | rfl | (simp; done), HR.out, HB4.out⟩
      · have hltz : ¬ (jj : Int) < (Q.length : Int) := by omega
        obtain rfl : jj = Q.length := by omega
        have H3 := HA.out
        rw [List.drop_length, witF] at H3
        injection H3 with H3
        injection H3 with e1 e2
        subst e1 e2
        clear HA
        go_wp2
        go_ret2
        exact ⟨_, by first | rfl | (simp; done), Kd.R_nil _ _ _ _ _, HB4.out⟩
end Go.Proofs.Ytbbdjoahdbjljaa.P
