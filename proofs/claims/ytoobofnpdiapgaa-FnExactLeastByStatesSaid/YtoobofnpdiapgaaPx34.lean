-- Written by a program of this session (wip/mp.py), which runs the kit's print with contracts of the session's own.
import Derived.Test.YtoobofnpdiapgaaPx0
import Derived.Test.YtoobofnpdiapgaaPx7
import Derived.Test.YtoobofnpdiapgaaPx10
import Derived.Test.YtoobofnpdiapgaaPx12
import Derived.Test.YtoobofnpdiapgaaPx15
import Derived.Test.YtoobofnpdiapgaaPx23
import Derived.Test.YtoobofnpdiapgaaPx31
import Derived.Test.YtoobofnpdiapgaaPx33
namespace Go.Proofs.Ytoobofnpdiapgaa.P
open Go.RowKit Go.Proofs.YtoobofnpdiapgaaW.PrintWords Go.Proofs.YtoobofnpdiapgaaW.PrintLast Go.Proofs.YtoobofnpdiapgaaW.PrintMore
attribute [local go_sem] max2_int min2_int max_two min_two max_three min_three max_four min_four   -- for this text's walks alone
set_option linter.unusedVariables false
set_option linter.unusedSimpArgs false
/-! ### impl_LeastSolution: function 57 -/
-- BY HAND
section
open Go.Proofs.Ytoobofnpdiapgaa.Bk Go.Shelf
/-- The best of one and each of a row, added. -/
def lsI (one : Int) : List Int → Int → Option Int
  | [], best => some best
  | q :: qs, best => (impl_count.f (Go.bits .xor .i64 one q)).bind fun a => (impl_count.f best).bind fun b =>
      if a < b ∨ (a = b ∧ Go.bits .xor .i64 one q < best) then lsI one qs (Go.bits .xor .i64 one q) else lsI one qs best
def impl_LeastSolution.fk (k j : Nat) (l0_0 : List Int) (a0_1 : Bool) (a1 : Int) : Option (Int × Bool) :=
  (impl_isSet.f j l0_0 a0_1 [a1]).bind fun t => if t = true then (tgF l0_0 a0_1 l0_0.length 0 []).bind fun E => (solF k E 0 [] [] []).bind fun s => (reachL s.1 k a1 0).bind fun lr => (impl_reduced.f s.2.1 lr.2).bind fun r => if (lr.1 == 0) = true then (patL s.2.1 [0]).bind fun o => (slices_Sort_int_int.f o).bind fun q => (lsI r q r).bind fun b => some (b, true) else some (0, false) else some (0, false)
set_option maxHeartbeats 8000000 in
set_option maxRecDepth 100000 in
theorem impl_LeastSolution.callsk (k j : Nat) (A0_0 : Option Addr) (c0_0 : Nat) (l0_0 : List Int) (a0_1 : Bool) (a1 : Int) (r1 : Int) (r2 : Bool) (w : World) (hr0_0 : Kd.C (Kd.int .i64) w A0_0 l0_0.length l0_0) (hc0_0 : l0_0.length ≤ c0_0) (h : impl_LeastSolution.fk k j l0_0 a0_1 a1 = some (r1, r2)) :
    Calls Try.prog 57 #[.agg #[.slice A0_0 l0_0.length c0_0, .bool a0_1], .int .i64 a1] w fun e w' => e = .returned (.tuple #[.int .i64 r1, .bool r2]) ∧ Below w.heap.size w w' := by
  have hu28 := Try.underlying28
  unfold impl_LeastSolution.fk at h
  obtain ⟨t, hg, h⟩ := Option.bind_eq_some_iff.mp h
  have HGG := Aside0.mk (fun (W : World) (A1_ : Option Addr) (c1_ : Nat) (hB : Below w.heap.size w W) (hr1_ : Kd.C (Kd.int .i64) W A1_ ([a1] : List Int).length [a1]) (hc1_ : ([a1] : List Int).length ≤ c1_) => impl_isSet.calls j A0_0 c0_0 l0_0 a0_1 A1_ c1_ [a1] t W (Kd.C_below hr0_0 hB) hc0_0 hr1_ hc1_ hg)
  have hbx := blk_new w (.cells #[.slice A0_0 l0_0.length c0_0, .bool a0_1] 28)
  have HB := Aside0.mk (below_alloc (Below.refl w.heap.size w) (.cells #[.slice A0_0 l0_0.length c0_0, .bool a0_1] 28))
  have HBX := Aside0.mk (fun (W : World) (hB : Below (w.alloc (.cells #[.slice A0_0 l0_0.length c0_0, .bool a0_1] 28)).heap.size (w.alloc (.cells #[.slice A0_0 l0_0.length c0_0, .bool a0_1] 28)) W) => blk_below hbx hB)
  clear hg
  have hzb0 : (w.alloc (.cells #[.slice A0_0 l0_0.length c0_0, .bool a0_1] 28)).cell? ⟨w.heap.size, 0, none⟩ = some (.slice A0_0 l0_0.length c0_0) := (blk_cell hbx 0).trans rfl
  clear hbx
  cases t with
  | false =>
    rw [if_neg (by simp)] at h
    injection h with h
    injection h with e1 e2
    subst e1 e2
    go_enter Try.func57, Try.ntmps57
    go_wp2_with (first
      | ((with_reducible refine gate_dst (N := 15) rfl ?_); refine Kd.R_lit (Kd.int .i64) _ 3 ?hg (N := 15) ?hd (xs := ([a1] : List Int)) (inner := [.int .i64 a1]) (ok := fun _ => True) (okp := fun _ => True) ?hr ?hp (fun _ hk => hk) trivial (Below.refl _ _) (Nat.le_refl _) (by simp) ?_; (case hd => rfl); (case hg => rfl); (case hr => first | (go_simp; done) | (go_simp; rfl)); (case hp => exact (Reps.one (show Kd.M (Kd.int .i64) _ _ _ a1 [.int .i64 a1] from rfl) (Reps.none _ _))); intro v1 w1 ho hb hg_ hnew_; clear hg_ hnew_; obtain ⟨Al, cl, rfl⟩ := Kd.R_slice ho; have HO1 := Aside0.mk ho; have HB1 := Aside0.mk (below_step HB.out hb); have HBK1 := Aside0.mk (HBX.out w1 hb); clear ho hb HB)
      | (go_at_call 86; refine (HGG.out _ Al cl HB1.out (Kd.R_reads' HO1.out).2.2 (Kd.R_reads' HO1.out).2.1).mono ?_; rintro e w2 ⟨rfl, hb2⟩; have HB2 := Aside0.mk (below_step HB1.out hb2); have HBK2 := Aside0.mk (blk_below HBK1.out hb2); have hz0 : w2.cell? ⟨w.heap.size, 0, none⟩ = some (.slice A0_0 l0_0.length c0_0) := (blk_cell HBK2.out 0).trans rfl; have hz1 : w2.cell? ⟨w.heap.size, 1, none⟩ = some (.bool a0_1) := (blk_cell HBK2.out 1).trans rfl; clear hb2 HB1 HBK1 HO1))
    go_ret2
    exact ⟨by first | rfl | (simp; done), HB2.out⟩
  | true =>
    rw [if_pos rfl] at h
    obtain ⟨E, h1, h⟩ := Option.bind_eq_some_iff.mp h
    obtain ⟨⟨ps, qs, is⟩, h2, h⟩ := Option.bind_eq_some_iff.mp h
    obtain ⟨⟨rl, rp⟩, h3, h⟩ := Option.bind_eq_some_iff.mp h
    obtain ⟨r, h4, h⟩ := Option.bind_eq_some_iff.mp h
    have HC1 := Aside0.mk (fun (W : World) (hB : Below w.heap.size w W) => impl_solverOf.calls k A0_0 c0_0 l0_0 a0_1 E ps qs is W (Kd.C_below hr0_0 hB) hc0_0 h1 h2)
    have HC2 := Aside0.mk (fun (W : World) (base g : Nat) (hS : SVx base g ps qs is W) => impl_solver_solve.calls k base g ps qs is a1 rl rp r W hS h3 h4)
    clear h1 h2 h3 h4
    dsimp only at h
    cases hq : (rl == 0) with
    | true =>
      rw [hq] at HC2
      rw [hq, if_pos rfl] at h
      obtain ⟨o, h5, h⟩ := Option.bind_eq_some_iff.mp h
      obtain ⟨q, h6, h⟩ := Option.bind_eq_some_iff.mp h
      obtain ⟨b, h7, h⟩ := Option.bind_eq_some_iff.mp h
      injection h with h
      injection h with e1 e2
      subst e1 e2
      have HC4 := Aside0.mk (fun (A : Option Addr) (cc : Nat) (W : World) (hC : Kd.C (Kd.int .i64) W A qs.length qs) => impl_patterns.calls A cc qs o q W hC h5 h6)
      have H7 := Aside0.mk h7
      clear hq h5 h6 h7
      go_enter Try.func57, Try.ntmps57
      go_wp2_with (first
        | ((with_reducible refine gate_dst (N := 15) rfl ?_); refine Kd.R_lit (Kd.int .i64) _ 3 ?hg (N := 15) ?hd (xs := ([a1] : List Int)) (inner := [.int .i64 a1]) (ok := fun _ => True) (okp := fun _ => True) ?hr ?hp (fun _ hk => hk) trivial (Below.refl _ _) (Nat.le_refl _) (by simp) ?_; (case hd => rfl); (case hg => rfl); (case hr => first | (go_simp; done) | (go_simp; rfl)); (case hp => exact (Reps.one (show Kd.M (Kd.int .i64) _ _ _ a1 [.int .i64 a1] from rfl) (Reps.none _ _))); intro v1 w1 ho hb hg_ hnew_; clear hg_ hnew_; obtain ⟨Al, cl, rfl⟩ := Kd.R_slice ho; have HO1 := Aside0.mk ho; have HB1 := Aside0.mk (below_step HB.out hb); have HBK1 := Aside0.mk (HBX.out w1 hb); clear ho hb HB)
        | (go_at_call 86; refine (HGG.out _ Al cl HB1.out (Kd.R_reads' HO1.out).2.2 (Kd.R_reads' HO1.out).2.1).mono ?_; rintro e w2 ⟨rfl, hb2⟩; have HB2 := Aside0.mk (below_step HB1.out hb2); have HBK2 := Aside0.mk (blk_below HBK1.out hb2); have hz0 : w2.cell? ⟨w.heap.size, 0, none⟩ = some (.slice A0_0 l0_0.length c0_0) := (blk_cell HBK2.out 0).trans rfl; have hz1 : w2.cell? ⟨w.heap.size, 1, none⟩ = some (.bool a0_1) := (blk_cell HBK2.out 1).trans rfl; clear hb2 HB1 HBK1 HO1)
        | (go_at_call 87; refine (HC1.out _ HB2.out).mono ?_; rintro e w3 ⟨g, rfl, ⟨vp, vq, vi, hS⟩, hb3⟩; obtain ⟨Aq, cq, rfl⟩ := Kd.R_slice hS.Q; have HS3 := Aside0.mk hS; have HB3 := Aside0.mk (below_step HB2.out hb3); clear hb3 hS HB2 hz0 hz1)
        | (go_at_call 76; refine (HC2.out _ _ g ⟨_, _, _, HS3.out⟩).mono ?_; rintro e w4 ⟨rfl, hb4⟩; have HB4 := Aside0.mk (below_step HB3.out hb4); have HS4 := Aside0.mk (HS3.out.below hb4); have hzq4 : w4.cell? ⟨g, 1, none⟩ = some (.slice Aq qs.length cq) := (blk_cell HS4.out.b 1).trans rfl; have HC4 := Aside0.mk (HC4.out Aq cq w4 (Kd.R_reads' HS4.out.Q).2.2); clear hb4 HS3 HB3)
        | (go_at_call 51; refine HC4.out.mono ?_; rintro e w6 ⟨v33, rfl, hR6, hb6⟩; obtain ⟨A33, c33, rfl⟩ := Kd.R_slice hR6; have HR6 := Aside0.mk (Kd.R_lower (Kd.R_tight rfl hR6) HB4.out.size); have HB6 := Aside0.mk (below_step HB4.out hb6); clear hR6 hb6 HB4 HS4 hzq4))
      have hmq := Kd.C_max (Kd.R_reads' HR6.out).2.2
      go_loopg [9, 35] q.length (fun kq v9 v35 w' => ∃ (jj : Nat) (best : Int), jj ≤ q.length ∧ q.length - jj ≤ kq ∧ v35 = .int .i64 jj ∧ v9 = .int .i64 best ∧ Aside0 (lsI r (q.drop jj) best = some b) ∧ Aside0 (Kd.R (Kd.int .i64) 3 w' w.heap.size (fun k => some k = Value.ownBlock (.slice A33 q.length c33)) (.slice A33 q.length c33) q) ∧ Aside0 (Below w.heap.size w w'))
      case atStart => exact ⟨0, r, Nat.zero_le _, by omega, rfl, rfl, H7, HR6, HB6⟩
      case round =>
        obtain ⟨jj, best, hjj, hg2, rfl, rfl, HA, HR, HB⟩ := hrel
        by_cases hlt2 : jj < q.length
        · have hltz2 : (jj : Int) < (q.length : Int) := by omega
          have p2 : 0 ≤ (jj : Int) := by omega
          obtain ⟨ad2, e2, hx2⟩ := Kd.at_int (Kd.R_reads' HR.out).2.2 jj p2 hltz2
          cases e2
          rw [Int.toNat_natCast] at hx2
          obtain ⟨s, hs⟩ : ∃ z, z = rd q jj := ⟨_, rfl⟩
          have H3 := HA.out
          rw [List.drop_eq_getElem_cons hlt2, show q[jj] = s by rw [hs]; simp [rd, List.getElem?_eq_getElem hlt2], lsI] at H3
          rw [← hs] at hx2
          clear HA hs
          obtain ⟨x1, g1, H3⟩ := Option.bind_eq_some_iff.mp H3
          obtain ⟨x2, g2, H3⟩ := Option.bind_eq_some_iff.mp H3
          obtain ⟨y, hy⟩ : ∃ y, y = Go.bits .xor .i64 r s := ⟨_, rfl⟩
          rw [← hy] at H3 g1
          have HY := Aside0.mk hy
          have HN1 := Aside0.mk (fun (W : World) => impl_count.calls _ x1 W g1)
          have HN2 := Aside0.mk (fun (W : World) => impl_count.calls _ x2 W g2)
          clear g1 g2
          by_cases c1 : x1 < x2
          · rw [if_pos (Or.inl c1)] at H3
            have d1 : decide (x1 < x2) = true := decide_eq_true c1
            rw [hy] at HN1 H3
            clear HY hy
            replace H3 := Aside0.mk H3
            go_wp2_with (go_at_call 58; first | (refine (HN1.out _).mono ?_; rintro e w2 ⟨rfl, ⟨nd, rfl⟩⟩) | (refine (HN2.out _).mono ?_; rintro e w2 ⟨rfl, ⟨nd, rfl⟩⟩))
            go_roundg (q.length - (jj + 1))
            case measure => omega
            case rel => exact ⟨jj + 1, _, by omega, by omega, by go_num, by go_num, H3, Aside0.mk (by repeat (first | exact HR.out | apply Kd.R_drewN)), Aside0.mk (by repeat (first | exact HB.out | apply pw_below_drewN))⟩
          · have d1 : decide (x1 < x2) = false := decide_eq_false c1
            by_cases c2 : x1 = x2
            · have d2 : decide (x1 = x2) = true := decide_eq_true c2
              have d4 : (x1 == x2) = true := by simpa using c2
              by_cases c3 : y < best
              · rw [if_pos (Or.inr ⟨c2, c3⟩)] at H3
                have d3 : decide (y < best) = true := decide_eq_true c3
                rw [hy] at HN1 H3 d3
                clear HY hy c1 c2 c3
                replace H3 := Aside0.mk H3
                go_wp2_with (go_at_call 58; first | (refine (HN1.out _).mono ?_; rintro e w2 ⟨rfl, ⟨nd, rfl⟩⟩) | (refine (HN2.out _).mono ?_; rintro e w2 ⟨rfl, ⟨nd, rfl⟩⟩))
                go_roundg (q.length - (jj + 1))
                case measure => omega
                case rel => exact ⟨jj + 1, _, by omega, by omega, by go_num, by go_num, H3, Aside0.mk (by repeat (first | exact HR.out | apply Kd.R_drewN)), Aside0.mk (by repeat (first | exact HB.out | apply pw_below_drewN))⟩
              · rw [if_neg (fun h => h.elim c1 (fun h => c3 h.2))] at H3
                have d3 : decide (y < best) = false := decide_eq_false c3
                rw [hy] at HN1 d3
                clear HY hy c1 c2 c3
                replace H3 := Aside0.mk H3
                go_wp2_with (go_at_call 58; first | (refine (HN1.out _).mono ?_; rintro e w2 ⟨rfl, ⟨nd, rfl⟩⟩) | (refine (HN2.out _).mono ?_; rintro e w2 ⟨rfl, ⟨nd, rfl⟩⟩))
                go_roundg (q.length - (jj + 1))
                case measure => omega
                case rel => exact ⟨jj + 1, _, by omega, by omega, by go_num, by go_num, H3, Aside0.mk (by repeat (first | exact HR.out | apply Kd.R_drewN)), Aside0.mk (by repeat (first | exact HB.out | apply pw_below_drewN))⟩
            · have d2 : decide (x1 = x2) = false := decide_eq_false c2
              have d4 : (x1 == x2) = false := by simpa using c2
              rw [if_neg (fun h => h.elim c1 (fun h => c2 h.1))] at H3
              rw [hy] at HN1
              clear HY hy c1 c2
              replace H3 := Aside0.mk H3
              go_wp2_with (go_at_call 58; first | (refine (HN1.out _).mono ?_; rintro e w2 ⟨rfl, ⟨nd, rfl⟩⟩) | (refine (HN2.out _).mono ?_; rintro e w2 ⟨rfl, ⟨nd, rfl⟩⟩))
              go_roundg (q.length - (jj + 1))
              case measure => omega
              case rel => exact ⟨jj + 1, _, by omega, by omega, by go_num, by go_num, H3, Aside0.mk (by repeat (first | exact HR.out | apply Kd.R_drewN)), Aside0.mk (by repeat (first | exact HB.out | apply pw_below_drewN))⟩
        · have hltz2 : ¬ (jj : Int) < (q.length : Int) := by omega
          obtain rfl : jj = q.length := by omega
          have H3 := HA.out
          rw [List.drop_length, lsI] at H3
          injection H3 with H3
          subst H3
          clear HA
          go_wp2
          go_ret2
          exact ⟨by first | rfl | (simp; done), HB.out⟩
    | false =>
      rw [hq] at HC2
      rw [hq, if_neg (by simp)] at h
      injection h with h
      injection h with e1 e2
      subst e1 e2
      clear hq
      go_enter Try.func57, Try.ntmps57
      go_wp2_with (first
        | ((with_reducible refine gate_dst (N := 15) rfl ?_); refine Kd.R_lit (Kd.int .i64) _ 3 ?hg (N := 15) ?hd (xs := ([a1] : List Int)) (inner := [.int .i64 a1]) (ok := fun _ => True) (okp := fun _ => True) ?hr ?hp (fun _ hk => hk) trivial (Below.refl _ _) (Nat.le_refl _) (by simp) ?_; (case hd => rfl); (case hg => rfl); (case hr => first | (go_simp; done) | (go_simp; rfl)); (case hp => exact (Reps.one (show Kd.M (Kd.int .i64) _ _ _ a1 [.int .i64 a1] from rfl) (Reps.none _ _))); intro v1 w1 ho hb hg_ hnew_; clear hg_ hnew_; obtain ⟨Al, cl, rfl⟩ := Kd.R_slice ho; have HO1 := Aside0.mk ho; have HB1 := Aside0.mk (below_step HB.out hb); have HBK1 := Aside0.mk (HBX.out w1 hb); clear ho hb HB)
        | (go_at_call 86; refine (HGG.out _ Al cl HB1.out (Kd.R_reads' HO1.out).2.2 (Kd.R_reads' HO1.out).2.1).mono ?_; rintro e w2 ⟨rfl, hb2⟩; have HB2 := Aside0.mk (below_step HB1.out hb2); have HBK2 := Aside0.mk (blk_below HBK1.out hb2); have hz0 : w2.cell? ⟨w.heap.size, 0, none⟩ = some (.slice A0_0 l0_0.length c0_0) := (blk_cell HBK2.out 0).trans rfl; have hz1 : w2.cell? ⟨w.heap.size, 1, none⟩ = some (.bool a0_1) := (blk_cell HBK2.out 1).trans rfl; clear hb2 HB1 HBK1 HO1)
        | (go_at_call 87; refine (HC1.out _ HB2.out).mono ?_; rintro e w3 ⟨g, rfl, hS3, hb3⟩; have HS3 := Aside0.mk hS3; have HB3 := Aside0.mk (below_step HB2.out hb3); have HQ3 : ∃ Aq cq, w3.cell? ⟨g, 1, none⟩ = some (.slice Aq qs.length cq) := (by obtain ⟨vp, vq, vi, hS⟩ := hS3; obtain ⟨Aq, cq, rfl⟩ := Kd.R_slice hS.Q; exact ⟨Aq, cq, (blk_cell hS.b 1).trans rfl⟩); obtain ⟨Aq, cq, hzq⟩ := HQ3; clear hb3 hS3 HB2 hz0 hz1)
        | (go_at_call 76; refine (HC2.out _ _ g HS3.out).mono ?_; rintro e w4 ⟨rfl, hb4⟩; have HB4 := Aside0.mk (below_step HB3.out hb4); clear hb4 HS3 HB3 hzq))
      go_ret2
      exact ⟨by first | rfl | (simp; done), HB4.out⟩
def impl_LeastSolution.f (k : Nat) (l0_0 : List Int) (a0_1 : Bool) (a1 : Int) : Option (Int × Bool) := impl_LeastSolution.fk 1000 k l0_0 a0_1 a1
theorem impl_LeastSolution.calls (k : Nat) (A0_0 : Option Addr) (c0_0 : Nat) (l0_0 : List Int) (a0_1 : Bool) (a1 : Int) (r1 : Int) (r2 : Bool) (w : World) (hr0_0 : Kd.C (Kd.int .i64) w A0_0 l0_0.length l0_0) (hc0_0 : l0_0.length ≤ c0_0) (h : impl_LeastSolution.f k l0_0 a0_1 a1 = some (r1, r2)) :
    Calls Try.prog 57 #[.agg #[.slice A0_0 l0_0.length c0_0, .bool a0_1], .int .i64 a1] w fun e w' => e = .returned (.tuple #[.int .i64 r1, .bool r2]) ∧ Below w.heap.size w w' := impl_LeastSolution.callsk 1000 k A0_0 c0_0 l0_0 a0_1 a1 r1 r2 w hr0_0 hc0_0 h
end
end Go.Proofs.Ytoobofnpdiapgaa.P
