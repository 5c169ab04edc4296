-- Written by a program of this session (wip/mp.py), which runs the kit's print with contracts of the session's own.
import Derived.Test.YtoobofnpdiapgaaPx0
import Derived.Test.YtoobofnpdiapgaaPx10
import Derived.Test.YtoobofnpdiapgaaPx12
import Derived.Test.YtoobofnpdiapgaaPx15
import Derived.Test.YtoobofnpdiapgaaPx31
import Derived.Test.YtoobofnpdiapgaaPx33
namespace Go.Proofs.Ytoobofnpdiapgaa.P
open Go.RowKit Go.Proofs.YtoobofnpdiapgaaW.PrintWords Go.Proofs.YtoobofnpdiapgaaW.PrintLast Go.Proofs.YtoobofnpdiapgaaW.PrintMore
attribute [local go_sem] max2_int min2_int max_two min_two max_three min_three max_four min_four   -- for this text's walks alone
set_option linter.unusedVariables false
set_option linter.unusedSimpArgs false
/-! ### impl_CountSolutions: function 67 -/
-- BY HAND
section
open Go.Proofs.Ytoobofnpdiapgaa.Bk Go.Shelf
def impl_CountSolutions.fk (k j : Nat) (l0_0 : List Int) (a0_1 : Bool) (a1 : Int) : Option (Int × Bool) :=
  (impl_isSet.f j l0_0 a0_1 [a1]).bind fun t => if t = true then (tgF l0_0 a0_1 l0_0.length 0 []).bind fun E => (solF k E 0 [] [] []).bind fun s => (reachL s.1 k a1 0).bind fun lr => (impl_reduced.f s.2.1 lr.2).bind fun _ => if (lr.1 == 0) = true then some (shl .i64 1 (s.2.1.length : Int), true) else some (0, true) else some (0, false)
set_option maxHeartbeats 8000000 in
set_option maxRecDepth 100000 in
theorem impl_CountSolutions.callsk (k j : Nat) (A0_0 : Option Addr) (c0_0 : Nat) (l0_0 : List Int) (a0_1 : Bool) (a1 : Int) (r1 : Int) (r2 : Bool) (w : World) (hr0_0 : Kd.C (Kd.int .i64) w A0_0 l0_0.length l0_0) (hc0_0 : l0_0.length ≤ c0_0) (h : impl_CountSolutions.fk k j l0_0 a0_1 a1 = some (r1, r2)) :
    Calls Try.prog 67 #[.agg #[.slice A0_0 l0_0.length c0_0, .bool a0_1], .int .i64 a1] w fun e w' => e = .returned (.tuple #[.int .i64 r1, .bool r2]) ∧ Below w.heap.size w w' := by
  have hu28 := Try.underlying28
  unfold impl_CountSolutions.fk at h
  obtain ⟨t, hg, h⟩ := Option.bind_eq_some_iff.mp h
  have HGG := Aside0.mk (fun (W : World) (A1_ : Option Addr) (c1_ : Nat) (hB : Below w.heap.size w W) (hr1_ : Kd.C (Kd.int .i64) W A1_ ([a1] : List Int).length [a1]) (hc1_ : ([a1] : List Int).length ≤ c1_) => impl_isSet.calls j A0_0 c0_0 l0_0 a0_1 A1_ c1_ [a1] t W (Kd.C_below hr0_0 hB) hc0_0 hr1_ hc1_ hg)
  have hbx := blk_new w (.cells #[.slice A0_0 l0_0.length c0_0, .bool a0_1] 28)
  have HB := Aside0.mk (below_alloc (Below.refl w.heap.size w) (.cells #[.slice A0_0 l0_0.length c0_0, .bool a0_1] 28))
  have HBX := Aside0.mk (fun (W : World) (hB : Below (w.alloc (.cells #[.slice A0_0 l0_0.length c0_0, .bool a0_1] 28)).heap.size (w.alloc (.cells #[.slice A0_0 l0_0.length c0_0, .bool a0_1] 28)) W) => blk_below hbx hB)
  clear hg
  have hzb0 : (w.alloc (.cells #[.slice A0_0 l0_0.length c0_0, .bool a0_1] 28)).cell? ⟨w.heap.size, 0, none⟩ = some (.slice A0_0 l0_0.length c0_0) := (blk_cell hbx 0).trans rfl
  clear hbx
  cases t with
  | false =>
    rw [if_neg (by simp)] at h
    injection h with h
    injection h with e1 e2
    subst e1 e2
    go_enter Try.func67, Try.ntmps67
    go_wp2_with (first
      | ((with_reducible refine gate_dst (N := 11) rfl ?_); refine Kd.R_lit (Kd.int .i64) _ 3 ?hg (N := 11) ?hd (xs := ([a1] : List Int)) (inner := [.int .i64 a1]) (ok := fun _ => True) (okp := fun _ => True) ?hr ?hp (fun _ hk => hk) trivial (Below.refl _ _) (Nat.le_refl _) (by simp) ?_; (case hd => rfl); (case hg => rfl); (case hr => first | (go_simp; done) | (go_simp; rfl)); (case hp => exact (Reps.one (show Kd.M (Kd.int .i64) _ _ _ a1 [.int .i64 a1] from rfl) (Reps.none _ _))); intro v1 w1 ho hb hg_ hnew_; clear hg_ hnew_; obtain ⟨Al, cl, rfl⟩ := Kd.R_slice ho; have HO1 := Aside0.mk ho; have HB1 := Aside0.mk (below_step HB.out hb); have HBK1 := Aside0.mk (HBX.out w1 hb); clear ho hb HB)
      | (go_at_call 86; refine (HGG.out _ Al cl HB1.out (Kd.R_reads' HO1.out).2.2 (Kd.R_reads' HO1.out).2.1).mono ?_; rintro e w2 ⟨rfl, hb2⟩; have HB2 := Aside0.mk (below_step HB1.out hb2); have HBK2 := Aside0.mk (blk_below HBK1.out hb2); have hz0 : w2.cell? ⟨w.heap.size, 0, none⟩ = some (.slice A0_0 l0_0.length c0_0) := (blk_cell HBK2.out 0).trans rfl; have hz1 : w2.cell? ⟨w.heap.size, 1, none⟩ = some (.bool a0_1) := (blk_cell HBK2.out 1).trans rfl; clear hb2 HB1 HBK1 HO1))
    go_ret2
    exact ⟨by first | rfl | (simp; done), HB2.out⟩
  | true =>
    rw [if_pos rfl] at h
    obtain ⟨E, h1, h⟩ := Option.bind_eq_some_iff.mp h
    obtain ⟨⟨ps, qs, is⟩, h2, h⟩ := Option.bind_eq_some_iff.mp h
    obtain ⟨⟨rl, rp⟩, h3, h⟩ := Option.bind_eq_some_iff.mp h
    obtain ⟨r, h4, h⟩ := Option.bind_eq_some_iff.mp h
    have HC1 := Aside0.mk (fun (W : World) (hB : Below w.heap.size w W) => impl_solverOf.calls k A0_0 c0_0 l0_0 a0_1 E ps qs is W (Kd.C_below hr0_0 hB) hc0_0 h1 h2)
    have HC2 := Aside0.mk (fun (W : World) (base g : Nat) (hS : SVx base g ps qs is W) => impl_solver_solve.calls k base g ps qs is a1 rl rp r W hS h3 h4)
    clear h1 h2 h3 h4
    dsimp only at h
    have hsh : shl .i64 1 (qs.length : Int) = wrap64 (2 ^ min qs.length 64) := by simp [shl, i64_w]; rfl
    rw [hsh] at h
    cases hq : (rl == 0) with
    | true =>
      rw [hq] at HC2
      rw [hq, if_pos rfl] at h
      injection h with h
      injection h with e1 e2
      subst e1 e2
      clear hsh hq
      go_enter Try.func67, Try.ntmps67
      go_wp2_with (first
        | ((with_reducible refine gate_dst (N := 11) rfl ?_); refine Kd.R_lit (Kd.int .i64) _ 3 ?hg (N := 11) ?hd (xs := ([a1] : List Int)) (inner := [.int .i64 a1]) (ok := fun _ => True) (okp := fun _ => True) ?hr ?hp (fun _ hk => hk) trivial (Below.refl _ _) (Nat.le_refl _) (by simp) ?_; (case hd => rfl); (case hg => rfl); (case hr => first | (go_simp; done) | (go_simp; rfl)); (case hp => exact (Reps.one (show Kd.M (Kd.int .i64) _ _ _ a1 [.int .i64 a1] from rfl) (Reps.none _ _))); intro v1 w1 ho hb hg_ hnew_; clear hg_ hnew_; obtain ⟨Al, cl, rfl⟩ := Kd.R_slice ho; have HO1 := Aside0.mk ho; have HB1 := Aside0.mk (below_step HB.out hb); have HBK1 := Aside0.mk (HBX.out w1 hb); clear ho hb HB)
        | (go_at_call 86; refine (HGG.out _ Al cl HB1.out (Kd.R_reads' HO1.out).2.2 (Kd.R_reads' HO1.out).2.1).mono ?_; rintro e w2 ⟨rfl, hb2⟩; have HB2 := Aside0.mk (below_step HB1.out hb2); have HBK2 := Aside0.mk (blk_below HBK1.out hb2); have hz0 : w2.cell? ⟨w.heap.size, 0, none⟩ = some (.slice A0_0 l0_0.length c0_0) := (blk_cell HBK2.out 0).trans rfl; have hz1 : w2.cell? ⟨w.heap.size, 1, none⟩ = some (.bool a0_1) := (blk_cell HBK2.out 1).trans rfl; clear hb2 HB1 HBK1 HO1)
        | (go_at_call 87; refine (HC1.out _ HB2.out).mono ?_; rintro e w3 ⟨g, rfl, hS3, hb3⟩; have HS3 := Aside0.mk hS3; have HB3 := Aside0.mk (below_step HB2.out hb3); have HQ3 : ∃ Aq cq, w3.cell? ⟨g, 1, none⟩ = some (.slice Aq qs.length cq) := (by obtain ⟨vp, vq, vi, hS⟩ := hS3; obtain ⟨Aq, cq, rfl⟩ := Kd.R_slice hS.Q; exact ⟨Aq, cq, (blk_cell hS.b 1).trans rfl⟩); obtain ⟨Aq, cq, hzq⟩ := HQ3; clear hb3 hS3 HB2 hz0 hz1)
        | (go_at_call 76; refine (HC2.out _ _ g HS3.out).mono ?_; rintro e w4 ⟨rfl, hb4⟩; have HB4 := Aside0.mk (below_step HB3.out hb4); have hzq4 := (hb4.cell (World.block_lt_of_cell? w3 _ hzq)).trans hzq; clear hb4 HS3 HB3 hzq))
      go_ret2
      exact ⟨by first | rfl | (simp; done), HB4.out⟩
    | false =>
      rw [hq] at HC2
      rw [hq, if_neg (by simp)] at h
      injection h with h
      injection h with e1 e2
      subst e1 e2
      clear hsh hq
      go_enter Try.func67, Try.ntmps67
      go_wp2_with (first
        | ((with_reducible refine gate_dst (N := 11) rfl ?_); refine Kd.R_lit (Kd.int .i64) _ 3 ?hg (N := 11) ?hd (xs := ([a1] : List Int)) (inner := [.int .i64 a1]) (ok := fun _ => True) (okp := fun _ => True) ?hr ?hp (fun _ hk => hk) trivial (Below.refl _ _) (Nat.le_refl _) (by simp) ?_; (case hd => rfl); (case hg => rfl); (case hr => first | (go_simp; done) | (go_simp; rfl)); (case hp => exact (Reps.one (show Kd.M (Kd.int .i64) _ _ _ a1 [.int .i64 a1] from rfl) (Reps.none _ _))); intro v1 w1 ho hb hg_ hnew_; clear hg_ hnew_; obtain ⟨Al, cl, rfl⟩ := Kd.R_slice ho; have HO1 := Aside0.mk ho; have HB1 := Aside0.mk (below_step HB.out hb); have HBK1 := Aside0.mk (HBX.out w1 hb); clear ho hb HB)
        | (go_at_call 86; refine (HGG.out _ Al cl HB1.out (Kd.R_reads' HO1.out).2.2 (Kd.R_reads' HO1.out).2.1).mono ?_; rintro e w2 ⟨rfl, hb2⟩; have HB2 := Aside0.mk (below_step HB1.out hb2); have HBK2 := Aside0.mk (blk_below HBK1.out hb2); have hz0 : w2.cell? ⟨w.heap.size, 0, none⟩ = some (.slice A0_0 l0_0.length c0_0) := (blk_cell HBK2.out 0).trans rfl; have hz1 : w2.cell? ⟨w.heap.size, 1, none⟩ = some (.bool a0_1) := (blk_cell HBK2.out 1).trans rfl; clear hb2 HB1 HBK1 HO1)
        | (go_at_call 87; refine (HC1.out _ HB2.out).mono ?_; rintro e w3 ⟨g, rfl, hS3, hb3⟩; have HS3 := Aside0.mk hS3; have HB3 := Aside0.mk (below_step HB2.out hb3); have HQ3 : ∃ Aq cq, w3.cell? ⟨g, 1, none⟩ = some (.slice Aq qs.length cq) := (by obtain ⟨vp, vq, vi, hS⟩ := hS3; obtain ⟨Aq, cq, rfl⟩ := Kd.R_slice hS.Q; exact ⟨Aq, cq, (blk_cell hS.b 1).trans rfl⟩); obtain ⟨Aq, cq, hzq⟩ := HQ3; clear hb3 hS3 HB2 hz0 hz1)
        | (go_at_call 76; refine (HC2.out _ _ g HS3.out).mono ?_; rintro e w4 ⟨rfl, hb4⟩; have HB4 := Aside0.mk (below_step HB3.out hb4); clear hb4 HS3 HB3 hzq))
      go_ret2
      exact ⟨by first | rfl | (simp; done), HB4.out⟩
def impl_CountSolutions.f (k : Nat) (l0_0 : List Int) (a0_1 : Bool) (a1 : Int) : Option (Int × Bool) := impl_CountSolutions.fk 1000 k l0_0 a0_1 a1
theorem impl_CountSolutions.calls (k : Nat) (A0_0 : Option Addr) (c0_0 : Nat) (l0_0 : List Int) (a0_1 : Bool) (a1 : Int) (r1 : Int) (r2 : Bool) (w : World) (hr0_0 : Kd.C (Kd.int .i64) w A0_0 l0_0.length l0_0) (hc0_0 : l0_0.length ≤ c0_0) (h : impl_CountSolutions.f k l0_0 a0_1 a1 = some (r1, r2)) :
    Calls Try.prog 67 #[.agg #[.slice A0_0 l0_0.length c0_0, .bool a0_1], .int .i64 a1] w fun e w' => e = .returned (.tuple #[.int .i64 r1, .bool r2]) ∧ Below w.heap.size w w' := impl_CountSolutions.callsk 1000 k A0_0 c0_0 l0_0 a0_1 a1 r1 r2 w hr0_0 hc0_0 h
end
end Go.Proofs.Ytoobofnpdiapgaa.P
