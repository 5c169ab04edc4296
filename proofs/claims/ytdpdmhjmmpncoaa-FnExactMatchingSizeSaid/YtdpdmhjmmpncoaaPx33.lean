-- Written by a program of this session (wip/mp.py), which runs the kit's print with contracts of the session's own.
import Derived.Test.YtdpdmhjmmpncoaaPx0
import Derived.Test.YtdpdmhjmmpncoaaPx1
import Derived.Test.YtdpdmhjmmpncoaaPx32
namespace Go.Proofs.Ytdpdmhjmmpncoaa.P
open Go.RowKit Go.Proofs.YtdpdmhjmmpncoaaW.PrintWords Go.Proofs.YtdpdmhjmmpncoaaW.PrintLast Go.Proofs.YtdpdmhjmmpncoaaW.PrintMore
attribute [local go_sem] max2_int min2_int max_two min_two max_three min_three max_four min_four   -- for this text's walks alone
set_option linter.unusedVariables false
set_option linter.unusedSimpArgs false

/-! ### impl_Graph_reached: function 74 -/
mutual
def impl_Graph_reached.l0 : Nat → List Int → List Int → Int → Int → Int → List Int → Bool → Option (List Int × List Int)
 | 0, _, _, _, _, _, _, _ => none
 | k + 1, x4, x5, x6, x19, x20, x585000, x585001 => if x20 < x19 then ((impl_has.f x6 x20).bind fun t594 => (if t594 = true then (impl_Graph_reached.l0 k x4 x5 x6 x19 (wrap64 (x20 + 1)) x585000 x585001) else (if 0 ≤ x20 then (impl_Graph_reached.l1 k x4 x5 (Go.bits .or .i64 x6 (shl .i64 1 x20)) (([x20] : List Int)) x19 x20 x585000 x585001) else (none)))) else (some (x4, x5))
def impl_Graph_reached.l1 : Nat → List Int → List Int → Int → List Int → Int → Int → List Int → Bool → Option (List Int × List Int)
 | 0, _, _, _, _, _, _, _, _ => none
 | k + 1, x4, x5, x6, x8, x19, x20, x585000, x585001 => if (x8.length : Int) > 0 then (if 0 < (x8.length : Int) then (if x4.length < 17592186044416 then (impl_Graph_reached.l2 k (x4 ++ [rd x8 0]) x5 x6 x8 (rd x8 0) x19 x20 (x585000.length : Int) 0 x585000 x585001) else (none)) else (none)) else (impl_Graph_reached.l0 k x4 x5 x6 x19 (wrap64 (x20 + 1)) x585000 x585001)
def impl_Graph_reached.l2 : Nat → List Int → List Int → Int → List Int → Int → Int → Int → Int → Int → List Int → Bool → Option (List Int × List Int)
 | 0, _, _, _, _, _, _, _, _, _, _, _ => none
 | k + 1, x4, x5, x6, x8, x9, x19, x20, x46, x47, x585000, x585001 => if x47 < x46 then (if 0 ≤ x9 then (if x9 < (x585000.length : Int) then ((impl_has.f (rd x585000 x9) x47).bind fun t606 => (if t606 = true then ((impl_has.f x6 x47).bind fun t607 => (if t607 = true then (impl_Graph_reached.l2 k x4 x5 x6 x8 x9 x19 x20 x46 (wrap64 (x47 + 1)) x585000 x585001) else (if 0 ≤ x47 then (if x47 < (x5.length : Int) then (if x8.length < 17592186044416 then (impl_Graph_reached.l2 k x4 (x5.set (x47 : Int).toNat x9) (Go.bits .or .i64 x6 (shl .i64 1 x47)) (x8 ++ [x47]) x9 x19 x20 x46 (wrap64 (x47 + 1)) x585000 x585001) else (none)) else (none)) else (none)))) else (impl_Graph_reached.l2 k x4 x5 x6 x8 x9 x19 x20 x46 (wrap64 (x47 + 1)) x585000 x585001))) else (none)) else (none)) else (if 1 ≤ (x8.length : Int) then (impl_Graph_reached.l1 k x4 x5 x6 (x8.drop (1 : Int).toNat) x19 x20 x585000 x585001) else (none))
end
def impl_Graph_reached.f (k : Nat) (l0_0 : List Int) (a0_1 : Bool) : Option (List Int × List Int) := (slices_Repeat_int_int.f (([(-1)] : List Int)) (l0_0.length : Int)).bind fun t591 => (impl_Graph_reached.l0 k (([] : List Int)) t591 0 (l0_0.length : Int) 0 l0_0 a0_1)
theorem impl_Graph_reached.mono_l : ∀ k, (∀ y0 y1 y2 y3 y4 y5 y6, LeO (impl_Graph_reached.l0 k y0 y1 y2 y3 y4 y5 y6) (impl_Graph_reached.l0 (k + 1) y0 y1 y2 y3 y4 y5 y6)) ∧ (∀ y0 y1 y2 y3 y4 y5 y6 y7, LeO (impl_Graph_reached.l1 k y0 y1 y2 y3 y4 y5 y6 y7) (impl_Graph_reached.l1 (k + 1) y0 y1 y2 y3 y4 y5 y6 y7)) ∧ (∀ y0 y1 y2 y3 y4 y5 y6 y7 y8 y9 y10, LeO (impl_Graph_reached.l2 k y0 y1 y2 y3 y4 y5 y6 y7 y8 y9 y10) (impl_Graph_reached.l2 (k + 1) y0 y1 y2 y3 y4 y5 y6 y7 y8 y9 y10))
 | 0 => ⟨fun _ _ _ _ _ _ _ r h => by simp [impl_Graph_reached.l0] at h, fun _ _ _ _ _ _ _ _ r h => by simp [impl_Graph_reached.l1] at h, fun _ _ _ _ _ _ _ _ _ _ _ r h => by simp [impl_Graph_reached.l2] at h⟩
 | k + 1 => by
  obtain ⟨ih0, ih1, ih2⟩ := impl_Graph_reached.mono_l k
  refine ⟨?_, ?_, ?_⟩
  ·intro y0 y1 y2 y3 y4 y5 y6
   unfold impl_Graph_reached.l0
   repeat' first
   | (with_reducible exact ih0 _ _ _ _ _ _ _)
   | (with_reducible exact ih1 _ _ _ _ _ _ _ _)
   | (with_reducible exact ih2 _ _ _ _ _ _ _ _ _ _ _)
   | (with_reducible exact LeO.refl _)
   | (with_reducible exact LeO.none _)
   | (with_reducible refine LeO.ite ?_ ?_)
   | (with_reducible refine LeO.bind ?_ (fun _ => ?_))
   | exact ih0 _ _ _ _ _ _ _
   | exact ih1 _ _ _ _ _ _ _ _
   | exact ih2 _ _ _ _ _ _ _ _ _ _ _
   | exact LeO.none _
   | refine LeO.ite ?_ ?_
   | refine LeO.bind ?_ (fun _ => ?_)
  ·intro y0 y1 y2 y3 y4 y5 y6 y7
   unfold impl_Graph_reached.l1
   repeat' first
   | (with_reducible exact ih0 _ _ _ _ _ _ _)
   | (with_reducible exact ih1 _ _ _ _ _ _ _ _)
   | (with_reducible exact ih2 _ _ _ _ _ _ _ _ _ _ _)
   | (with_reducible exact LeO.refl _)
   | (with_reducible exact LeO.none _)
   | (with_reducible refine LeO.ite ?_ ?_)
   | (with_reducible refine LeO.bind ?_ (fun _ => ?_))
   | exact ih0 _ _ _ _ _ _ _
   | exact ih1 _ _ _ _ _ _ _ _
   | exact ih2 _ _ _ _ _ _ _ _ _ _ _
   | exact LeO.none _
   | refine LeO.ite ?_ ?_
   | refine LeO.bind ?_ (fun _ => ?_)
  ·intro y0 y1 y2 y3 y4 y5 y6 y7 y8 y9 y10
   unfold impl_Graph_reached.l2
   repeat' first
   | (with_reducible exact ih0 _ _ _ _ _ _ _)
   | (with_reducible exact ih1 _ _ _ _ _ _ _ _)
   | (with_reducible exact ih2 _ _ _ _ _ _ _ _ _ _ _)
   | (with_reducible exact LeO.refl _)
   | (with_reducible exact LeO.none _)
   | (with_reducible refine LeO.ite ?_ ?_)
   | (with_reducible refine LeO.bind ?_ (fun _ => ?_))
   | exact ih0 _ _ _ _ _ _ _
   | exact ih1 _ _ _ _ _ _ _ _
   | exact ih2 _ _ _ _ _ _ _ _ _ _ _
   | exact LeO.none _
   | refine LeO.ite ?_ ?_
   | refine LeO.bind ?_ (fun _ => ?_)
theorem impl_Graph_reached.mono : ∀ a0 a1 k, LeO (impl_Graph_reached.f k a0 a1) (impl_Graph_reached.f (k + 1) a0 a1) := by
 intro a0 a1 k
 obtain ⟨ih0, ih1, ih2⟩ := impl_Graph_reached.mono_l k
 unfold impl_Graph_reached.f
 repeat' first
   | (with_reducible exact ih0 _ _ _ _ _ _ _)
   | (with_reducible exact ih1 _ _ _ _ _ _ _ _)
   | (with_reducible exact ih2 _ _ _ _ _ _ _ _ _ _ _)
   | (with_reducible exact LeO.refl _)
   | (with_reducible exact LeO.none _)
   | (with_reducible refine LeO.ite ?_ ?_)
   | (with_reducible refine LeO.bind ?_ (fun _ => ?_))
   | exact ih0 _ _ _ _ _ _ _
   | exact ih1 _ _ _ _ _ _ _ _
   | exact ih2 _ _ _ _ _ _ _ _ _ _ _
   | exact LeO.none _
   | refine LeO.ite ?_ ?_
   | refine LeO.bind ?_ (fun _ => ?_)
set_option maxHeartbeats 8000000 in
set_option maxRecDepth 100000 in
theorem impl_Graph_reached.calls (k : Nat) (A0_0 : Option Addr) (c0_0 : Nat) (l0_0 : List Int) (a0_1 : Bool) (r1 : List Int) (r2 : List Int) (w : World) (hr0_0 : Kd.C (Kd.int .i64) w A0_0 l0_0.length l0_0) (hc0_0 : l0_0.length ≤ c0_0) (h : impl_Graph_reached.f k l0_0 a0_1 = some (r1, r2)) :
  Calls Try.prog 74 #[.agg #[.slice A0_0 l0_0.length c0_0, .bool a0_1]] w fun e w' => ∃ v0_ v1_ : Value, e = .returned (.tuple #[v0_, v1_]) ∧ Kd.R (Kd.int .i64) 3 w' w.heap.size (fun k_ => some k_ ≠ (v1_ : Value).ownBlock) v0_ r1 ∧ Kd.R (Kd.int .i64) 3 w' w.heap.size (fun k_ => some k_ ≠ (v0_ : Value).ownBlock) v1_ r2 ∧ Below w.heap.size w w' := by
 have hu28 := Try.underlying28
 have HR0_0 := Aside0.mk hr0_0
 have HC0_0 := Aside0.mk hc0_0
 clear hr0_0 hc0_0
 have HB := Aside0.mk (Below.refl w.heap.size w)
 have H : ((slices_Repeat_int_int.f (([(-1)] : List Int)) (l0_0.length : Int)).bind fun t591 => (impl_Graph_reached.l0 k (([] : List Int)) t591 0 (l0_0.length : Int) 0 l0_0 a0_1)) = some (r1, r2) := h
 clear h
 obtain ⟨y585, hy585⟩ : ∃ y_ : List Int, y_ = (([] : List Int)) := ⟨_, rfl⟩
 replace H : ((slices_Repeat_int_int.f (([(-1)] : List Int)) (l0_0.length : Int)).bind fun t591 => (impl_Graph_reached.l0 k y585 t591 0 (l0_0.length : Int) 0 l0_0 a0_1)) = some (r1, r2) := by first | (rw [hy585]; with_reducible exact H) | (have H2_ := (Option.bind_some _ _).symm.trans H; rw [hy585]; with_reducible exact H2_) | (have H2_ := (Option.bind_some _ _).symm.trans H; with_reducible exact H2_) | with_reducible exact H | (rw [hy585]; exact H) | exact H
 have Ny585 := Aside0.mk hy585
 clear hy585
 obtain ⟨y588, hy588⟩ : ∃ y_ : List Int, y_ = (([(-1)] : List Int)) := ⟨_, rfl⟩
 replace H : ((slices_Repeat_int_int.f y588 (l0_0.length : Int)).bind fun t591 => (impl_Graph_reached.l0 k y585 t591 0 (l0_0.length : Int) 0 l0_0 a0_1)) = some (r1, r2) := by first | (rw [hy588]; with_reducible exact H) | (have H2_ := (Option.bind_some _ _).symm.trans H; rw [hy588]; with_reducible exact H2_) | (have H2_ := (Option.bind_some _ _).symm.trans H; with_reducible exact H2_) | with_reducible exact H | (rw [hy588]; exact H) | exact H
 have Ny588 := Aside0.mk hy588
 clear hy588
 replace H := Option.bind_eq_some_iff.mp H
 obtain ⟨t591, A20, H⟩ := H
 replace H : (impl_Graph_reached.l0 k y585 t591 0 (l0_0.length : Int) 0 l0_0 a0_1) = some (r1, r2) := H
 have A2 := Aside0.mk A20
 clear A20
 have H' := Aside0.mk H
 clear H
 go_enter Try.func74, Try.ntmps74
 go_wp2_with (first | ((with_reducible refine gate_dst (N := 1) rfl ?_); refine box_event ?hg (N := 1) ?hd (cs := #[.slice A0_0 l0_0.length c0_0, .bool a0_1]) (t := 28) ?hr ?_; (case hd => rfl); (case hg => rfl); (case hr => first | (go_simp; done) | (go_simp; rfl)); intro gb584 hg w3 hbox hb; have n0_ := Aside0.mk (below_step (by repeat (first | (with_reducible first | exact HB.out | apply below_alloc | apply pw_below_drewN | apply below_drew1) | exact HB.out)) hb); have n1_ := Aside0.mk (hbox); have n2_ := Aside0.mk ((by rw [hg]; exact (below_size (by repeat (first | (with_reducible first | exact HB.out | apply below_alloc | apply pw_below_drewN | apply below_drew1) | exact HB.out))) : w.heap.size ≤ gb584)); have n3_ := Aside0.mk ((by rw [hg]; exact (below_size (by repeat (first | (with_reducible first | exact HB.out | apply below_alloc | apply pw_below_drewN | apply below_drew1) | exact HB.out))) : w.heap.size ≤ gb584)); clear HB; have HB := n0_; have BK584 := n1_; have GW584 := n2_; have GE584 := n3_; clear n0_ n1_ n2_ n3_; clear hb hbox hg) | ((with_reducible refine gate_dst (N := 11) rfl ?_); refine Kd.R_lit (Kd.int .i64) _ 3 ?hg (N := 11) ?hd (xs := ([] : List Int)) (inner := []) (ok := fun _ => True) (okp := fun _ => True) ?hr ?hp (fun _ hk => hk) trivial (Below.refl _ _) (Nat.le_refl _) (by simp) ?_; (case hd => rfl); (case hg => rfl); (case hr => first | (go_simp; done) | (go_simp; rfl)); (case hp => exact (Reps.none _ _)); intro v586 w4 ho5 hb hg_ hnew_; clear hg_ hnew_; (first | rw [← Ny585.out] at ho5 | (simp only [Int.reduceToNat] at ho5; rw [← Ny585.out] at ho5)); have n0_ := Aside0.mk (Kd.R_lower ho5 (below_size (by repeat (first | (with_reducible first | exact HB.out | apply below_alloc | apply pw_below_drewN | apply below_drew1 | refine below_set ?_ GE584.out) | exact HB.out)))); have n1_ := Aside0.mk (blk_below (g := gb584) (o := .cells #[.slice A0_0 l0_0.length c0_0, .bool a0_1] 28 (0, 0)) (by (with_reducible repeat (first | refine blk_drewN ?_ _ | refine blk_drew ?_ | refine blk_alloc ?_ _)); exact BK584.out) hb); have n2_ := Aside0.mk (below_step (by repeat (first | (with_reducible first | exact HB.out | apply below_alloc | apply pw_below_drewN | apply below_drew1 | refine below_set ?_ GE584.out) | exact HB.out)) hb); clear BK584; clear HB; have HO587 := n0_; have BK584 := n1_; have HB := n2_; clear n0_ n1_ n2_; clear hb ho5) | ((with_reducible refine gate_dst (N := 12) rfl ?_); refine Kd.R_lit (Kd.int .i64) _ 3 ?hg (N := 12) ?hd (xs := ([(-1)] : List Int)) (inner := [.int .i64 (-1)]) (ok := fun _ => True) (okp := fun _ => True) ?hr ?hp (fun _ hk => hk) trivial (Below.refl _ _) (Nat.le_refl _) (by simp) ?_; (case hd => rfl); (case hg => rfl); (case hr => first | (go_simp; done) | (go_simp; rfl)); (case hp => exact (Reps.one (show Kd.M (Kd.int .i64) _ _ _ (-1) [.int .i64 (-1)] from rfl) (Reps.none _ _))); intro v589 w6 ho7 hb hg_ hnew_; clear hg_ hnew_; (first | rw [← Ny588.out] at ho7 | (simp only [Int.reduceToNat] at ho7; rw [← Ny588.out] at ho7)); have n0_ := Aside0.mk (Kd.R_elder' (by (with_reducible repeat (first | apply Kd.R_alloc | apply Kd.R_drewN | apply Kd.R_drew)); exact HO587.out) (Kd.R_base ho7) hb); have n1_ := Aside0.mk (Kd.R_lower (Kd.R_new' ho7 (Kd.R_lt (by (with_reducible repeat (first | apply Kd.R_alloc | apply Kd.R_drewN | apply Kd.R_drew)); exact HO587.out))) (below_size (by repeat (first | (with_reducible first | exact HB.out | apply below_alloc | apply pw_below_drewN | apply below_drew1 | refine below_set ?_ GE584.out) | exact HB.out)))); have n2_ := Aside0.mk (blk_below (g := gb584) (o := .cells #[.slice A0_0 l0_0.length c0_0, .bool a0_1] 28 (0, 0)) (by (with_reducible repeat (first | refine blk_drewN ?_ _ | refine blk_drew ?_ | refine blk_alloc ?_ _)); exact BK584.out) hb); have n3_ := Aside0.mk (below_step (by repeat (first | (with_reducible first | exact HB.out | apply below_alloc | apply pw_below_drewN | apply below_drew1 | refine below_set ?_ GE584.out) | exact HB.out)) hb); clear HO587; clear BK584; clear HB; have HO587 := n0_; have HO590 := n1_; have BK584 := n2_; have HB := n3_; clear n0_ n1_ n2_ n3_; clear hb ho7; have hcz8_0 : w6.cell? ⟨gb584, 0, none⟩ = some (.slice A0_0 l0_0.length c0_0) := (blk_cell BK584.out 0).trans rfl; have hcz8_1 : w6.cell? ⟨gb584, 1, none⟩ = some (.bool a0_1) := (blk_cell BK584.out 1).trans rfl; have hfz8_0 := blk_frozen BK584.out 0; have hfz8_1 := blk_frozen BK584.out 1; obtain ⟨Ao9, co9, eo9⟩ := Kd.R_slice HO590.out; subst eo9) | ((with_reducible refine gate_callee (f := 86) rfl ?_); refine goesL_ (some 16) rfl rfl Try.func86 (by kernel_rfl) rfl #[.slice Ao9 y588.length co9, .int .i64 (l0_0.length : Int)] rfl (by (try simp only [List.map_toArray, List.map_cons, List.map_nil]); first | done | rfl | (simp only [List.length_drop, List.length_take]; rfl)) ?_; (with_reducible refine (slices_Repeat_int_int.calls _ _ y588 (l0_0.length : Int) t591 _ ?side1 ?side2 A2.out).mono ?_); (case side1 => repeat (first | exact (Kd.R_reads' HO590.out).2.2 | (with_reducible refine Kd.C_alloc ?_ _) | (with_reducible refine Kd.C_drewN ?_ _) | (with_reducible refine Kd.C_drew ?_))); (case side2 => exact (Kd.R_reads' HO590.out).2.1); rintro e w10 ⟨v592, rfl, ho0, hb⟩; refine ⟨_, rfl, ?_⟩; have n0_ := Aside0.mk (Kd.R_elder' (by (with_reducible repeat (first | apply Kd.R_alloc | apply Kd.R_drewN | apply Kd.R_drew)); exact HO587.out) (Kd.R_base ho0) hb); have n1_ := Aside0.mk (Kd.R_elder' (by (with_reducible repeat (first | apply Kd.R_alloc | apply Kd.R_drewN | apply Kd.R_drew)); exact HO590.out) (Kd.R_base ho0) hb); have n2_ := Aside0.mk (Kd.R_lower (Kd.R_new' (Kd.R_new' ho0 (Kd.R_lt (by (with_reducible repeat (first | apply Kd.R_alloc | apply Kd.R_drewN | apply Kd.R_drew)); exact HO587.out))) (Kd.R_lt (by (with_reducible repeat (first | apply Kd.R_alloc | apply Kd.R_drewN | apply Kd.R_drew)); exact HO590.out))) (below_size (by repeat (first | (with_reducible first | exact HB.out | apply below_alloc | apply pw_below_drewN | apply below_drew1 | refine below_set ?_ GE584.out) | exact HB.out)))); have n3_ := Aside0.mk (blk_below (g := gb584) (o := .cells #[.slice A0_0 l0_0.length c0_0, .bool a0_1] 28 (0, 0)) (by (with_reducible repeat (first | refine blk_drewN ?_ _ | refine blk_drew ?_ | refine blk_alloc ?_ _)); exact BK584.out) hb); have n4_ := Aside0.mk (below_step (by repeat (first | (with_reducible first | exact HB.out | apply below_alloc | apply pw_below_drewN | apply below_drew1 | refine below_set ?_ GE584.out) | exact HB.out)) hb); clear HO587; clear HO590; clear BK584; clear HB; have HO587 := n0_; have HO590 := n1_; have HO593 := n2_; have BK584 := n3_; have HB := n4_; clear n0_ n1_ n2_ n3_ n4_; (try clear hb); (try clear hb2); (try clear hk); (try clear hi); (try clear ho0); have hcz11_0 : w10.cell? ⟨gb584, 0, none⟩ = some (.slice A0_0 l0_0.length c0_0) := (blk_cell BK584.out 0).trans rfl; have hcz11_1 : w10.cell? ⟨gb584, 1, none⟩ = some (.bool a0_1) := (blk_cell BK584.out 1).trans rfl; have hfz11_0 := blk_frozen BK584.out 0; have hfz11_1 := blk_frozen BK584.out 1))
 go_loopg [4, 6, 20] k (fun kq v4 v6 v20 w' => ∃ (x4_1 : List Int) (x5_1 : List Int) (x6_1 : Int) (x20_1 : Int), v6 = .int .i64 x6_1 ∧ v20 = .int .i64 x20_1 ∧ Aside0 (impl_Graph_reached.l0 kq x4_1 x5_1 x6_1 (l0_0.length : Int) x20_1 l0_0 a0_1 = some (r1, r2)) ∧ Aside0 (kq ≤ k) ∧ Aside0 (Kd.R (Kd.int .i64) 3 w' w.heap.size (fun k_ => some k_ ≠ (v592 : Value).ownBlock) v4 x4_1) ∧ Aside0 (Kd.R (Kd.int .i64) 3 w' w.heap.size (fun k_ => some k_ ≠ (v4 : Value).ownBlock) v592 x5_1) ∧ Aside0 (w'.heap[gb584]? = some (.cells #[(.slice A0_0 l0_0.length c0_0), .bool a0_1] 28 (0, 0))) ∧ Aside0 (Below w.heap.size w w'))
 case atStart => exact ⟨(y585), (t591), (0), (0), (by first | rfl | (simp; done) | (simp [*]; done)), (by first | rfl | (simp; done) | (simp [*]; done)), H', ⟨Nat.le_refl _⟩, ⟨by (with_reducible repeat (first | apply Kd.R_alloc | apply Kd.R_drewN | apply Kd.R_drew)); exact Kd.R_mono HO587.out (fun _ hk => hk.2)⟩, ⟨by (with_reducible repeat (first | apply Kd.R_alloc | apply Kd.R_drewN | apply Kd.R_drew)); exact Kd.R_mono HO593.out (fun _ hk => hk.1.2)⟩, ⟨by (with_reducible repeat (first | refine blk_drewN ?_ _ | refine blk_drew ?_ | refine blk_alloc ?_ _)); exact BK584.out⟩, ⟨by repeat (first | (with_reducible first | exact HB.out | apply below_alloc | apply pw_below_drewN | apply below_drew1 | refine below_set ?_ GE584.out) | exact HB.out)⟩⟩
 case round =>
  clear H'
  (try clear p2);(try clear c7);(try clear c8);(try clear hcz11_0);(try clear hcz11_1);(try clear hcz8_0);(try clear hcz8_1);(try clear hfz11_0);(try clear hfz11_1);(try clear hfz8_0);(try clear hfz8_1)
  obtain ⟨x4_1, x5_1, x6_1, x20_1, rfl, rfl, HA, HK1, HO_4, HO_5, BK584, HB⟩ := hrel
  cases gk with
  | zero => exact absurd HA.out (by simp [impl_Graph_reached.l0])
  | succ k1 =>
   have H := HA.out
   clear HA
   simp only [impl_Graph_reached.l0] at H
   by_cases c12 : x20_1 < (l0_0.length : Int)
   ·rw [if_pos c12] at H
    have c12b0 : decide (x20_1 < (l0_0.length : Int)) = true := decide_eq_true c12
    clear c12
    replace H := Option.bind_eq_some_iff.mp H
    obtain ⟨t594, A130, H⟩ := H
    replace H : (if t594 = true then (impl_Graph_reached.l0 k1 x4_1 x5_1 x6_1 (l0_0.length : Int) (wrap64 (x20_1 + 1)) l0_0 a0_1) else (if 0 ≤ x20_1 then (impl_Graph_reached.l1 k1 x4_1 x5_1 (Go.bits .or .i64 x6_1 (shl .i64 1 x20_1)) (([x20_1] : List Int)) (l0_0.length : Int) x20_1 l0_0 a0_1) else (none))) = some (r1, r2) := H
    have A13 := Aside0.mk A130
    clear A130
    by_cases c14 : t594 = true
    ·subst c14
     have H1 : (impl_Graph_reached.l0 k1 x4_1 x5_1 x6_1 (l0_0.length : Int) (wrap64 (x20_1 + 1)) l0_0 a0_1) = some (r1, r2) := by rw [if_pos rfl] at H; exact H
     clear H
     have H := H1
     clear H1
     have H' := Aside0.mk H
     clear H
     go_wp2_with (first | ((with_reducible refine gate_callee (f := 65) rfl ?_); refine goesL_ (some 25) rfl rfl Try.func65 (by kernel_rfl) rfl #[.int .i64 x6_1, .int .i64 x20_1] rfl (by (try simp only [List.map_toArray, List.map_cons, List.map_nil]); first | done | rfl | (simp only [List.length_drop, List.length_take]; rfl)) ?_; (with_reducible refine (impl_has.calls x6_1 x20_1 true _ A13.out).mono ?_); rintro e w' ⟨rfl, ⟨nd, rfl⟩⟩; refine ⟨_, rfl, ?_⟩))
     go_roundg k1
     case measure => have := HK1.out; omega
     case rel => exact ⟨(x4_1), (x5_1), (x6_1), (wrap64 (x20_1 + 1)), (by first | rfl | (simp; done) | (simp [*]; done)), (by first | rfl | (simp; done) | (simp [*]; done)), H', ⟨by have := HK1.out; omega⟩, ⟨by (with_reducible repeat (first | apply Kd.R_alloc | apply Kd.R_drewN | apply Kd.R_drew)); exact HO_4.out⟩, ⟨by (with_reducible repeat (first | apply Kd.R_alloc | apply Kd.R_drewN | apply Kd.R_drew)); exact HO_5.out⟩, ⟨by (with_reducible repeat (first | refine blk_drewN ?_ _ | refine blk_drew ?_ | refine blk_alloc ?_ _)); exact BK584.out⟩, ⟨by repeat (first | (with_reducible first | exact HB.out | apply below_alloc | apply pw_below_drewN | apply below_drew1 | refine below_set ?_ GE584.out) | exact HB.out)⟩⟩
    ·replace c14 := Bool.eq_false_iff.mpr c14
     subst c14
     have H1 : (if 0 ≤ x20_1 then (impl_Graph_reached.l1 k1 x4_1 x5_1 (Go.bits .or .i64 x6_1 (shl .i64 1 x20_1)) (([x20_1] : List Int)) (l0_0.length : Int) x20_1 l0_0 a0_1) else (none)) = some (r1, r2) := by rw [if_neg (show ¬ (false = true) by decide)] at H; exact H
     clear H
     have H := H1
     clear H1
     by_cases c15 : 0 ≤ x20_1
     ·rw [if_pos c15] at H
      have c15b0 := eq_true c15
      have c15b1 : decide (0 ≤ x20_1) = true := decide_eq_true c15
      clear c15
      obtain ⟨ji16, hji16⟩ : ∃ j_ : Int, (shl .i64 1 x20_1) = j_ := ⟨_, rfl⟩
      replace H : (impl_Graph_reached.l1 k1 x4_1 x5_1 (Go.bits .or .i64 x6_1 (ji16)) (([x20_1] : List Int)) (l0_0.length : Int) x20_1 l0_0 a0_1) = some (r1, r2) := by first | (rw [hji16] at H; exact H) | (simp only [hji16] at H ⊢; exact H)
      (try rw [hji16] at A13)
      have hji16_ : (IntKind.i64.wrap (1 * 2 ^ min x20_1.toNat 64)) = ji16 := hji16
      have hji16z : x20_1 ≤ 64 → (IntKind.i64.wrap (1 * 2 ^ x20_1.toNat)) = ji16 := shl_small hji16
      have hji16u : (IntKind.i64.wrap (2 ^ min x20_1.toNat 64)) = ji16 := by have h_ := hji16_; rw [Int.one_mul] at h_; exact h_
      have hji16v : x20_1 ≤ 64 → (IntKind.i64.wrap (2 ^ x20_1.toNat)) = ji16 := fun hle_ => by have h_ := hji16z hle_; rw [Int.one_mul] at h_; exact h_
      have hji16y : (wrap64 (1 * 2 ^ min x20_1.toNat 64)) = ji16 := (i64_w _).symm.trans hji16_
      have hji16x : x20_1 ≤ 64 → (wrap64 (1 * 2 ^ x20_1.toNat)) = ji16 := fun h_ => (i64_w _).symm.trans (hji16z h_)
      obtain ⟨y595, hy595⟩ : ∃ y_ : List Int, y_ = (([x20_1] : List Int)) := ⟨_, rfl⟩
      replace H : (impl_Graph_reached.l1 k1 x4_1 x5_1 (Go.bits .or .i64 x6_1 (ji16)) y595 (l0_0.length : Int) x20_1 l0_0 a0_1) = some (r1, r2) := by first | (rw [hy595]; with_reducible exact H) | (have H2_ := (Option.bind_some _ _).symm.trans H; rw [hy595]; with_reducible exact H2_) | (have H2_ := (Option.bind_some _ _).symm.trans H; with_reducible exact H2_) | with_reducible exact H | (rw [hy595]; exact H) | exact H
      have Ny595 := Aside0.mk hy595
      clear hy595
      have H' := Aside0.mk H
      clear H
      go_wp2_with (first | ((with_reducible refine gate_callee (f := 65) rfl ?_); refine goesL_ (some 25) rfl rfl Try.func65 (by kernel_rfl) rfl #[.int .i64 x6_1, .int .i64 x20_1] rfl (by (try simp only [List.map_toArray, List.map_cons, List.map_nil]); first | done | rfl | (simp only [List.length_drop, List.length_take]; rfl)) ?_; (with_reducible refine (impl_has.calls x6_1 x20_1 false _ A13.out).mono ?_); rintro e w' ⟨rfl, ⟨nd, rfl⟩⟩; refine ⟨_, rfl, ?_⟩) | ((with_reducible refine gate_dst (N := 31) rfl ?_); refine Kd.R_lit (Kd.int .i64) _ 3 ?hg (N := 31) ?hd (xs := ([x20_1] : List Int)) (inner := [.int .i64 x20_1]) (ok := fun _ => True) (okp := fun _ => True) ?hr ?hp (fun _ hk => hk) trivial (Below.refl _ _) (Nat.le_refl _) (by simp) ?_; (case hd => rfl); (case hg => rfl); (case hr => first | (go_simp; done) | (go_simp; rfl)); (case hp => exact (Reps.one (show Kd.M (Kd.int .i64) _ _ _ x20_1 [.int .i64 x20_1] from rfl) (Reps.none _ _))); intro v596 w17 ho18 hb hg_ hnew_; clear hg_ hnew_; (first | rw [← Ny595.out] at ho18 | (simp only [Int.reduceToNat] at ho18; rw [← Ny595.out] at ho18)); have n0_ := Aside0.mk (Kd.R_elder' (by (with_reducible repeat (first | apply Kd.R_alloc | apply Kd.R_drewN | apply Kd.R_drew)); exact HO_4.out) (Kd.R_base ho18) hb); have n1_ := Aside0.mk (Kd.R_elder' (by (with_reducible repeat (first | apply Kd.R_alloc | apply Kd.R_drewN | apply Kd.R_drew)); exact HO_5.out) (Kd.R_base ho18) hb); have n2_ := Aside0.mk (Kd.R_lower (Kd.R_new' (Kd.R_new' ho18 (Kd.R_lt (by (with_reducible repeat (first | apply Kd.R_alloc | apply Kd.R_drewN | apply Kd.R_drew)); exact HO_4.out))) (Kd.R_lt (by (with_reducible repeat (first | apply Kd.R_alloc | apply Kd.R_drewN | apply Kd.R_drew)); exact HO_5.out))) (below_size (by repeat (first | (with_reducible first | exact HB.out | apply below_alloc | apply pw_below_drewN | apply below_drew1 | refine below_set ?_ GE584.out) | exact HB.out)))); have n3_ := Aside0.mk (blk_below (g := gb584) (o := .cells #[.slice A0_0 l0_0.length c0_0, .bool a0_1] 28 (0, 0)) (by (with_reducible repeat (first | refine blk_drewN ?_ _ | refine blk_drew ?_ | refine blk_alloc ?_ _)); exact BK584.out) hb); have n4_ := Aside0.mk (below_step (by repeat (first | (with_reducible first | exact HB.out | apply below_alloc | apply pw_below_drewN | apply below_drew1 | refine below_set ?_ GE584.out) | exact HB.out)) hb); clear HO_4; clear HO_5; clear BK584; clear HB; have HO_4 := n0_; have HO_5 := n1_; have HO597 := n2_; have BK584 := n3_; have HB := n4_; clear n0_ n1_ n2_ n3_ n4_; clear hb ho18))
      go_loopg [4, 6, 8] k1 (fun kq v4 v6 v8 w' => ∃ (x4_2 : List Int) (x5_2 : List Int) (x6_2 : Int) (x8_2 : List Int), v6 = .int .i64 x6_2 ∧ Aside0 (impl_Graph_reached.l1 kq x4_2 x5_2 x6_2 x8_2 (l0_0.length : Int) x20_1 l0_0 a0_1 = some (r1, r2)) ∧ Aside0 (kq ≤ k1) ∧ Aside0 (Kd.R (Kd.int .i64) 3 w' w.heap.size (fun k_ => some k_ ≠ (v592 : Value).ownBlock ∧ some k_ ≠ (v8 : Value).ownBlock) v4 x4_2) ∧ Aside0 (Kd.R (Kd.int .i64) 3 w' w.heap.size (fun k_ => some k_ ≠ (v4 : Value).ownBlock ∧ some k_ ≠ (v8 : Value).ownBlock) v592 x5_2) ∧ Aside0 (Kd.Q (Kd.int .i64) 3 w' w.heap.size (fun k_ => some k_ ≠ (v4 : Value).ownBlock ∧ some k_ ≠ (v592 : Value).ownBlock) v8 x8_2) ∧ Aside0 (w'.heap[gb584]? = some (.cells #[(.slice A0_0 l0_0.length c0_0), .bool a0_1] 28 (0, 0))) ∧ Aside0 (Below w.heap.size w w'))
      case atStart => exact ⟨(x4_1), (x5_1), (Go.bits .or .i64 x6_1 (ji16)), (y595), (by first | rfl | (simp; done) | (simp only [← hji16] <;> (first | rfl | simp)) | (simp [*]; done)), H', ⟨Nat.le_refl _⟩, ⟨by (with_reducible repeat (first | apply Kd.R_alloc | apply Kd.R_drewN | apply Kd.R_drew)); exact HO_4.out⟩, ⟨by (with_reducible repeat (first | apply Kd.R_alloc | apply Kd.R_drewN | apply Kd.R_drew)); exact HO_5.out⟩, ⟨Kd.Q_of_R (by (with_reducible repeat (first | apply Kd.R_alloc | apply Kd.R_drewN | apply Kd.R_drew)); exact Kd.R_mono HO597.out (fun _ hk => ⟨hk.1.2, hk.2⟩))⟩, ⟨by (with_reducible repeat (first | refine blk_drewN ?_ _ | refine blk_drew ?_ | refine blk_alloc ?_ _)); exact BK584.out⟩, ⟨by repeat (first | (with_reducible first | exact HB.out | apply below_alloc | apply pw_below_drewN | apply below_drew1 | refine below_set ?_ GE584.out) | exact HB.out)⟩⟩
      case round =>
       clear H'
       (try clear c1);(try clear p2);(try clear c6);(try clear p6);(try clear c7);(try clear c8);(try clear c12);(try clear c12b0);(try clear c14);(try clear c15);(try clear c15b0);(try clear c15b1);(try clear hcz11_0);(try clear hcz11_1);(try clear hcz8_0);(try clear hcz8_1);(try clear hfz11_0);(try clear hfz11_1);(try clear hfz8_0);(try clear hfz8_1);(try clear p2)
       obtain ⟨x4_2, x5_2, x6_2, x8_2, rfl, HA, HK2, HO_4, HO_5, HO_8, BK584, HB⟩ := hrel
       cases gk with
       | zero => exact absurd HA.out (by simp [impl_Graph_reached.l1])
       | succ k2 =>
        have H := HA.out
        clear HA
        simp only [impl_Graph_reached.l1] at H
        by_cases c19 : (x8_2.length : Int) > 0
        ·rw [if_pos c19] at H
         have c19b0 : decide (0 < (x8_2.length : Int)) = true := decide_eq_true c19
         have c19b1 : decide (0 < x8_2.length) = true := decide_eq_true (by omega)
         clear c19
         by_cases c20 : 0 < (x8_2.length : Int)
         ·rw [if_pos c20] at H
          have c20b0 : decide (0 < (x8_2.length : Int)) = true := decide_eq_true c20
          have c20b1 : decide (0 < x8_2.length) = true := decide_eq_true (by omega)
          clear c20
          by_cases c21 : x4_2.length < 17592186044416
          ·rw [if_pos c21] at H
           have LMc21 := Aside0.mk c21
           clear c21
           obtain ⟨y599, hy599⟩ : ∃ y_ : List Int, y_ = (x4_2 ++ [rd x8_2 0]) := ⟨_, rfl⟩
           replace H : (impl_Graph_reached.l2 k2 y599 x5_2 x6_2 x8_2 (rd x8_2 0) (l0_0.length : Int) x20_1 (l0_0.length : Int) 0 l0_0 a0_1) = some (r1, r2) := by first | (rw [hy599]; with_reducible exact H) | (have H2_ := (Option.bind_some _ _).symm.trans H; rw [hy599]; with_reducible exact H2_) | (have H2_ := (Option.bind_some _ _).symm.trans H; with_reducible exact H2_) | with_reducible exact H | (rw [hy599]; exact H) | exact H
           have Ny599 := Aside0.mk hy599
           clear hy599
           have H' := Aside0.mk H
           clear H
           obtain ⟨Ao22, co22, eo22, _⟩ := Kd.Q_slice HO_8.out
           subst eo22
           have p598 : 0 ≤ (0 : Int) := (by omega)
           have q598 : 0 < (x8_2.length : Int) := of_decide_eq_true (by first | (with_reducible assumption) | assumption)
           obtain ⟨ad598, e598, hx598_0⟩ := Kd.at_int (Kd.Q_reads' HO_8.out).2.2 0 p598 q598
           cases e598
           have qi598 : (0 < x8_2.length) = True := eq_true (by omega)
           (try rw [show ((0 : Int)).toNat = 0 from rfl] at hx598_0)
           (try rw [Addr.add_zero'] at hx598_0)
           replace p598 := eq_true p598
           replace q598 := eq_true q598
           go_wp2_with (first | ((with_reducible refine gate_builtin (b := .append) (xs := #[.tmp 40, .tmp 42]) rfl ?_); at_builtin; refine Kd.R_append (Kd.int .i64) (w0 := w) w.heap.size rfl (.tmp 40) (.tmp 42) 22 3 (.int .i64 0) 8 rfl Try.underlying22 info3 rfl (by decide) (by omega) u4 x4_2 (rd x8_2 0) [.int .i64 (rd x8_2 0)] (fun k_ => some k_ ≠ (v592 : Value).ownBlock ∧ some k_ ≠ (.slice (some ad598) x8_2.length co22 : Value).ownBlock) (fun _ => False) rfl rfl ?aP (fun _ hk => hk.elim) ?aF ?aO ?aB ?aS ?aL ?_; (case aP => exact rfl); (case aB => exact (by repeat (first | (with_reducible first | exact HB.out | apply below_alloc | apply pw_below_drewN | apply below_drew1 | refine below_set ?_ GE584.out) | exact HB.out))); (case aF => exact (fun k_ hk => ⟨Kd.fresh' (Kd.R_lt (by (with_reducible repeat (first | apply Kd.R_alloc | apply Kd.R_drewN | apply Kd.R_drew)); exact HO_5.out)) k_ hk, Kd.fresh' (Kd.Q_lt (by (with_reducible repeat (first | apply Kd.Q_alloc | apply Kd.Q_drewN | apply Kd.Q_drew)); exact HO_8.out)) k_ hk⟩)); (case aO => exact (by (with_reducible repeat (first | apply Kd.R_alloc | apply Kd.R_drewN | apply Kd.R_drew)); exact HO_4.out)); (case aS => exact (below_size (by repeat (first | (with_reducible first | exact HB.out | apply below_alloc | apply pw_below_drewN | apply below_drew1 | refine below_set ?_ GE584.out) | exact HB.out)))); (case aL => have := LMc21.out; omega); intro v600 w23 ho hb hg hat; rw [← Ny599.out] at ho; have n0_ := Aside0.mk (Kd.R_after (ok := (fun k_ => some k_ ≠ (.slice (some ad598) x8_2.length co22 : Value).ownBlock)) (by (with_reducible repeat (first | apply Kd.R_alloc | apply Kd.R_drewN | apply Kd.R_drew)); exact Kd.R_mono HO_5.out (fun _ hk => ⟨hk.2, hk.1⟩)) hg hat); have n1_ := Aside0.mk (Kd.Q_after (ok := (fun k_ => some k_ ≠ (v592 : Value).ownBlock)) (by (with_reducible repeat (first | apply Kd.Q_alloc | apply Kd.Q_drewN | apply Kd.Q_drew)); exact Kd.Q_mono HO_8.out (fun _ hk => ⟨hk.2, hk.1⟩)) hg hat); have n2_ := Aside0.mk (blk_grown (g := gb584) (o := .cells #[.slice A0_0 l0_0.length c0_0, .bool a0_1] 28 (0, 0)) (by (with_reducible repeat (first | refine blk_drewN ?_ _ | refine blk_drew ?_ | refine blk_alloc ?_ _)); exact BK584.out) hg (Kd.R_ne HO_4.out BK584.out (by decide))); have n3_ := Aside0.mk (hb); have n4_ := Aside0.mk (ho); clear HO_5; clear HO_8; clear BK584; clear HB; clear HO_4; have HO_5 := n0_; have HO_8 := n1_; have BK584 := n2_; have HB := n3_; have HO601 := n4_; clear n0_ n1_ n2_ n3_ n4_; clear ho hb hg hat; have hcz24_0 : w23.cell? ⟨gb584, 0, none⟩ = some (.slice A0_0 l0_0.length c0_0) := (blk_cell BK584.out 0).trans rfl; have hcz24_1 : w23.cell? ⟨gb584, 1, none⟩ = some (.bool a0_1) := (blk_cell BK584.out 1).trans rfl; have hfz24_0 := blk_frozen BK584.out 0; have hfz24_1 := blk_frozen BK584.out 1))
           go_loopg [6, 8, 47] k2 (fun kq v6 v8 v47 w' => ∃ (x5_3 : List Int) (x6_3 : Int) (x8_3 : List Int) (x47_3 : Int), v6 = .int .i64 x6_3 ∧ v47 = .int .i64 x47_3 ∧ Aside0 (impl_Graph_reached.l2 kq y599 x5_3 x6_3 x8_3 (rd x8_2 0) (l0_0.length : Int) x20_1 (l0_0.length : Int) x47_3 l0_0 a0_1 = some (r1, r2)) ∧ Aside0 (kq ≤ k2) ∧ Aside0 (Kd.R (Kd.int .i64) 3 w' w.heap.size (fun k_ => some k_ ≠ (v592 : Value).ownBlock ∧ some k_ ≠ (v8 : Value).ownBlock) v600 y599) ∧ Aside0 (Kd.R (Kd.int .i64) 3 w' w.heap.size (fun k_ => some k_ ≠ (v600 : Value).ownBlock ∧ some k_ ≠ (v8 : Value).ownBlock) v592 x5_3) ∧ Aside0 (Kd.Q (Kd.int .i64) 3 w' w.heap.size (fun k_ => some k_ ≠ (v600 : Value).ownBlock ∧ some k_ ≠ (v592 : Value).ownBlock) v8 x8_3) ∧ Aside0 (w'.heap[gb584]? = some (.cells #[(.slice A0_0 l0_0.length c0_0), .bool a0_1] 28 (0, 0))) ∧ Aside0 (Below w.heap.size w w'))
           case atStart => exact ⟨(x5_2), (x6_2), (x8_2), (0), (by first | rfl | (simp; done) | (simp [*]; done)), (by first | rfl | (simp; done) | (simp [*]; done)), H', ⟨Nat.le_refl _⟩, ⟨by (with_reducible repeat (first | apply Kd.R_alloc | apply Kd.R_drewN | apply Kd.R_drew)); exact HO601.out⟩, ⟨by (with_reducible repeat (first | apply Kd.R_alloc | apply Kd.R_drewN | apply Kd.R_drew)); exact Kd.R_mono HO_5.out (fun _ hk => ⟨hk.2, hk.1⟩)⟩, ⟨by (with_reducible repeat (first | apply Kd.Q_alloc | apply Kd.Q_drewN | apply Kd.Q_drew)); exact Kd.Q_mono HO_8.out (fun _ hk => ⟨hk.2, hk.1⟩)⟩, ⟨by (with_reducible repeat (first | refine blk_drewN ?_ _ | refine blk_drew ?_ | refine blk_alloc ?_ _)); exact BK584.out⟩, ⟨by repeat (first | (with_reducible first | exact HB.out | apply below_alloc | apply pw_below_drewN | apply below_drew1 | refine below_set ?_ GE584.out) | exact HB.out)⟩⟩
           case round =>
            clear H'
            (try clear c1);(try clear c2);(try clear p2);(try clear p5);(try clear q5);(try clear hx5);(try clear qi5);(try clear c6);(try clear p6);(try clear c7);(try clear c8);(try clear c12);(try clear c12b0);(try clear c14);(try clear c15);(try clear c15b0);(try clear c15b1);(try clear c19);(try clear c19b0);(try clear c19b1);(try clear c20);(try clear c20b0);(try clear c20b1);(try clear c21);(try clear hcz11_0);(try clear hcz11_1);(try clear hcz24_0);(try clear hcz24_1);(try clear hcz8_0);(try clear hcz8_1);(try clear hfz11_0);(try clear hfz11_1);(try clear hfz24_0);(try clear hfz24_1);(try clear hfz8_0);(try clear hfz8_1);(try clear hx598_0);(try clear p2);(try clear p598);(try clear p6);(try clear q598)
            obtain ⟨x5_3, x6_3, x8_3, x47_3, rfl, rfl, HA, HK3, HO_4, HO_5, HO_8, BK584, HB⟩ := hrel
            cases gk with
            | zero => exact absurd HA.out (by simp [impl_Graph_reached.l2])
            | succ k3 =>
             have H := HA.out
             clear HA
             simp only [impl_Graph_reached.l2] at H
             by_cases c25 : x47_3 < (l0_0.length : Int)
             ·rw [if_pos c25] at H
              have c25b0 : decide (x47_3 < (l0_0.length : Int)) = true := decide_eq_true c25
              clear c25
              by_cases c26 : 0 ≤ (rd x8_2 0)
              ·rw [if_pos c26] at H
               have c26b0 : decide (0 ≤ (rd x8_2 0)) = true := decide_eq_true c26
               clear c26
               by_cases c27 : (rd x8_2 0) < (l0_0.length : Int)
               ·rw [if_pos c27] at H
                have c27b0 : decide ((rd x8_2 0) < (l0_0.length : Int)) = true := decide_eq_true c27
                clear c27
                replace H := Option.bind_eq_some_iff.mp H
                obtain ⟨t606, A280, H⟩ := H
                replace H : (if t606 = true then ((impl_has.f x6_3 x47_3).bind fun t607 => (if t607 = true then (impl_Graph_reached.l2 k3 y599 x5_3 x6_3 x8_3 (rd x8_2 0) (l0_0.length : Int) x20_1 (l0_0.length : Int) (wrap64 (x47_3 + 1)) l0_0 a0_1) else (if 0 ≤ x47_3 then (if x47_3 < (x5_3.length : Int) then (if x8_3.length < 17592186044416 then (impl_Graph_reached.l2 k3 y599 (x5_3.set (x47_3 : Int).toNat (rd x8_2 0)) (Go.bits .or .i64 x6_3 (shl .i64 1 x47_3)) (x8_3 ++ [x47_3]) (rd x8_2 0) (l0_0.length : Int) x20_1 (l0_0.length : Int) (wrap64 (x47_3 + 1)) l0_0 a0_1) else (none)) else (none)) else (none)))) else (impl_Graph_reached.l2 k3 y599 x5_3 x6_3 x8_3 (rd x8_2 0) (l0_0.length : Int) x20_1 (l0_0.length : Int) (wrap64 (x47_3 + 1)) l0_0 a0_1)) = some (r1, r2) := H
                have A28 := Aside0.mk A280
                clear A280
                by_cases c29 : t606 = true
                ·subst c29
                 have H1 : ((impl_has.f x6_3 x47_3).bind fun t607 => (if t607 = true then (impl_Graph_reached.l2 k3 y599 x5_3 x6_3 x8_3 (rd x8_2 0) (l0_0.length : Int) x20_1 (l0_0.length : Int) (wrap64 (x47_3 + 1)) l0_0 a0_1) else (if 0 ≤ x47_3 then (if x47_3 < (x5_3.length : Int) then (if x8_3.length < 17592186044416 then (impl_Graph_reached.l2 k3 y599 (x5_3.set (x47_3 : Int).toNat (rd x8_2 0)) (Go.bits .or .i64 x6_3 (shl .i64 1 x47_3)) (x8_3 ++ [x47_3]) (rd x8_2 0) (l0_0.length : Int) x20_1 (l0_0.length : Int) (wrap64 (x47_3 + 1)) l0_0 a0_1) else (none)) else (none)) else (none)))) = some (r1, r2) := by rw [if_pos rfl] at H; exact H
                 clear H
                 have H := H1
                 clear H1
                 replace H := Option.bind_eq_some_iff.mp H
                 obtain ⟨t607, A300, H⟩ := H
                 replace H : (if t607 = true then (impl_Graph_reached.l2 k3 y599 x5_3 x6_3 x8_3 (rd x8_2 0) (l0_0.length : Int) x20_1 (l0_0.length : Int) (wrap64 (x47_3 + 1)) l0_0 a0_1) else (if 0 ≤ x47_3 then (if x47_3 < (x5_3.length : Int) then (if x8_3.length < 17592186044416 then (impl_Graph_reached.l2 k3 y599 (x5_3.set (x47_3 : Int).toNat (rd x8_2 0)) (Go.bits .or .i64 x6_3 (shl .i64 1 x47_3)) (x8_3 ++ [x47_3]) (rd x8_2 0) (l0_0.length : Int) x20_1 (l0_0.length : Int) (wrap64 (x47_3 + 1)) l0_0 a0_1) else (none)) else (none)) else (none))) = some (r1, r2) := H
                 have A30 := Aside0.mk A300
                 clear A300
                 by_cases c31 : t607 = true
                 ·subst c31
                  have H1 : (impl_Graph_reached.l2 k3 y599 x5_3 x6_3 x8_3 (rd x8_2 0) (l0_0.length : Int) x20_1 (l0_0.length : Int) (wrap64 (x47_3 + 1)) l0_0 a0_1) = some (r1, r2) := by rw [if_pos rfl] at H; exact H
                  clear H
                  have H := H1
                  clear H1
                  have H' := Aside0.mk H
                  clear H
                  have hcz32_0 : wr.cell? ⟨gb584, 0, none⟩ = some (.slice A0_0 l0_0.length c0_0) := (blk_cell BK584.out 0).trans rfl
                  have hcz32_1 : wr.cell? ⟨gb584, 1, none⟩ = some (.bool a0_1) := (blk_cell BK584.out 1).trans rfl
                  have hfz32_0 := blk_frozen BK584.out 0
                  have hfz32_1 := blk_frozen BK584.out 1
                  have p605 : 0 ≤ ((rd x8_2 0) : Int) := of_decide_eq_true (by first | (with_reducible assumption) | assumption)
                  have q605 : (rd x8_2 0) < (l0_0.length : Int) := of_decide_eq_true (by first | (with_reducible assumption) | assumption)
                  obtain ⟨ad605, e605, hx605_0⟩ := Kd.at_int HR0_0.out (rd x8_2 0) p605 q605
                  cases e605
                  replace hx605_0 := (HB.out.cell (World.block_lt_of_cell? w _ hx605_0)).trans hx605_0
                  replace p605 := eq_true p605
                  replace q605 := eq_true q605
                  go_wp2_with (first | ((with_reducible refine gate_callee (f := 65) rfl ?_); refine goesL_ (some 56) rfl rfl Try.func65 (by kernel_rfl) rfl #[.int .i64 (rd l0_0 (rd x8_2 0)), .int .i64 x47_3] rfl (by (try simp only [List.map_toArray, List.map_cons, List.map_nil]); first | done | rfl | (simp only [List.length_drop, List.length_take]; rfl)) ?_; (with_reducible refine (impl_has.calls (rd l0_0 (rd x8_2 0)) x47_3 true _ A28.out).mono ?_); rintro e w' ⟨rfl, ⟨nd, rfl⟩⟩; refine ⟨_, rfl, ?_⟩) | (go_at_call 65; (with_reducible refine (impl_has.calls x6_3 x47_3 true _ A30.out).mono ?_); rintro e w' ⟨rfl, ⟨nd, rfl⟩⟩))
                  go_roundg k3
                  case measure => have := HK1.out; have := HK2.out; have := HK3.out; omega
                  case rel => exact ⟨(x5_3), (x6_3), (x8_3), (wrap64 (x47_3 + 1)), (by first | rfl | (simp; done) | (simp [*]; done)), (by first | rfl | (simp; done) | (simp [*]; done)), H', ⟨by have := HK1.out; have := HK2.out; have := HK3.out; omega⟩, ⟨by (with_reducible repeat (first | apply Kd.R_alloc | apply Kd.R_drewN | apply Kd.R_drew)); exact HO_4.out⟩, ⟨by (with_reducible repeat (first | apply Kd.R_alloc | apply Kd.R_drewN | apply Kd.R_drew)); exact HO_5.out⟩, ⟨by (with_reducible repeat (first | apply Kd.Q_alloc | apply Kd.Q_drewN | apply Kd.Q_drew)); exact HO_8.out⟩, ⟨by (with_reducible repeat (first | refine blk_drewN ?_ _ | refine blk_drew ?_ | refine blk_alloc ?_ _)); exact BK584.out⟩, ⟨by repeat (first | (with_reducible first | exact HB.out | apply below_alloc | apply pw_below_drewN | apply below_drew1 | refine below_set ?_ GE584.out) | exact HB.out)⟩⟩
                 ·replace c31 := Bool.eq_false_iff.mpr c31
                  subst c31
                  have H1 : (if 0 ≤ x47_3 then (if x47_3 < (x5_3.length : Int) then (if x8_3.length < 17592186044416 then (impl_Graph_reached.l2 k3 y599 (x5_3.set (x47_3 : Int).toNat (rd x8_2 0)) (Go.bits .or .i64 x6_3 (shl .i64 1 x47_3)) (x8_3 ++ [x47_3]) (rd x8_2 0) (l0_0.length : Int) x20_1 (l0_0.length : Int) (wrap64 (x47_3 + 1)) l0_0 a0_1) else (none)) else (none)) else (none)) = some (r1, r2) := by rw [if_neg (show ¬ (false = true) by decide)] at H; exact H
                  clear H
                  have H := H1
                  clear H1
                  by_cases c33 : 0 ≤ x47_3
                  ·rw [if_pos c33] at H
                   have c33b0 := eq_true c33
                   have c33b1 : decide (0 ≤ x47_3) = true := decide_eq_true c33
                   clear c33
                   obtain ⟨ji34, hji34⟩ : ∃ j_ : Int, (shl .i64 1 x47_3) = j_ := ⟨_, rfl⟩
                   replace H : (if x47_3 < (x5_3.length : Int) then (if x8_3.length < 17592186044416 then (impl_Graph_reached.l2 k3 y599 (x5_3.set (x47_3 : Int).toNat (rd x8_2 0)) (Go.bits .or .i64 x6_3 (ji34)) (x8_3 ++ [x47_3]) (rd x8_2 0) (l0_0.length : Int) x20_1 (l0_0.length : Int) (wrap64 (x47_3 + 1)) l0_0 a0_1) else (none)) else (none)) = some (r1, r2) := by first | (rw [hji34] at H; exact H) | (simp only [hji34] at H ⊢; exact H)
                   (try rw [hji34] at A28)
                   (try rw [hji34] at A30)
                   have hji34_ : (IntKind.i64.wrap (1 * 2 ^ min x47_3.toNat 64)) = ji34 := hji34
                   have hji34z : x47_3 ≤ 64 → (IntKind.i64.wrap (1 * 2 ^ x47_3.toNat)) = ji34 := shl_small hji34
                   have hji34u : (IntKind.i64.wrap (2 ^ min x47_3.toNat 64)) = ji34 := by have h_ := hji34_; rw [Int.one_mul] at h_; exact h_
                   have hji34v : x47_3 ≤ 64 → (IntKind.i64.wrap (2 ^ x47_3.toNat)) = ji34 := fun hle_ => by have h_ := hji34z hle_; rw [Int.one_mul] at h_; exact h_
                   have hji34y : (wrap64 (1 * 2 ^ min x47_3.toNat 64)) = ji34 := (i64_w _).symm.trans hji34_
                   have hji34x : x47_3 ≤ 64 → (wrap64 (1 * 2 ^ x47_3.toNat)) = ji34 := fun h_ => (i64_w _).symm.trans (hji34z h_)
                   by_cases c35 : x47_3 < (x5_3.length : Int)
                   ·rw [if_pos c35] at H
                    have c35b0 : decide (x47_3 < (x5_3.length : Int)) = true := decide_eq_true c35
                    clear c35
                    obtain ⟨y608, hy608⟩ : ∃ y_ : List Int, y_ = (x5_3.set (x47_3 : Int).toNat (rd x8_2 0)) := ⟨_, rfl⟩
                    replace H : (if x8_3.length < 17592186044416 then (impl_Graph_reached.l2 k3 y599 y608 (Go.bits .or .i64 x6_3 (ji34)) (x8_3 ++ [x47_3]) (rd x8_2 0) (l0_0.length : Int) x20_1 (l0_0.length : Int) (wrap64 (x47_3 + 1)) l0_0 a0_1) else (none)) = some (r1, r2) := by first | (rw [hy608]; with_reducible exact H) | (have H2_ := (Option.bind_some _ _).symm.trans H; rw [hy608]; with_reducible exact H2_) | (have H2_ := (Option.bind_some _ _).symm.trans H; with_reducible exact H2_) | with_reducible exact H | (rw [hy608]; exact H) | exact H
                    have Ny608 := Aside0.mk hy608
                    clear hy608
                    by_cases c37 : x8_3.length < 17592186044416
                    ·rw [if_pos c37] at H
                     have LMc37 := Aside0.mk c37
                     clear c37
                     obtain ⟨y609, hy609⟩ : ∃ y_ : List Int, y_ = (x8_3 ++ [x47_3]) := ⟨_, rfl⟩
                     replace H : (impl_Graph_reached.l2 k3 y599 y608 (Go.bits .or .i64 x6_3 (ji34)) y609 (rd x8_2 0) (l0_0.length : Int) x20_1 (l0_0.length : Int) (wrap64 (x47_3 + 1)) l0_0 a0_1) = some (r1, r2) := by first | (rw [hy609]; with_reducible exact H) | (have H2_ := (Option.bind_some _ _).symm.trans H; rw [hy609]; with_reducible exact H2_) | (have H2_ := (Option.bind_some _ _).symm.trans H; with_reducible exact H2_) | with_reducible exact H | (rw [hy609]; exact H) | exact H
                     have Ny609 := Aside0.mk hy609
                     clear hy609
                     have H' := Aside0.mk H
                     clear H
                     have hcz38_0 : wr.cell? ⟨gb584, 0, none⟩ = some (.slice A0_0 l0_0.length c0_0) := (blk_cell BK584.out 0).trans rfl
                     have hcz38_1 : wr.cell? ⟨gb584, 1, none⟩ = some (.bool a0_1) := (blk_cell BK584.out 1).trans rfl
                     have hfz38_0 := blk_frozen BK584.out 0
                     have hfz38_1 := blk_frozen BK584.out 1
                     have p605 : 0 ≤ ((rd x8_2 0) : Int) := of_decide_eq_true (by first | (with_reducible assumption) | assumption)
                     have q605 : (rd x8_2 0) < (l0_0.length : Int) := of_decide_eq_true (by first | (with_reducible assumption) | assumption)
                     obtain ⟨ad605, e605, hx605_0⟩ := Kd.at_int HR0_0.out (rd x8_2 0) p605 q605
                     cases e605
                     replace hx605_0 := (HB.out.cell (World.block_lt_of_cell? w _ hx605_0)).trans hx605_0
                     replace p605 := eq_true p605
                     replace q605 := eq_true q605
                     go_wp2_with (first | ((with_reducible refine gate_callee (f := 65) rfl ?_); refine goesL_ (some 56) rfl rfl Try.func65 (by kernel_rfl) rfl #[.int .i64 (rd l0_0 (rd x8_2 0)), .int .i64 x47_3] rfl (by (try simp only [List.map_toArray, List.map_cons, List.map_nil]); first | done | rfl | (simp only [List.length_drop, List.length_take]; rfl)) ?_; (with_reducible refine (impl_has.calls (rd l0_0 (rd x8_2 0)) x47_3 true _ A28.out).mono ?_); rintro e w' ⟨rfl, ⟨nd, rfl⟩⟩; refine ⟨_, rfl, ?_⟩; (try (rw [drewN_self wr]; generalize hq_ : World.drewN wr _ = wr; have n0_ : Aside0 (Kd.R (Kd.int .i64) 3 wr w.heap.size (fun k_ => some k_ ≠ (v592 : Value).ownBlock ∧ some k_ ≠ (u8 : Value).ownBlock) v600 y599) := ⟨by rw [← hq_]; exact (by (with_reducible repeat (first | apply Kd.R_alloc | apply Kd.R_drewN | apply Kd.R_drew)); exact HO_4.out)⟩; have n1_ : Aside0 (Kd.R (Kd.int .i64) 3 wr w.heap.size (fun k_ => some k_ ≠ (v600 : Value).ownBlock ∧ some k_ ≠ (u8 : Value).ownBlock) v592 x5_3) := ⟨by rw [← hq_]; exact (by (with_reducible repeat (first | apply Kd.R_alloc | apply Kd.R_drewN | apply Kd.R_drew)); exact HO_5.out)⟩; have n2_ : Aside0 (Kd.Q (Kd.int .i64) 3 wr w.heap.size (fun k_ => some k_ ≠ (v600 : Value).ownBlock ∧ some k_ ≠ (v592 : Value).ownBlock) u8 x8_3) := ⟨by rw [← hq_]; exact (by (with_reducible repeat (first | apply Kd.Q_alloc | apply Kd.Q_drewN | apply Kd.Q_drew)); exact HO_8.out)⟩; have n3_ : Aside0 (wr.heap[gb584]? = some (.cells #[.slice (some ad605) l0_0.length c0_0, .bool a0_1] 28 (0, 0))) := ⟨by rw [← hq_]; exact (by (with_reducible repeat (first | refine blk_drewN ?_ _ | refine blk_drew ?_ | refine blk_alloc ?_ _)); exact BK584.out)⟩; have n4_ : Aside0 (Below w.heap.size w wr) := ⟨by rw [← hq_]; exact (by repeat (first | (with_reducible first | exact HB.out | apply below_alloc | apply pw_below_drewN | apply below_drew1 | refine below_set ?_ GE584.out) | exact HB.out))⟩; clear HO_4 HO_5 HO_8 BK584 HB hq_; have HO_4 := n0_; have HO_5 := n1_; have HO_8 := n2_; have BK584 := n3_; have HB := n4_; clear n0_ n1_ n2_ n3_ n4_))) | (go_at_call 65; (with_reducible refine (impl_has.calls x6_3 x47_3 false _ A30.out).mono ?_); rintro e w' ⟨rfl, ⟨nd, rfl⟩⟩; (try (rw [drewN_self wr]; generalize hq_ : World.drewN wr _ = wr; have n0_ : Aside0 (Kd.R (Kd.int .i64) 3 wr w.heap.size (fun k_ => some k_ ≠ (v592 : Value).ownBlock ∧ some k_ ≠ (u8 : Value).ownBlock) v600 y599) := ⟨by rw [← hq_]; exact (by (with_reducible repeat (first | apply Kd.R_alloc | apply Kd.R_drewN | apply Kd.R_drew)); exact HO_4.out)⟩; have n1_ : Aside0 (Kd.R (Kd.int .i64) 3 wr w.heap.size (fun k_ => some k_ ≠ (v600 : Value).ownBlock ∧ some k_ ≠ (u8 : Value).ownBlock) v592 x5_3) := ⟨by rw [← hq_]; exact (by (with_reducible repeat (first | apply Kd.R_alloc | apply Kd.R_drewN | apply Kd.R_drew)); exact HO_5.out)⟩; have n2_ : Aside0 (Kd.Q (Kd.int .i64) 3 wr w.heap.size (fun k_ => some k_ ≠ (v600 : Value).ownBlock ∧ some k_ ≠ (v592 : Value).ownBlock) u8 x8_3) := ⟨by rw [← hq_]; exact (by (with_reducible repeat (first | apply Kd.Q_alloc | apply Kd.Q_drewN | apply Kd.Q_drew)); exact HO_8.out)⟩; have n3_ : Aside0 (wr.heap[gb584]? = some (.cells #[.slice (some ad605) l0_0.length c0_0, .bool a0_1] 28 (0, 0))) := ⟨by rw [← hq_]; exact (by (with_reducible repeat (first | refine blk_drewN ?_ _ | refine blk_drew ?_ | refine blk_alloc ?_ _)); exact BK584.out)⟩; have n4_ : Aside0 (Below w.heap.size w wr) := ⟨by rw [← hq_]; exact (by repeat (first | (with_reducible first | exact HB.out | apply below_alloc | apply pw_below_drewN | apply below_drew1 | refine below_set ?_ GE584.out) | exact HB.out))⟩; clear HO_4 HO_5 HO_8 BK584 HB hq_; have HO_4 := n0_; have HO_5 := n1_; have HO_8 := n2_; have BK584 := n3_; have HB := n4_; clear n0_ n1_ n2_ n3_ n4_)); have p36 : 0 ≤ (x47_3 : Int) := of_decide_eq_true (by first | (with_reducible assumption) | assumption); have q36 : (x47_3 : Int) < ((x5_3.length : Int) : Int) := of_decide_eq_true (by first | (with_reducible assumption) | assumption); obtain ⟨go36, co36, eo36, gb36, gl36, cl36, HG36⟩ := Kd.R_form HO_5.out (by omega); (first | cases eo36 | (injection eo36 with ea_ en_ ec_; (first | subst ea_ | (injection ea_ with ea_; subst ea_)); subst ec_; clear en_)); have GB36 := Aside0.mk gb36; have GG36 := Aside0.mk HG36; clear gb36 gl36 HG36; obtain ⟨hx36_0, hf36_0⟩ := Kd.R_celln 0 HO_5.out (x47_3 : Int) p36 q36; replace p36 := eq_true p36; replace q36 := eq_true q36; obtain ⟨hy39_, hz39_⟩ := Kd.R_celln 0 HO_5.out (x47_3 : Int) (of_decide_eq_true (by first | (with_reducible assumption) | assumption)) (of_decide_eq_true (by first | (with_reducible assumption) | assumption)); have HP39 := Kd.R_putg HO_5.out (x47_3 : Int) (rd x8_2 0)) | ((with_reducible refine gate_store (t := 3) (p := 70) rfl ?_); refine store_event (t := 3) (p := 70) (v := ?vo_w40) (w1 := (wr.setCell ⟨go36, (x47_3 : Int).toNat, none⟩ (.int .i64 (rd x8_2 0)))) ?hg ?ho ?hn ?hr ?_; (case ho => rfl); (case hg => rfl); (case hn => rfl); (case hr => first | (go_simp; done) | (go_simp; rfl)); intro w40 hw; have hg : wr.grownBy w40 (some go36) := (by rw [hw]; exact HP39.2); have hp_ : Kd.R (Kd.int .i64) 3 w40 w.heap.size (fun k_ => some k_ ≠ (v600 : Value).ownBlock ∧ some k_ ≠ (u8 : Value).ownBlock) (.slice (some ⟨go36, 0, none⟩) x5_3.length co36) y608 := (by rw [hw, Ny608.out]; exact HP39.1); clear HP39; have n0_ := Aside0.mk (Kd.R_after (v := (.slice (some ⟨go36, 0, none⟩) x5_3.length co36)) (v1 := (.slice (some ⟨go36, 0, none⟩) x5_3.length co36)) (ok := (fun k_ => some k_ ≠ (u8 : Value).ownBlock)) (by (with_reducible repeat (first | apply Kd.R_alloc | apply Kd.R_drewN | apply Kd.R_drew)); exact Kd.R_mono HO_4.out (fun _ hk => ⟨hk.2, hk.1⟩)) hg (.inl rfl)); have n1_ := Aside0.mk (hp_); have n2_ := Aside0.mk (Kd.Q_after (v := (.slice (some ⟨go36, 0, none⟩) x5_3.length co36)) (v1 := (.slice (some ⟨go36, 0, none⟩) x5_3.length co36)) (ok := (fun k_ => some k_ ≠ (v600 : Value).ownBlock)) (by (with_reducible repeat (first | apply Kd.Q_alloc | apply Kd.Q_drewN | apply Kd.Q_drew)); exact HO_8.out) hg (.inl rfl)); have n3_ := Aside0.mk (blk_grown (g := gb584) (o := .cells #[.slice (some ad605) l0_0.length c0_0, .bool a0_1] 28 (0, 0)) (by (with_reducible repeat (first | refine blk_drewN ?_ _ | refine blk_drew ?_ | refine blk_alloc ?_ _)); exact BK584.out) hg (Kd.R_ne HO_5.out BK584.out (by decide))); have n4_ := Aside0.mk ((by rw [hw]; exact below_set (HB.out) GB36.out : Below w.heap.size w w40)); clear HO_4; clear HO_5; clear HO_8; clear BK584; clear HB; have HO_4 := n0_; have HO_5 := n1_; have HO_8 := n2_; have BK584 := n3_; have HB := n4_; clear n0_ n1_ n2_ n3_ n4_; clear hg hw hp_) | ((with_reducible refine gate_builtin (b := .append) (xs := #[.tmp 71, .tmp 73]) rfl ?_); at_builtin; refine Kd.Q_append (Kd.int .i64) (w0 := w) w.heap.size rfl (.tmp 71) (.tmp 73) 22 3 (.int .i64 0) 8 rfl Try.underlying22 info3 rfl (by decide) (by omega) u8 x8_3 x47_3 [.int .i64 x47_3] (fun k_ => some k_ ≠ (v600 : Value).ownBlock ∧ some k_ ≠ (.slice (some ⟨go36, 0, none⟩) x5_3.length co36 : Value).ownBlock) (fun _ => False) rfl rfl ?aP (fun _ hk => hk.elim) ?aF ?aO ?aB ?aS ?aL ?_; (case aP => exact rfl); (case aB => exact (by repeat (first | (with_reducible first | exact HB.out | apply below_alloc | apply pw_below_drewN | apply below_drew1 | refine below_set ?_ GE584.out) | exact HB.out))); (case aF => exact (fun k_ hk => ⟨Kd.fresh' (Kd.R_lt (by (with_reducible repeat (first | apply Kd.R_alloc | apply Kd.R_drewN | apply Kd.R_drew)); exact HO_4.out)) k_ hk, Kd.fresh' (Kd.R_lt (by (with_reducible repeat (first | apply Kd.R_alloc | apply Kd.R_drewN | apply Kd.R_drew)); exact HO_5.out)) k_ hk⟩)); (case aO => exact (by (with_reducible repeat (first | apply Kd.Q_alloc | apply Kd.Q_drewN | apply Kd.Q_drew)); exact HO_8.out)); (case aS => exact (below_size (by repeat (first | (with_reducible first | exact HB.out | apply below_alloc | apply pw_below_drewN | apply below_drew1 | refine below_set ?_ GE584.out) | exact HB.out)))); (case aL => have := LMc37.out; omega); intro v610 w41 ho hb hg hat; rw [← Ny609.out] at ho; have n0_ := Aside0.mk (Kd.R_after (ok := (fun k_ => some k_ ≠ (.slice (some ⟨go36, 0, none⟩) x5_3.length co36 : Value).ownBlock)) (by (with_reducible repeat (first | apply Kd.R_alloc | apply Kd.R_drewN | apply Kd.R_drew)); exact Kd.R_mono HO_4.out (fun _ hk => ⟨hk.2, hk.1⟩)) hg hat); have n1_ := Aside0.mk (Kd.R_after (ok := (fun k_ => some k_ ≠ (v600 : Value).ownBlock)) (by (with_reducible repeat (first | apply Kd.R_alloc | apply Kd.R_drewN | apply Kd.R_drew)); exact HO_5.out) hg hat); have n2_ := Aside0.mk (blk_grown (g := gb584) (o := .cells #[.slice (some ad605) l0_0.length c0_0, .bool a0_1] 28 (0, 0)) (by (with_reducible repeat (first | refine blk_drewN ?_ _ | refine blk_drew ?_ | refine blk_alloc ?_ _)); exact BK584.out) hg (Kd.Q_ne HO_8.out BK584.out (by decide))); have n3_ := Aside0.mk (hb); have n4_ := Aside0.mk (ho); clear HO_4; clear HO_5; clear BK584; clear HB; clear HO_8; have HO_4 := n0_; have HO_5 := n1_; have BK584 := n2_; have HB := n3_; have HO611 := n4_; clear n0_ n1_ n2_ n3_ n4_; clear ho hb hg hat))
                     go_roundg k3
                     case measure => have := HK1.out; have := HK2.out; have := HK3.out; omega
                     case rel => exact ⟨(y608), (Go.bits .or .i64 x6_3 (ji34)), (y609), (wrap64 (x47_3 + 1)), (by first | rfl | (simp; done) | (simp only [← hji34] <;> (first | rfl | simp)) | (simp [*]; done)), (by first | rfl | (simp; done) | (simp [*]; done)), H', ⟨by have := HK1.out; have := HK2.out; have := HK3.out; omega⟩, ⟨by (with_reducible repeat (first | apply Kd.R_alloc | apply Kd.R_drewN | apply Kd.R_drew)); exact HO_4.out⟩, ⟨by (with_reducible repeat (first | apply Kd.R_alloc | apply Kd.R_drewN | apply Kd.R_drew)); exact HO_5.out⟩, ⟨by (with_reducible repeat (first | apply Kd.Q_alloc | apply Kd.Q_drewN | apply Kd.Q_drew)); exact HO611.out⟩, ⟨by (with_reducible repeat (first | refine blk_drewN ?_ _ | refine blk_drew ?_ | refine blk_alloc ?_ _)); exact BK584.out⟩, ⟨by repeat (first | (with_reducible first | exact HB.out | apply below_alloc | apply pw_below_drewN | apply below_drew1 | refine below_set ?_ GE584.out) | exact HB.out)⟩⟩
                    ·rw [if_neg c37] at H
                     exact absurd H (by simp)
                   ·rw [if_neg c35] at H
                    exact absurd H (by simp)
                  ·rw [if_neg c33] at H
                   exact absurd H (by simp)
                ·replace c29 := Bool.eq_false_iff.mpr c29
                 subst c29
                 have H1 : (impl_Graph_reached.l2 k3 y599 x5_3 x6_3 x8_3 (rd x8_2 0) (l0_0.length : Int) x20_1 (l0_0.length : Int) (wrap64 (x47_3 + 1)) l0_0 a0_1) = some (r1, r2) := by rw [if_neg (show ¬ (false = true) by decide)] at H; exact H
                 clear H
                 have H := H1
                 clear H1
                 have H' := Aside0.mk H
                 clear H
                 have hcz42_0 : wr.cell? ⟨gb584, 0, none⟩ = some (.slice A0_0 l0_0.length c0_0) := (blk_cell BK584.out 0).trans rfl
                 have hcz42_1 : wr.cell? ⟨gb584, 1, none⟩ = some (.bool a0_1) := (blk_cell BK584.out 1).trans rfl
                 have hfz42_0 := blk_frozen BK584.out 0
                 have hfz42_1 := blk_frozen BK584.out 1
                 have p605 : 0 ≤ ((rd x8_2 0) : Int) := of_decide_eq_true (by first | (with_reducible assumption) | assumption)
                 have q605 : (rd x8_2 0) < (l0_0.length : Int) := of_decide_eq_true (by first | (with_reducible assumption) | assumption)
                 obtain ⟨ad605, e605, hx605_0⟩ := Kd.at_int HR0_0.out (rd x8_2 0) p605 q605
                 cases e605
                 replace hx605_0 := (HB.out.cell (World.block_lt_of_cell? w _ hx605_0)).trans hx605_0
                 replace p605 := eq_true p605
                 replace q605 := eq_true q605
                 go_wp2_with (first | ((with_reducible refine gate_callee (f := 65) rfl ?_); refine goesL_ (some 56) rfl rfl Try.func65 (by kernel_rfl) rfl #[.int .i64 (rd l0_0 (rd x8_2 0)), .int .i64 x47_3] rfl (by (try simp only [List.map_toArray, List.map_cons, List.map_nil]); first | done | rfl | (simp only [List.length_drop, List.length_take]; rfl)) ?_; (with_reducible refine (impl_has.calls (rd l0_0 (rd x8_2 0)) x47_3 false _ A28.out).mono ?_); rintro e w' ⟨rfl, ⟨nd, rfl⟩⟩; refine ⟨_, rfl, ?_⟩))
                 go_roundg k3
                 case measure => have := HK1.out; have := HK2.out; have := HK3.out; omega
                 case rel => exact ⟨(x5_3), (x6_3), (x8_3), (wrap64 (x47_3 + 1)), (by first | rfl | (simp; done) | (simp [*]; done)), (by first | rfl | (simp; done) | (simp [*]; done)), H', ⟨by have := HK1.out; have := HK2.out; have := HK3.out; omega⟩, ⟨by (with_reducible repeat (first | apply Kd.R_alloc | apply Kd.R_drewN | apply Kd.R_drew)); exact HO_4.out⟩, ⟨by (with_reducible repeat (first | apply Kd.R_alloc | apply Kd.R_drewN | apply Kd.R_drew)); exact HO_5.out⟩, ⟨by (with_reducible repeat (first | apply Kd.Q_alloc | apply Kd.Q_drewN | apply Kd.Q_drew)); exact HO_8.out⟩, ⟨by (with_reducible repeat (first | refine blk_drewN ?_ _ | refine blk_drew ?_ | refine blk_alloc ?_ _)); exact BK584.out⟩, ⟨by repeat (first | (with_reducible first | exact HB.out | apply below_alloc | apply pw_below_drewN | apply below_drew1 | refine below_set ?_ GE584.out) | exact HB.out)⟩⟩
               ·rw [if_neg c27] at H
                exact absurd H (by simp)
              ·rw [if_neg c26] at H
               exact absurd H (by simp)
             ·rw [if_neg c25] at H
              have c25b0 : decide (x47_3 < (l0_0.length : Int)) = false := decide_eq_false c25
              clear c25
              by_cases c43 : 1 ≤ (x8_3.length : Int)
              ·rw [if_pos c43] at H
               have c43b0 := eq_true c43
               have c43b1 : decide (1 ≤ (x8_3.length : Int)) = true := decide_eq_true c43
               clear c43
               obtain ⟨y602, hy602⟩ : ∃ y_ : List Int, y_ = (x8_3.drop (1 : Int).toNat) := ⟨_, rfl⟩
               replace H : (impl_Graph_reached.l1 k3 y599 x5_3 x6_3 y602 (l0_0.length : Int) x20_1 l0_0 a0_1) = some (r1, r2) := by first | (rw [hy602]; with_reducible exact H) | (have H2_ := (Option.bind_some _ _).symm.trans H; rw [hy602]; with_reducible exact H2_) | (have H2_ := (Option.bind_some _ _).symm.trans H; with_reducible exact H2_) | with_reducible exact H | (rw [hy602]; exact H) | exact H
               have Ny602 := Aside0.mk hy602
               clear hy602
               have H' := Aside0.mk H
               clear H
               obtain ⟨Ao44, co44, eo44, _⟩ := Kd.Q_slice HO_8.out
               subst eo44
               have q45 : (1 : Int) ≤ ((x8_3.length : Int) : Int) := of_decide_eq_true (by first | (with_reducible assumption) | assumption)
               obtain ⟨i045, hi045, _, hsz45, _⟩ := info_parts info3
               have hcut45 := cut_from (P := Try.prog) 22 3 .i64 Try.underlying22 hi045 1 hsz45 Ao44 x8_3.length co44 1 (by omega) q45
               have hr45 := Kd.Q_drop (k := (1 : Int).toNat) HO_8.out (by omega)
               obtain ⟨A45, hA45⟩ : ∃ A1, A1 = (if co44 = (1 : Int).toNat then Ao44 else (Ao44 : Option Addr).map (·.add ((1 : Int).toNat * 1))) := ⟨_, rfl⟩
               obtain ⟨c45, hc45⟩ : ∃ c1, c1 = co44 - (1 : Int).toNat := ⟨_, rfl⟩
               have hy45 : y602.length = x8_3.length - (1 : Int).toNat := (by rw [Ny602.out, List.length_drop])
               rw [← Ny602.out] at hr45
               rw [← hy45, ← hA45, ← hc45] at hcut45
               replace hr45 : Kd.Q (Kd.int .i64) 3 wr w.heap.size (fun k_ => some k_ ≠ (v600 : Value).ownBlock ∧ some k_ ≠ (v592 : Value).ownBlock) (.slice A45 y602.length c45) y602 := (by rw [hA45, hc45, hy45]; exact hr45)
               have HE45 : Aside0 ((Value.slice A45 y602.length c45).ownBlock = (.slice Ao44 x8_3.length co44 : Value).ownBlock) := ⟨by rw [hA45]; split <;> (cases (Ao44 : Option Addr) <;> rfl)⟩
               clear hy45 hi045 hsz45 HO_8 hA45 hc45
               have HO604 := Aside0.mk hr45
               clear hr45
               replace q45 := eq_true q45
               have n_ := Aside0.mk (Kd.R_mono (ok' := fun k_ => (some k_ ≠ (v592 : Value).ownBlock ∧ some k_ ≠ (.slice A45 y602.length c45 : Value).ownBlock)) HO_4.out (fun k_ hk => ⟨hk.1, (by rw [HE45.out]; exact hk.2)⟩))
               clear HO_4
               have HO_4 := n_
               clear n_
               have n_ := Aside0.mk (Kd.R_mono (ok' := fun k_ => (some k_ ≠ (v600 : Value).ownBlock ∧ some k_ ≠ (.slice A45 y602.length c45 : Value).ownBlock)) HO_5.out (fun k_ hk => ⟨hk.1, (by rw [HE45.out]; exact hk.2)⟩))
               clear HO_5
               have HO_5 := n_
               clear n_
               go_wp2
               go_roundg k3
               case measure => have := HK1.out; have := HK2.out; have := HK3.out; omega
               case rel => exact ⟨(y599), (x5_3), (x6_3), (y602), (by first | rfl | (simp; done) | (simp [*]; done)), H', ⟨by have := HK1.out; have := HK2.out; have := HK3.out; omega⟩, ⟨by (with_reducible repeat (first | apply Kd.R_alloc | apply Kd.R_drewN | apply Kd.R_drew)); exact HO_4.out⟩, ⟨by (with_reducible repeat (first | apply Kd.R_alloc | apply Kd.R_drewN | apply Kd.R_drew)); exact HO_5.out⟩, ⟨by (with_reducible repeat (first | apply Kd.Q_alloc | apply Kd.Q_drewN | apply Kd.Q_drew)); exact HO604.out⟩, ⟨by (with_reducible repeat (first | refine blk_drewN ?_ _ | refine blk_drew ?_ | refine blk_alloc ?_ _)); exact BK584.out⟩, ⟨by repeat (first | (with_reducible first | exact HB.out | apply below_alloc | apply pw_below_drewN | apply below_drew1 | refine below_set ?_ GE584.out) | exact HB.out)⟩⟩
              ·rw [if_neg c43] at H
               exact absurd H (by simp)
          ·rw [if_neg c21] at H
           exact absurd H (by simp)
         ·rw [if_neg c20] at H
          exact absurd H (by simp)
        ·rw [if_neg c19] at H
         have c19b0 : decide (0 < (x8_2.length : Int)) = false := decide_eq_false c19
         have c19b1 : decide (0 < x8_2.length) = false := decide_eq_false (by omega)
         clear c19
         have H' := Aside0.mk H
         clear H
         obtain ⟨Ao46, co46, eo46, _⟩ := Kd.Q_slice HO_8.out
         subst eo46
         go_wp2
         go_roundg k2
         case measure => have := HK1.out; have := HK2.out; omega
         case rel => exact ⟨(x4_2), (x5_2), (x6_2), (wrap64 (x20_1 + 1)), (by first | rfl | (simp; done) | (simp [*]; done)), (by first | rfl | (simp; done) | (simp [*]; done)), H', ⟨by have := HK1.out; have := HK2.out; omega⟩, ⟨by (with_reducible repeat (first | apply Kd.R_alloc | apply Kd.R_drewN | apply Kd.R_drew)); exact Kd.R_mono HO_4.out (fun _ hk => hk.1)⟩, ⟨by (with_reducible repeat (first | apply Kd.R_alloc | apply Kd.R_drewN | apply Kd.R_drew)); exact Kd.R_mono HO_5.out (fun _ hk => hk.1)⟩, ⟨by (with_reducible repeat (first | refine blk_drewN ?_ _ | refine blk_drew ?_ | refine blk_alloc ?_ _)); exact BK584.out⟩, ⟨by repeat (first | (with_reducible first | exact HB.out | apply below_alloc | apply pw_below_drewN | apply below_drew1 | refine below_set ?_ GE584.out) | exact HB.out)⟩⟩
     ·rw [if_neg c15] at H
      exact absurd H (by simp)
   ·rw [if_neg c12] at H
    have c12b0 : decide (x20_1 < (l0_0.length : Int)) = false := decide_eq_false c12
    clear c12
    simp only [Option.some.injEq, Prod.mk.injEq] at H
    obtain ⟨rfl, rfl⟩ := H
    go_wp2
    go_ret2
    exact ⟨_, _, by first | rfl | (simp [errW_none, errW_some] <;> rfl) | (simp [*, errW_none, errW_some] <;> rfl), by (with_reducible repeat (first | apply Kd.R_alloc | apply Kd.R_drewN | apply Kd.R_drew)); exact HO_4.out, by (with_reducible repeat (first | apply Kd.R_alloc | apply Kd.R_drewN | apply Kd.R_drew)); exact HO_5.out, by repeat (first | (with_reducible first | exact HB.out | apply below_alloc | apply pw_below_drewN | apply below_drew1 | refine below_set ?_ GE584.out) | exact HB.out)⟩

end Go.Proofs.Ytdpdmhjmmpncoaa.P
