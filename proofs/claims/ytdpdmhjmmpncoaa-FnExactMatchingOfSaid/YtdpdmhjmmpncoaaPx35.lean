-- Written by a program of this session (wip/mp.py), which runs the kit's print with contracts of the session's own.
import Derived.Test.YtdpdmhjmmpncoaaPx0
import Derived.Test.YtdpdmhjmmpncoaaPx1
import Derived.Test.YtdpdmhjmmpncoaaPx7
import Derived.Test.YtdpdmhjmmpncoaaPx34
namespace Go.Proofs.Ytdpdmhjmmpncoaa.P
open Go.RowKit Go.Proofs.YtdpdmhjmmpncoaaW.PrintWords Go.Proofs.YtdpdmhjmmpncoaaW.PrintLast Go.Proofs.YtdpdmhjmmpncoaaW.PrintMore
attribute [local go_sem] max2_int min2_int max_two min_two max_three min_three max_four min_four   -- for this text's walks alone
set_option linter.unusedVariables false
set_option linter.unusedSimpArgs false

/-! ### spec_trMatching: function 75 -/
mutual
def spec_trMatching.l0 : Nat → List Int → List Int → List (List Int) → Int → Int → Option ((List (List Int)) × Bool)
 | 0, _, _, _, _, _ => none
 | k + 1, x4, x5, x7, x8, x9 => if x9 ≥ 0 then (if 0 ≤ x9 then (if x9 < (x5.length : Int) then (if 0 ≤ (rd x5 x9) then (if (rd x5 x9) < (x4.length : Int) then (if (rd x4 (rd x5 x9)) < 0 then (spec_trMatching.j1 k x4 x5 x7 x8 x9 (rd x5 x9) (rd x4 (rd x5 x9)) true) else ((spec_grIn.f x8 (rd x5 x9)).bind fun t672 => (if t672 = true then (spec_trMatching.j1 k x4 x5 x7 x8 x9 (rd x5 x9) (rd x4 (rd x5 x9)) true) else ((spec_grIn.f x8 (rd x4 (rd x5 x9))).bind fun t673 => (spec_trMatching.j1 k x4 x5 x7 x8 x9 (rd x5 x9) (rd x4 (rd x5 x9)) t673))))) else (none)) else (none)) else (none)) else (none)) else (some (x7, true))
def spec_trMatching.j1 : Nat → List Int → List Int → List (List Int) → Int → Int → Int → Int → Bool → Option ((List (List Int)) × Bool)
 | 0, _, _, _, _, _, _, _, _ => none
 | k + 1, x4, x5, x7, x8, x9, x10, x11, x52 => if x52 = true then (spec_trMatching.l0 k x4 x5 x7 x8 (wrap64 (x9 - 1))) else (if 0 ≤ x10 then (if 0 ≤ x11 then ((spec_l1Least.f x10 x11).bind fun t674 => ((spec_l1Most.f x10 x11).bind fun t675 => (spec_trMatching.l1 k x4 x5 x7 (Go.bits .or .i64 x8 (Go.bits .or .i64 (shl .i64 1 x10) (shl .i64 1 x11))) x9 (([t674, t675] : List Int)) 0))) else (none)) else (none))
def spec_trMatching.l1 : Nat → List Int → List Int → List (List Int) → Int → Int → List Int → Int → Option ((List (List Int)) × Bool)
 | 0, _, _, _, _, _, _, _ => none
 | k + 1, x4, x5, x7, x8, x9, x12, x13 => if x13 < (x7.length : Int) then (if 0 ≤ x13 then (if 0 < ((rd_L1 x7 x13).length : Int) then (if 0 < (x12.length : Int) then (if (rd (rd_L1 x7 x13) 0) < (rd x12 0) then (spec_trMatching.l1 k x4 x5 x7 x8 x9 x12 (wrap64 (x13 + 1))) else ((some (([] : List (List Int)) : List (List Int))).bind fun y682 => (if x13 ≤ (x7.length : Int) then ((some (x7.take (x13 : Int).toNat : List (List Int))).bind fun y685 => (if y682.length + y685.length < 5864062014805 then ((some (y682 ++ y685 : List (List Int))).bind fun y690 => (if y690.length < 5864062014805 then ((some (y690 ++ [x12] : List (List Int))).bind fun y693 => ((some (x7.drop (x13 : Int).toNat : List (List Int))).bind fun y696 => (if y693.length + y696.length < 5864062014805 then (spec_trMatching.l0 k x4 x5 (y693 ++ y696) x8 (wrap64 (x9 - 1))) else (none)))) else (none))) else (none))) else (none)))) else (none)) else (none)) else (none)) else ((some (([] : List (List Int)) : List (List Int))).bind fun y704 => (if 0 ≤ x13 then (if x13 ≤ (x7.length : Int) then ((some (x7.take (x13 : Int).toNat : List (List Int))).bind fun y707 => (if y704.length + y707.length < 5864062014805 then ((some (y704 ++ y707 : List (List Int))).bind fun y712 => (if y712.length < 5864062014805 then ((some (y712 ++ [x12] : List (List Int))).bind fun y715 => ((some (x7.drop (x13 : Int).toNat : List (List Int))).bind fun y718 => (if y715.length + y718.length < 5864062014805 then (spec_trMatching.l0 k x4 x5 (y715 ++ y718) x8 (wrap64 (x9 - 1))) else (none)))) else (none))) else (none))) else (none)) else (none)))
end
def spec_trMatching.f (k : Nat) (l0_0 : List Int) (a0_1 : Bool) : Option ((List (List Int)) × Bool) := (spec_trParents.f k l0_0 a0_1).bind fun bt662 => (if bt662.2.2 = true then (spec_trMatching.l0 k bt662.1 bt662.2.1 ([] : List (List Int)) 0 (wrap64 ((bt662.2.1.length : Int) - 1))) else (some (([] : List (List Int)), false)))
theorem spec_trMatching.mono_l : ∀ k, (∀ y0 y1 y2 y3 y4, LeO (spec_trMatching.l0 k y0 y1 y2 y3 y4) (spec_trMatching.l0 (k + 1) y0 y1 y2 y3 y4)) ∧ (∀ y0 y1 y2 y3 y4 y5 y6 y7, LeO (spec_trMatching.j1 k y0 y1 y2 y3 y4 y5 y6 y7) (spec_trMatching.j1 (k + 1) y0 y1 y2 y3 y4 y5 y6 y7)) ∧ (∀ y0 y1 y2 y3 y4 y5 y6, LeO (spec_trMatching.l1 k y0 y1 y2 y3 y4 y5 y6) (spec_trMatching.l1 (k + 1) y0 y1 y2 y3 y4 y5 y6))
 | 0 => ⟨fun _ _ _ _ _ r h => by simp [spec_trMatching.l0] at h, fun _ _ _ _ _ _ _ _ r h => by simp [spec_trMatching.j1] at h, fun _ _ _ _ _ _ _ r h => by simp [spec_trMatching.l1] at h⟩
 | k + 1 => by
  obtain ⟨ih0, ih1, ih2⟩ := spec_trMatching.mono_l k
  refine ⟨?_, ?_, ?_⟩
  ·intro y0 y1 y2 y3 y4
   unfold spec_trMatching.l0
   repeat' first
   | (with_reducible exact ih0 _ _ _ _ _)
   | (with_reducible exact ih1 _ _ _ _ _ _ _ _)
   | (with_reducible exact ih2 _ _ _ _ _ _ _)
   | (with_reducible exact spec_trParents.mono _ _ _)
   | (with_reducible exact LeO.refl _)
   | (with_reducible exact LeO.none _)
   | (with_reducible refine LeO.ite ?_ ?_)
   | (with_reducible refine LeO.bind ?_ (fun _ => ?_))
   | exact ih0 _ _ _ _ _
   | exact ih1 _ _ _ _ _ _ _ _
   | exact ih2 _ _ _ _ _ _ _
   | exact spec_trParents.mono _ _ _
   | exact LeO.none _
   | refine LeO.ite ?_ ?_
   | refine LeO.bind ?_ (fun _ => ?_)
  ·intro y0 y1 y2 y3 y4 y5 y6 y7
   unfold spec_trMatching.j1
   repeat' first
   | (with_reducible exact ih0 _ _ _ _ _)
   | (with_reducible exact ih1 _ _ _ _ _ _ _ _)
   | (with_reducible exact ih2 _ _ _ _ _ _ _)
   | (with_reducible exact spec_trParents.mono _ _ _)
   | (with_reducible exact LeO.refl _)
   | (with_reducible exact LeO.none _)
   | (with_reducible refine LeO.ite ?_ ?_)
   | (with_reducible refine LeO.bind ?_ (fun _ => ?_))
   | exact ih0 _ _ _ _ _
   | exact ih1 _ _ _ _ _ _ _ _
   | exact ih2 _ _ _ _ _ _ _
   | exact spec_trParents.mono _ _ _
   | exact LeO.none _
   | refine LeO.ite ?_ ?_
   | refine LeO.bind ?_ (fun _ => ?_)
  ·intro y0 y1 y2 y3 y4 y5 y6
   unfold spec_trMatching.l1
   repeat' first
   | (with_reducible exact ih0 _ _ _ _ _)
   | (with_reducible exact ih1 _ _ _ _ _ _ _ _)
   | (with_reducible exact ih2 _ _ _ _ _ _ _)
   | (with_reducible exact spec_trParents.mono _ _ _)
   | (with_reducible exact LeO.refl _)
   | (with_reducible exact LeO.none _)
   | (with_reducible refine LeO.ite ?_ ?_)
   | (with_reducible refine LeO.bind ?_ (fun _ => ?_))
   | exact ih0 _ _ _ _ _
   | exact ih1 _ _ _ _ _ _ _ _
   | exact ih2 _ _ _ _ _ _ _
   | exact spec_trParents.mono _ _ _
   | exact LeO.none _
   | refine LeO.ite ?_ ?_
   | refine LeO.bind ?_ (fun _ => ?_)
theorem spec_trMatching.mono : ∀ a0 a1 k, LeO (spec_trMatching.f k a0 a1) (spec_trMatching.f (k + 1) a0 a1) := by
 intro a0 a1 k
 obtain ⟨ih0, ih1, ih2⟩ := spec_trMatching.mono_l k
 unfold spec_trMatching.f
 repeat' first
   | (with_reducible exact ih0 _ _ _ _ _)
   | (with_reducible exact ih1 _ _ _ _ _ _ _ _)
   | (with_reducible exact ih2 _ _ _ _ _ _ _)
   | (with_reducible exact spec_trParents.mono _ _ _)
   | (with_reducible exact LeO.refl _)
   | (with_reducible exact LeO.none _)
   | (with_reducible refine LeO.ite ?_ ?_)
   | (with_reducible refine LeO.bind ?_ (fun _ => ?_))
   | exact ih0 _ _ _ _ _
   | exact ih1 _ _ _ _ _ _ _ _
   | exact ih2 _ _ _ _ _ _ _
   | exact spec_trParents.mono _ _ _
   | exact LeO.none _
   | refine LeO.ite ?_ ?_
   | refine LeO.bind ?_ (fun _ => ?_)
def spec_trMatching.T9 : Bool × List (List Nat × List Nat) := (true, [([], []), ([], []), ([0, 1], [0, 1]), ([2], [2]), ([], []), ([], []), ([], []), ([5, 6], [5, 6]), ([7], [7]), ([4, 8], [4, 8]), ([9], [9]), ([3, 0, 1, 2, 3], [3]), ([10, 11, 0, 1, 2, 3, 4, 5, 6, 7, 8, 9, 10, 11], [10])])
def spec_trMatching.B9 : List Nat := [0, 0, 3, 7, 0, 0, 0, 96, 224, 496, 1008, 15, 4095]
theorem spec_trMatching.tab9 : rtab .any (opsOf Try.f75 9) = spec_trMatching.T9 := by kernel_rfl
theorem spec_trMatching.bits9 : waitsOk spec_trMatching.T9.2 spec_trMatching.B9 = true := by kernel_rfl
def spec_trMatching.T11 : Bool × List (List Nat × List Nat) := (true, [([], []), ([], []), ([1], [1]), ([], []), ([3], [3]), ([2, 4], [2, 4]), ([0, 5], [0, 5]), ([6, 0, 1, 2, 3, 4, 5, 6], [0, 6])])
def spec_trMatching.B11 : List Nat := [0, 0, 2, 0, 8, 30, 63, 127]
theorem spec_trMatching.tab11 : rtab .any (opsOf Try.f75 11) = spec_trMatching.T11 := by kernel_rfl
theorem spec_trMatching.bits11 : waitsOk spec_trMatching.T11.2 spec_trMatching.B11 = true := by kernel_rfl
def spec_trMatching.T14 : Bool × List (List Nat × List Nat) := (true, [([], []), ([], []), ([1], [1]), ([0, 2], [0, 2]), ([3], [3]), ([4], [4]), ([4], [4]), ([5, 6, 4], [4, 5, 6]), ([7, 4], [4, 7]), ([8, 4], [4, 8]), ([9, 4], [4, 9]), ([4], [4]), ([11, 4], [4, 11]), ([12, 4], [4, 12]), ([10, 13, 4], [4, 10, 13]), ([4, 14], [4, 14])])
def spec_trMatching.B14 : List Nat := [0, 0, 2, 7, 15, 31, 31, 127, 255, 511, 1023, 31, 2079, 6175, 16383, 32767]
theorem spec_trMatching.tab14 : rtab .any (opsOf Try.f75 14) = spec_trMatching.T14 := by kernel_rfl
theorem spec_trMatching.bits14 : waitsOk spec_trMatching.T14.2 spec_trMatching.B14 = true := by kernel_rfl
def spec_trMatching.T17 : Bool × List (List Nat × List Nat) := (true, [([], []), ([], []), ([1], [1]), ([0, 2], [0, 2]), ([], []), ([], []), ([4, 5], [4, 5]), ([3, 6, 3], [3, 6]), ([7, 7, 0, 1, 2, 3, 4, 5, 6, 7], [4, 7])])
def spec_trMatching.B17 : List Nat := [0, 0, 2, 7, 0, 0, 48, 127, 255]
theorem spec_trMatching.tab17 : rtab .any (opsOf Try.f75 17) = spec_trMatching.T17 := by kernel_rfl
theorem spec_trMatching.bits17 : waitsOk spec_trMatching.T17.2 spec_trMatching.B17 = true := by kernel_rfl
set_option maxHeartbeats 8000000 in
set_option maxRecDepth 100000 in
theorem spec_trMatching.calls (k : Nat) (A0_0 : Option Addr) (c0_0 : Nat) (l0_0 : List Int) (a0_1 : Bool) (r1 : List (List Int)) (r2 : Bool) (w : World) (hr0_0 : Kd.C (Kd.int .i64) w A0_0 l0_0.length l0_0) (hc0_0 : l0_0.length ≤ c0_0) (h : spec_trMatching.f k l0_0 a0_1 = some (r1, r2)) :
  Calls Try.prog 75 #[.agg #[.slice A0_0 l0_0.length c0_0, .bool a0_1]] w fun e w' => ∃ v0_ : Value, e = .returned (.tuple #[v0_, .bool r2]) ∧ Kd.N (Kd.slice 3 (Kd.int .i64)) 22 w' w.heap.size (fun k_ => (w.heap.size ≤ k_)) v0_ r1 ∧ Below w.heap.size w w' := by
 have hu28 := Try.underlying28
 have HR0_0 := Aside0.mk hr0_0
 have HC0_0 := Aside0.mk hc0_0
 clear hr0_0 hc0_0
 have HB := Aside0.mk (Below.refl w.heap.size w)
 have H : ((spec_trParents.f k l0_0 a0_1).bind fun bt662 => (if bt662.2.2 = true then (spec_trMatching.l0 k bt662.1 bt662.2.1 ([] : List (List Int)) 0 (wrap64 ((bt662.2.1.length : Int) - 1))) else (some (([] : List (List Int)), false)))) = some (r1, r2) := h
 clear h
 replace H := Option.bind_eq_some_iff.mp H
 obtain ⟨⟨t662, t665, t668⟩, A20, H⟩ := H
 replace H : (if t668 = true then (spec_trMatching.l0 k t662 t665 ([] : List (List Int)) 0 (wrap64 ((t665.length : Int) - 1))) else (some (([] : List (List Int)), false))) = some (r1, r2) := H
 have A2 := Aside0.mk A20
 clear A20
 by_cases c3 : t668 = true
 ·subst c3
  have H1 : (spec_trMatching.l0 k t662 t665 ([] : List (List Int)) 0 (wrap64 ((t665.length : Int) - 1))) = some (r1, r2) := by rw [if_pos rfl] at H; exact H
  clear H
  have H := H1
  clear H1
  have H' := Aside0.mk H
  clear H
  go_enter Try.func75, Try.ntmps75
  go_wp2_with (first | ((with_reducible refine gate_dst (N := 1) rfl ?_); refine box_event ?hg (N := 1) ?hd (cs := #[.slice A0_0 l0_0.length c0_0, .bool a0_1]) (t := 28) ?hr ?_; (case hd => rfl); (case hg => rfl); (case hr => first | (go_simp; done) | (go_simp; rfl)); intro gb661 hg w4 hbox hb; have n0_ := Aside0.mk (below_step (by repeat (first | (with_reducible first | exact HB.out | apply below_alloc | apply pw_below_drewN | apply below_drew1) | exact HB.out)) hb); have n1_ := Aside0.mk (hbox); have n2_ := Aside0.mk ((by rw [hg]; exact (below_size (by repeat (first | (with_reducible first | exact HB.out | apply below_alloc | apply pw_below_drewN | apply below_drew1) | exact HB.out))) : w.heap.size ≤ gb661)); have n3_ := Aside0.mk ((by rw [hg]; exact (below_size (by repeat (first | (with_reducible first | exact HB.out | apply below_alloc | apply pw_below_drewN | apply below_drew1) | exact HB.out))) : w.heap.size ≤ gb661)); clear HB; have HB := n0_; have BK661 := n1_; have GW661 := n2_; have GE661 := n3_; clear n0_ n1_ n2_ n3_; clear hb hbox hg; have hcz5_0 : w4.cell? ⟨gb661, 0, none⟩ = some (.slice A0_0 l0_0.length c0_0) := (blk_cell BK661.out 0).trans rfl; have hcz5_1 : w4.cell? ⟨gb661, 1, none⟩ = some (.bool a0_1) := (blk_cell BK661.out 1).trans rfl; have hfz5_0 := blk_frozen BK661.out 0; have hfz5_1 := blk_frozen BK661.out 1) | ((with_reducible refine gate_callee (f := 57) rfl ?_); refine goesL_ (some 17) rfl rfl Try.func57 (by kernel_rfl) rfl #[.agg #[.slice A0_0 l0_0.length c0_0, .bool a0_1]] rfl (by (try simp only [List.map_toArray, List.map_cons, List.map_nil]); first | done | rfl | (simp only [List.length_drop, List.length_take]; rfl)) ?_; (with_reducible refine (spec_trParents.calls k _ _ l0_0 a0_1 t662 t665 true _ ?side1 ?side2 A2.out).mono ?_); (case side1 => repeat (first | exact (Kd.C_below HR0_0.out HB.out) | (with_reducible refine Kd.C_alloc ?_ _) | (with_reducible refine Kd.C_drewN ?_ _) | (with_reducible refine Kd.C_drew ?_))); (case side2 => exact HC0_0.out); rintro e w6 ⟨v663, v666, rfl, ho0, ho1, hb⟩; refine ⟨_, rfl, ?_⟩; have n0_ := Aside0.mk (Kd.R_lower (Kd.R_newM (M := fun k_ => (w.heap.size ≤ k_)) ho0 (below_size (by repeat (first | (with_reducible first | exact HB.out | apply below_alloc | apply pw_below_drewN | apply below_drew1 | refine below_set ?_ GE661.out) | exact HB.out))) (fun k_ h_ => h_)) (below_size (by repeat (first | (with_reducible first | exact HB.out | apply below_alloc | apply pw_below_drewN | apply below_drew1 | refine below_set ?_ GE661.out) | exact HB.out)))); have n1_ := Aside0.mk (Kd.R_lower (Kd.R_newM (M := fun k_ => (w.heap.size ≤ k_)) ho1 (below_size (by repeat (first | (with_reducible first | exact HB.out | apply below_alloc | apply pw_below_drewN | apply below_drew1 | refine below_set ?_ GE661.out) | exact HB.out))) (fun k_ h_ => h_)) (below_size (by repeat (first | (with_reducible first | exact HB.out | apply below_alloc | apply pw_below_drewN | apply below_drew1 | refine below_set ?_ GE661.out) | exact HB.out)))); have n2_ := Aside0.mk (blk_below (g := gb661) (o := .cells #[.slice A0_0 l0_0.length c0_0, .bool a0_1] 28 (0, 0)) (by (with_reducible repeat (first | refine blk_drewN ?_ _ | refine blk_drew ?_ | refine blk_alloc ?_ _)); exact BK661.out) hb); have n3_ := Aside0.mk (below_step (by repeat (first | (with_reducible first | exact HB.out | apply below_alloc | apply pw_below_drewN | apply below_drew1 | refine below_set ?_ GE661.out) | exact HB.out)) hb); clear BK661; clear HB; have HO664 := n0_; have HO667 := n1_; have BK661 := n2_; have HB := n3_; clear n0_ n1_ n2_ n3_; (try clear hb); (try clear hb2); (try clear hk); (try clear hi); (try clear ho0); (try clear ho1); obtain ⟨Ao7, co7, eo7⟩ := Kd.R_slice HO667.out; subst eo7))
  go_loopg [7, 8, 9] k (fun kq v7 v8 v9 w' => ∃ (x7_1 : List (List Int)) (x8_1 : Int) (x9_1 : Int), v8 = .int .i64 x8_1 ∧ v9 = .int .i64 x9_1 ∧ Aside0 (spec_trMatching.l0 kq t662 t665 x7_1 x8_1 x9_1 = some (r1, r2)) ∧ Aside0 (kq ≤ k) ∧ Aside0 (Kd.R (Kd.int .i64) 3 w' w.heap.size (fun k_ => (w.heap.size ≤ k_) ∧ some k_ ≠ ((.slice Ao7 t665.length co7) : Value).ownBlock) v663 t662) ∧ Aside0 (Kd.R (Kd.int .i64) 3 w' w.heap.size (fun k_ => (w.heap.size ≤ k_) ∧ some k_ ≠ (v663 : Value).ownBlock) (.slice Ao7 t665.length co7) t665) ∧ Aside0 (Kd.N (Kd.slice 3 (Kd.int .i64)) 22 w' w.heap.size (fun k_ => (w.heap.size ≤ k_) ∧ some k_ ≠ (v663 : Value).ownBlock ∧ some k_ ≠ ((.slice Ao7 t665.length co7) : Value).ownBlock ∧ k_ ≠ gb661) v7 x7_1) ∧ Aside0 (w'.heap[gb661]? = some (.cells #[(.slice A0_0 l0_0.length c0_0), .bool a0_1] 28 (0, 0))) ∧ Aside0 (Below w.heap.size w w'))
  case atStart => exact ⟨(([] : List (List Int))), (0), (wrap64 ((t665.length : Int) - 1)), (by first | rfl | (simp; done) | (simp [*]; done)), (by first | rfl | (simp; done) | (simp [*]; done)), H', ⟨Nat.le_refl _⟩, ⟨by (with_reducible repeat (first | apply Kd.R_alloc | apply Kd.R_drewN | apply Kd.R_drew)); exact HO664.out⟩, ⟨by (with_reducible repeat (first | apply Kd.R_alloc | apply Kd.R_drewN | apply Kd.R_drew)); exact HO667.out⟩, ⟨by first | exact Kd.S_nil _ _ _ _ _ | exact Kd.N_nil _ _ _ _ _ | exact Kd.V_nil _ _ _ _ _ | exact Kd.Q_nil _ _ _ _ _ | exact Kd.R_nil _ _ _ _ _⟩, ⟨by (with_reducible repeat (first | refine blk_drewN ?_ _ | refine blk_drew ?_ | refine blk_alloc ?_ _)); exact BK661.out⟩, ⟨by repeat (first | (with_reducible first | exact HB.out | apply below_alloc | apply pw_below_drewN | apply below_drew1 | refine below_set ?_ GE661.out) | exact HB.out)⟩⟩
  case round =>
   clear H'
   (try clear p2);(try clear c3);(try clear c5);(try clear p6);(try clear c7);(try clear hcz5_0);(try clear hcz5_1);(try clear hfz5_0);(try clear hfz5_1)
   obtain ⟨x7_1, x8_1, x9_1, rfl, rfl, HA, HK1, HO_4, HO_5, HO_7, BK661, HB⟩ := hrel
   cases gk with
   | zero => exact absurd HA.out (by simp [spec_trMatching.l0])
   | succ k1 =>
    have H := HA.out
    clear HA
    simp only [spec_trMatching.l0] at H
    by_cases c8 : x9_1 ≥ 0
    ·rw [if_pos c8] at H
     have c8b0 : decide (0 ≤ x9_1) = true := decide_eq_true c8
     clear c8
     by_cases c9 : 0 ≤ x9_1
     ·rw [if_pos c9] at H
      have c9b0 : decide (0 ≤ x9_1) = true := decide_eq_true c9
      clear c9
      by_cases c10 : x9_1 < (t665.length : Int)
      ·rw [if_pos c10] at H
       have c10b0 : decide (x9_1 < (t665.length : Int)) = true := decide_eq_true c10
       clear c10
       by_cases c11 : 0 ≤ (rd t665 x9_1)
       ·rw [if_pos c11] at H
        have c11b0 : decide (0 ≤ (rd t665 x9_1)) = true := decide_eq_true c11
        clear c11
        by_cases c12 : (rd t665 x9_1) < (t662.length : Int)
        ·rw [if_pos c12] at H
         have c12b0 : decide ((rd t665 x9_1) < (t662.length : Int)) = true := decide_eq_true c12
         clear c12
         have HC13 := Aside0.mk H
         clear H
         try go_wp2
         have n0_ := Aside0.mk (Kd.R_drew HO_4.out)
         have n1_ := Aside0.mk (Kd.R_drew HO_5.out)
         have n2_ := Aside0.mk (Kd.N_drew HO_7.out)
         have n3_ := Aside0.mk (blk_drew BK661.out)
         have n4_ := Aside0.mk (below_drew1 HB.out)
         clear HO_4;clear HO_5;clear HO_7;clear BK661;clear HB
         have HO_4 := n0_
         have HO_5 := n1_
         have HO_7 := n2_
         have BK661 := n3_
         have HB := n4_
         clear n0_ n1_ n2_ n3_ n4_
         have p669 : 0 ≤ (x9_1 : Int) := of_decide_eq_true (by first | (with_reducible assumption) | assumption)
         have q669 : x9_1 < (t665.length : Int) := of_decide_eq_true (by first | (with_reducible assumption) | assumption)
         obtain ⟨ad669, e669, hx669_0⟩ := Kd.at_int (Kd.R_reads' HO_5.out).2.2 x9_1 p669 q669
         cases e669
         replace p669 := eq_true p669
         replace q669 := eq_true q669
         have p670 : 0 ≤ (x9_1 : Int) := of_decide_eq_true (by first | (with_reducible assumption) | assumption)
         have q670 : x9_1 < (t665.length : Int) := of_decide_eq_true (by first | (with_reducible assumption) | assumption)
         obtain ⟨ad670, e670, hx670_0⟩ := Kd.at_int (Kd.R_reads' HO_5.out).2.2 x9_1 p670 q670
         obtain rfl : ad669 = ad670 := (by injection e670)
         replace p670 := eq_true p670
         replace q670 := eq_true q670
         obtain ⟨Ao15, co15, eo15⟩ := Kd.R_slice HO_4.out
         (first | subst eo15 | (injection eo15 with f1_ f2_ f3_; have f4_ := f1_.symm; have f5_ := f3_.symm; clear f1_ f2_ f3_; subst f4_; subst f5_))
         have p671 : 0 ≤ ((rd t665 x9_1) : Int) := of_decide_eq_true (by first | (with_reducible assumption) | assumption)
         have q671 : (rd t665 x9_1) < (t662.length : Int) := of_decide_eq_true (by first | (with_reducible assumption) | assumption)
         obtain ⟨ad671, e671, hx671_0⟩ := Kd.at_int (Kd.R_reads' HO_4.out).2.2 (rd t665 x9_1) p671 q671
         cases e671
         replace p671 := eq_true p671
         replace q671 := eq_true q671
         refine start_ (n := 13) (S := fun w' => w'.cell? (ad669.add (x9_1).toNat) = some (.int .i64 (rd t665 x9_1)) ∧ w'.cell? (ad669.add (x9_1).toNat) = some (.int .i64 (rd t665 x9_1)) ∧ w'.cell? (ad671.add ((rd t665 x9_1)).toNat) = some (.int .i64 (rd t662 (rd t665 x9_1)))) (ds := []) #[false, false, false, false, false, false, false, false, false, false, false, false, false] (by kernel_rfl) rfl rfl ⟨hx669_0, hx670_0, hx671_0⟩ (fun hHeld => ?_); refine with_tabW spec_trMatching.tab9 spec_trMatching.bits9 (fun HT_ HW_ => ?_)
         generalize wr.drew = w14 at HO_4 HO_5 HO_7 BK661 HB hx669_0 hx670_0 hx671_0 hHeld ⊢
         refine pure_ (i := 0) (N := some 30) (v := ?_) (a' := ?_) #[true, false, false, false, false, false, false, false, false, false, false, false, false] rfl rfl (any_of HT_.out (by kernel_rfl)) (fun _ _ _ h => h) (Or.inl ⟨by rfl, ?_⟩) ?_ ?_
         rotate_left
         ·intro w'
          go_simp
          with_reducible rfl
         rotate_left
         ·simp only [Act.put, List.setIfInBounds_toArray, List.set_cons_zero, List.set_cons_succ, i64_w, i32_w]
          rfl
         refine pure_ (i := 1) (N := some 31) (v := ?_) (a' := ?_) #[true, true, false, false, false, false, false, false, false, false, false, false, false] rfl rfl (any_of HT_.out (by kernel_rfl)) (fun _ _ _ h => h) (Or.inl ⟨by rfl, ?_⟩) ?_ ?_
         rotate_left
         ·intro w'
          go_simp
          with_reducible rfl
         rotate_left
         ·simp only [Act.put, List.setIfInBounds_toArray, List.set_cons_zero, List.set_cons_succ, i64_w, i32_w]
          rfl
         refine pure_ (i := 2) (N := some 32) (v := ?_) (a' := ?_) #[true, true, true, false, false, false, false, false, false, false, false, false, false] rfl rfl (any_of HT_.out (by kernel_rfl)) (fun _ _ _ h => h) (Or.inl ⟨by rfl, ?_⟩) ?_ ?_
         rotate_left
         ·intro w'
          go_simp
          with_reducible rfl
         rotate_left
         ·simp only [Act.put, List.setIfInBounds_toArray, List.set_cons_zero, List.set_cons_succ, i64_w, i32_w]
          rfl
         refine pure_ (i := 4) (N := some 34) (v := ?_) (a' := ?_) #[true, true, true, false, true, false, false, false, false, false, false, false, false] rfl rfl (any_of HT_.out (by kernel_rfl)) (fun _ _ _ h => h) (Or.inl ⟨by rfl, ?_⟩) ?_ ?_
         rotate_left
         ·intro w'
          go_simp
          with_reducible rfl
         rotate_left
         ·simp only [Act.put, List.setIfInBounds_toArray, List.set_cons_zero, List.set_cons_succ, i64_w, i32_w]
          rfl
         refine pure_ (i := 5) (N := some 35) (v := ?_) (a' := ?_) #[true, true, true, false, true, true, false, false, false, false, false, false, false] rfl rfl (any_of HT_.out (by kernel_rfl)) (fun _ _ _ h => h) (Or.inl ⟨by rfl, ?_⟩) ?_ ?_
         rotate_left
         ·intro w'
          go_simp
          with_reducible rfl
         rotate_left
         ·simp only [Act.put, List.setIfInBounds_toArray, List.set_cons_zero, List.set_cons_succ, i64_w, i32_w]
          rfl
         refine pure_ (i := 6) (N := some 36) (v := ?_) (a' := ?_) #[true, true, true, false, true, true, true, false, false, false, false, false, false] rfl rfl (any_of HT_.out (by kernel_rfl)) (fun _ _ _ h => h) (Or.inl ⟨by rfl, ?_⟩) ?_ ?_
         rotate_left
         ·intro w'
          go_simp
          with_reducible rfl
         rotate_left
         ·simp only [Act.put, List.setIfInBounds_toArray, List.set_cons_zero, List.set_cons_succ, i64_w, i32_w]
          rfl
         refine pure_ (i := 7) (N := some 37) (v := ?_) (a' := ?_) #[true, true, true, false, true, true, true, true, false, false, false, false, false] rfl rfl (any_of HT_.out (by kernel_rfl)) (fun _ _ _ h => h) (Or.inl ⟨by rfl, ?_⟩) ?_ ?_
         rotate_left
         ·intro w'
          go_simp
          with_reducible rfl
         rotate_left
         ·simp only [Act.put, List.setIfInBounds_toArray, List.set_cons_zero, List.set_cons_succ, i64_w, i32_w]
          rfl
         refine take_ (i := 3) (N := some 33) (v := ?_) (a' := ?_) #[true, true, true, true, true, true, true, true, false, false, false, false, false] rfl rfl (take_ofW HT_.out HW_.out (by kernel_rfl)) (fun _ _ _ h => h) (Or.inl ⟨by rfl, ?_⟩) hHeld ?_ ?_
         rotate_left
         ·rintro w' ⟨s0, s1, s2⟩
          go_simp
          with_reducible rfl
         rotate_left
         ·simp only [Act.put, List.setIfInBounds_toArray, List.set_cons_zero, List.set_cons_succ, i64_w, i32_w]
          rfl
         refine pure_ (i := 11) (N := some 10) (v := ?_) (a' := ?_) #[true, true, true, true, true, true, true, true, false, false, false, true, false] rfl rfl (any_of HT_.out (by kernel_rfl)) (fun _ _ _ h => h) (Or.inl ⟨by rfl, ?_⟩) ?_ ?_
         rotate_left
         ·intro w'
          go_simp
          with_reducible rfl
         rotate_left
         ·simp only [Act.put, List.setIfInBounds_toArray, List.set_cons_zero, List.set_cons_succ, i64_w, i32_w]
          rfl
         refine take_ (i := 8) (N := some 38) (v := ?_) (a' := ?_) #[true, true, true, true, true, true, true, true, true, false, false, true, false] rfl rfl (take_ofW HT_.out HW_.out (by kernel_rfl)) (fun _ _ _ h => h) (Or.inl ⟨by rfl, ?_⟩) hHeld ?_ ?_
         rotate_left
         ·rintro w' ⟨s0, s1, s2⟩
          go_simp
          with_reducible rfl
         rotate_left
         ·simp only [Act.put, List.setIfInBounds_toArray, List.set_cons_zero, List.set_cons_succ, i64_w, i32_w]
          rfl
         refine pure_ (i := 9) (N := some 39) (v := ?_) (a' := ?_) #[true, true, true, true, true, true, true, true, true, true, false, true, false] rfl rfl (any_of HT_.out (by kernel_rfl)) (fun _ _ _ h => h) (Or.inl ⟨by rfl, ?_⟩) ?_ ?_
         rotate_left
         ·intro w'
          go_simp
          with_reducible rfl
         rotate_left
         ·simp only [Act.put, List.setIfInBounds_toArray, List.set_cons_zero, List.set_cons_succ, i64_w, i32_w]
          rfl
         refine take_ (i := 10) (N := some 40) (v := ?_) (a' := ?_) #[true, true, true, true, true, true, true, true, true, true, true, true, false] rfl rfl (take_ofW HT_.out HW_.out (by kernel_rfl)) (fun _ _ _ h => h) (Or.inl ⟨by rfl, ?_⟩) hHeld ?_ ?_
         rotate_left
         ·rintro w' ⟨s0, s1, s2⟩
          go_simp
          with_reducible rfl
         rotate_left
         ·simp only [Act.put, List.setIfInBounds_toArray, List.set_cons_zero, List.set_cons_succ, i64_w, i32_w]
          rfl
         refine pure_ (i := 12) (N := some 11) (v := ?_) (a' := ?_) #[true, true, true, true, true, true, true, true, true, true, true, true, true] rfl rfl (any_of HT_.out (by kernel_rfl)) (fun _ _ _ h => h) (Or.inl ⟨by rfl, ?_⟩) ?_ ?_
         rotate_left
         ·intro w'
          go_simp
          with_reducible rfl
         rotate_left
         ·simp only [Act.put, List.setIfInBounds_toArray, List.set_cons_zero, List.set_cons_succ, i64_w, i32_w]
          rfl
         refine done_ (done_of HT_.out (by kernel_rfl)) ?_
         go_upto_region 10 with (fail)
         go_cut [52] (fun v52 wc => ∃ (kq : Nat) (x52_12 : Bool), v52 = .bool x52_12 ∧ Aside0 (spec_trMatching.j1 kq t662 t665 x7_1 x8_1 x9_1 (rd t665 x9_1) (rd t662 (rd t665 x9_1)) x52_12 = some (r1, r2)) ∧ Aside0 (kq ≤ k1) ∧ Aside0 (Kd.R (Kd.int .i64) 3 wc w.heap.size (fun k_ => (w.heap.size ≤ k_) ∧ some k_ ≠ ((.slice (some ad669) t665.length co7) : Value).ownBlock) (.slice (some ad671) t662.length co15) t662) ∧ Aside0 (Kd.R (Kd.int .i64) 3 wc w.heap.size (fun k_ => (w.heap.size ≤ k_) ∧ some k_ ≠ ((.slice (some ad671) t662.length co15) : Value).ownBlock) (.slice (some ad669) t665.length co7) t665) ∧ Aside0 (Kd.N (Kd.slice 3 (Kd.int .i64)) 22 wc w.heap.size (fun k_ => (w.heap.size ≤ k_) ∧ some k_ ≠ ((.slice (some ad671) t662.length co15) : Value).ownBlock ∧ some k_ ≠ ((.slice (some ad669) t665.length co7) : Value).ownBlock ∧ k_ ≠ gb661) u7 x7_1) ∧ Aside0 (wc.heap[gb661]? = some (.cells #[(.slice A0_0 l0_0.length c0_0), .bool a0_1] 28 (0, 0))) ∧ Aside0 (Below w.heap.size w wc))
         case first =>
          have H := HC13.out
          clear HC13
          by_cases c16 : (rd t662 (rd t665 x9_1)) < 0
          ·rw [if_pos c16] at H
           have c16b0 : decide ((rd t662 (rd t665 x9_1)) < 0) = true := decide_eq_true c16
           clear c16
           (first | rw [c16b0] | (simp only [i64_w, i32_w]; rw [c16b0]) | skip)
           have H' := Aside0.mk H
           clear H
           go_wp2
           go_meet
           case rel => exact ⟨_, (true), (by first | rfl | (simp; done) | (simp [*]; done)), H', ⟨by have := HK1.out; first | omega | exact Nat.le_refl _⟩, ⟨by (with_reducible repeat (first | apply Kd.R_alloc | apply Kd.R_drewN | apply Kd.R_drew)); exact HO_4.out⟩, ⟨by (with_reducible repeat (first | apply Kd.R_alloc | apply Kd.R_drewN | apply Kd.R_drew)); exact HO_5.out⟩, ⟨by (with_reducible repeat (first | apply Kd.N_alloc | apply Kd.N_drewN | apply Kd.N_drew)); exact HO_7.out⟩, ⟨by (with_reducible repeat (first | refine blk_drewN ?_ _ | refine blk_drew ?_ | refine blk_alloc ?_ _)); exact BK661.out⟩, ⟨by repeat (first | (with_reducible first | exact HB.out | apply below_alloc | apply pw_below_drewN | apply below_drew1 | refine below_set ?_ GE661.out) | exact HB.out)⟩⟩
          ·rw [if_neg c16] at H
           have c16b0 : decide ((rd t662 (rd t665 x9_1)) < 0) = false := decide_eq_false c16
           clear c16
           (first | rw [c16b0] | (simp only [i64_w, i32_w]; rw [c16b0]) | skip)
           replace H := Option.bind_eq_some_iff.mp H
           obtain ⟨t672, A170, H⟩ := H
           replace H : (if t672 = true then (spec_trMatching.j1 k1 t662 t665 x7_1 x8_1 x9_1 (rd t665 x9_1) (rd t662 (rd t665 x9_1)) true) else ((spec_grIn.f x8_1 (rd t662 (rd t665 x9_1))).bind fun t673 => (spec_trMatching.j1 k1 t662 t665 x7_1 x8_1 x9_1 (rd t665 x9_1) (rd t662 (rd t665 x9_1)) t673))) = some (r1, r2) := H
           have A17 := Aside0.mk A170
           clear A170
           by_cases c18 : t672 = true
           ·subst c18
            have H1 : (spec_trMatching.j1 k1 t662 t665 x7_1 x8_1 x9_1 (rd t665 x9_1) (rd t662 (rd t665 x9_1)) true) = some (r1, r2) := by rw [if_pos rfl] at H; exact H
            clear H
            have H := H1
            clear H1
            have H' := Aside0.mk H
            clear H
            go_wp2_with (first | (go_at_call 62; (with_reducible refine (spec_grIn.calls x8_1 (rd t665 x9_1) true _ A17.out).mono ?_); rintro e w' ⟨rfl, ⟨nd, rfl⟩⟩))
            go_meet
            case rel => exact ⟨_, (true), (by first | rfl | (simp; done) | (simp [*]; done)), H', ⟨by have := HK1.out; first | omega | exact Nat.le_refl _⟩, ⟨by (with_reducible repeat (first | apply Kd.R_alloc | apply Kd.R_drewN | apply Kd.R_drew)); exact HO_4.out⟩, ⟨by (with_reducible repeat (first | apply Kd.R_alloc | apply Kd.R_drewN | apply Kd.R_drew)); exact HO_5.out⟩, ⟨by (with_reducible repeat (first | apply Kd.N_alloc | apply Kd.N_drewN | apply Kd.N_drew)); exact HO_7.out⟩, ⟨by (with_reducible repeat (first | refine blk_drewN ?_ _ | refine blk_drew ?_ | refine blk_alloc ?_ _)); exact BK661.out⟩, ⟨by repeat (first | (with_reducible first | exact HB.out | apply below_alloc | apply pw_below_drewN | apply below_drew1 | refine below_set ?_ GE661.out) | exact HB.out)⟩⟩
           ·replace c18 := Bool.eq_false_iff.mpr c18
            subst c18
            have H1 : ((spec_grIn.f x8_1 (rd t662 (rd t665 x9_1))).bind fun t673 => (spec_trMatching.j1 k1 t662 t665 x7_1 x8_1 x9_1 (rd t665 x9_1) (rd t662 (rd t665 x9_1)) t673)) = some (r1, r2) := by rw [if_neg (show ¬ (false = true) by decide)] at H; exact H
            clear H
            have H := H1
            clear H1
            replace H := Option.bind_eq_some_iff.mp H
            obtain ⟨t673, A190, H⟩ := H
            replace H : (spec_trMatching.j1 k1 t662 t665 x7_1 x8_1 x9_1 (rd t665 x9_1) (rd t662 (rd t665 x9_1)) t673) = some (r1, r2) := H
            have A19 := Aside0.mk A190
            clear A190
            have H' := Aside0.mk H
            clear H
            go_wp2_with (first | (go_at_call 62; (with_reducible refine (spec_grIn.calls x8_1 (rd t665 x9_1) false _ A17.out).mono ?_); rintro e w' ⟨rfl, ⟨nd, rfl⟩⟩) | (go_at_call 62; (with_reducible refine (spec_grIn.calls x8_1 (rd t662 (rd t665 x9_1)) t673 _ A19.out).mono ?_); rintro e w' ⟨rfl, ⟨nd, rfl⟩⟩))
            go_meet
            case rel => exact ⟨_, (t673), (by first | rfl | (simp; done) | (simp [*]; done)), H', ⟨by have := HK1.out; first | omega | exact Nat.le_refl _⟩, ⟨by (with_reducible repeat (first | apply Kd.R_alloc | apply Kd.R_drewN | apply Kd.R_drew)); exact HO_4.out⟩, ⟨by (with_reducible repeat (first | apply Kd.R_alloc | apply Kd.R_drewN | apply Kd.R_drew)); exact HO_5.out⟩, ⟨by (with_reducible repeat (first | apply Kd.N_alloc | apply Kd.N_drewN | apply Kd.N_drew)); exact HO_7.out⟩, ⟨by (with_reducible repeat (first | refine blk_drewN ?_ _ | refine blk_drew ?_ | refine blk_alloc ?_ _)); exact BK661.out⟩, ⟨by repeat (first | (with_reducible first | exact HB.out | apply below_alloc | apply pw_below_drewN | apply below_drew1 | refine below_set ?_ GE661.out) | exact HB.out)⟩⟩
         case rest =>
          clear HC13;(try clear c1);(try clear p2);(try clear c3);(try clear c5);(try clear p6);(try clear q6);(try clear hx6);(try clear c7);(try clear c8);(try clear c8b0);(try clear c9);(try clear c9b0);(try clear c10);(try clear c10b0);(try clear c11);(try clear c11b0);(try clear c12);(try clear c12b0);(try clear c16);(try clear c16b0);(try clear c18);(try clear hcz5_0);(try clear hcz5_1);(try clear hfz5_0);(try clear hfz5_1);(try clear hx669_0);(try clear hx670_0);(try clear hx671_0);(try clear p2);(try clear p6);(try clear p669);(try clear p670);(try clear p671);(try clear q669);(try clear q670);(try clear q671)
          obtain ⟨kq, x52_12, rfl, HA, HJ12, HO_4, HO_5, HO_7, BK661, HB⟩ := hcut
          cases kq with
          | zero => exact absurd HA.out (by simp [spec_trMatching.j1])
          | succ kj12 =>
           have H := HA.out
           clear HA
           simp only [spec_trMatching.j1] at H
           by_cases c20 : x52_12 = true
           ·subst c20
            have H1 : (spec_trMatching.l0 kj12 t662 t665 x7_1 x8_1 (wrap64 (x9_1 - 1))) = some (r1, r2) := by rw [if_pos rfl] at H; exact H
            clear H
            have H := H1
            clear H1
            have H' := Aside0.mk H
            clear H
            go_wp2
            go_roundg kj12
            case measure => have := HK1.out; have := HJ12.out; omega
            case rel => exact ⟨(x7_1), (x8_1), (wrap64 (x9_1 - 1)), (by first | rfl | (simp; done) | (simp [*]; done)), (by first | rfl | (simp; done) | (simp [*]; done)), H', ⟨by have := HK1.out; have := HJ12.out; omega⟩, ⟨by (with_reducible repeat (first | apply Kd.R_alloc | apply Kd.R_drewN | apply Kd.R_drew)); exact HO_4.out⟩, ⟨by (with_reducible repeat (first | apply Kd.R_alloc | apply Kd.R_drewN | apply Kd.R_drew)); exact HO_5.out⟩, ⟨by (with_reducible repeat (first | apply Kd.N_alloc | apply Kd.N_drewN | apply Kd.N_drew)); exact HO_7.out⟩, ⟨by (with_reducible repeat (first | refine blk_drewN ?_ _ | refine blk_drew ?_ | refine blk_alloc ?_ _)); exact BK661.out⟩, ⟨by repeat (first | (with_reducible first | exact HB.out | apply below_alloc | apply pw_below_drewN | apply below_drew1 | refine below_set ?_ GE661.out) | exact HB.out)⟩⟩
           ·replace c20 := Bool.eq_false_iff.mpr c20
            subst c20
            have H1 : (if 0 ≤ (rd t665 x9_1) then (if 0 ≤ (rd t662 (rd t665 x9_1)) then ((spec_l1Least.f (rd t665 x9_1) (rd t662 (rd t665 x9_1))).bind fun t674 => ((spec_l1Most.f (rd t665 x9_1) (rd t662 (rd t665 x9_1))).bind fun t675 => (spec_trMatching.l1 kj12 t662 t665 x7_1 (Go.bits .or .i64 x8_1 (Go.bits .or .i64 (shl .i64 1 (rd t665 x9_1)) (shl .i64 1 (rd t662 (rd t665 x9_1))))) x9_1 (([t674, t675] : List Int)) 0))) else (none)) else (none)) = some (r1, r2) := by rw [if_neg (show ¬ (false = true) by decide)] at H; exact H
            clear H
            have H := H1
            clear H1
            by_cases c21 : 0 ≤ (rd t665 x9_1)
            ·rw [if_pos c21] at H
             have c21b0 := eq_true c21
             have c21b1 : decide (0 ≤ (rd t665 x9_1)) = true := decide_eq_true c21
             clear c21
             obtain ⟨ji22, hji22⟩ : ∃ j_ : Int, (shl .i64 1 (rd t665 x9_1)) = j_ := ⟨_, rfl⟩
             replace H : (if 0 ≤ (rd t662 (rd t665 x9_1)) then ((spec_l1Least.f (rd t665 x9_1) (rd t662 (rd t665 x9_1))).bind fun t674 => ((spec_l1Most.f (rd t665 x9_1) (rd t662 (rd t665 x9_1))).bind fun t675 => (spec_trMatching.l1 kj12 t662 t665 x7_1 (Go.bits .or .i64 x8_1 (Go.bits .or .i64 (ji22) (shl .i64 1 (rd t662 (rd t665 x9_1))))) x9_1 (([t674, t675] : List Int)) 0))) else (none)) = some (r1, r2) := by first | (rw [hji22] at H; exact H) | (simp only [hji22] at H ⊢; exact H)
             have hji22_ : (IntKind.i64.wrap (1 * 2 ^ min (rd t665 x9_1).toNat 64)) = ji22 := hji22
             have hji22z : (rd t665 x9_1) ≤ 64 → (IntKind.i64.wrap (1 * 2 ^ (rd t665 x9_1).toNat)) = ji22 := shl_small hji22
             have hji22u : (IntKind.i64.wrap (2 ^ min (rd t665 x9_1).toNat 64)) = ji22 := by have h_ := hji22_; rw [Int.one_mul] at h_; exact h_
             have hji22v : (rd t665 x9_1) ≤ 64 → (IntKind.i64.wrap (2 ^ (rd t665 x9_1).toNat)) = ji22 := fun hle_ => by have h_ := hji22z hle_; rw [Int.one_mul] at h_; exact h_
             have hji22y : (wrap64 (1 * 2 ^ min (rd t665 x9_1).toNat 64)) = ji22 := (i64_w _).symm.trans hji22_
             have hji22x : (rd t665 x9_1) ≤ 64 → (wrap64 (1 * 2 ^ (rd t665 x9_1).toNat)) = ji22 := fun h_ => (i64_w _).symm.trans (hji22z h_)
             by_cases c23 : 0 ≤ (rd t662 (rd t665 x9_1))
             ·rw [if_pos c23] at H
              have c23b0 := eq_true c23
              have c23b1 : decide (0 ≤ (rd t662 (rd t665 x9_1))) = true := decide_eq_true c23
              clear c23
              obtain ⟨ji24, hji24⟩ : ∃ j_ : Int, (shl .i64 1 (rd t662 (rd t665 x9_1))) = j_ := ⟨_, rfl⟩
              replace H : ((spec_l1Least.f (rd t665 x9_1) (rd t662 (rd t665 x9_1))).bind fun t674 => ((spec_l1Most.f (rd t665 x9_1) (rd t662 (rd t665 x9_1))).bind fun t675 => (spec_trMatching.l1 kj12 t662 t665 x7_1 (Go.bits .or .i64 x8_1 (Go.bits .or .i64 (ji22) (ji24))) x9_1 (([t674, t675] : List Int)) 0))) = some (r1, r2) := by first | (rw [hji24] at H; exact H) | (simp only [hji24] at H ⊢; exact H)
              have hji24_ : (IntKind.i64.wrap (1 * 2 ^ min (rd t662 (rd t665 x9_1)).toNat 64)) = ji24 := hji24
              have hji24z : (rd t662 (rd t665 x9_1)) ≤ 64 → (IntKind.i64.wrap (1 * 2 ^ (rd t662 (rd t665 x9_1)).toNat)) = ji24 := shl_small hji24
              have hji24u : (IntKind.i64.wrap (2 ^ min (rd t662 (rd t665 x9_1)).toNat 64)) = ji24 := by have h_ := hji24_; rw [Int.one_mul] at h_; exact h_
              have hji24v : (rd t662 (rd t665 x9_1)) ≤ 64 → (IntKind.i64.wrap (2 ^ (rd t662 (rd t665 x9_1)).toNat)) = ji24 := fun hle_ => by have h_ := hji24z hle_; rw [Int.one_mul] at h_; exact h_
              have hji24y : (wrap64 (1 * 2 ^ min (rd t662 (rd t665 x9_1)).toNat 64)) = ji24 := (i64_w _).symm.trans hji24_
              have hji24x : (rd t662 (rd t665 x9_1)) ≤ 64 → (wrap64 (1 * 2 ^ (rd t662 (rd t665 x9_1)).toNat)) = ji24 := fun h_ => (i64_w _).symm.trans (hji24z h_)
              replace H := Option.bind_eq_some_iff.mp H
              obtain ⟨t674, A250, H⟩ := H
              replace H : ((spec_l1Most.f (rd t665 x9_1) (rd t662 (rd t665 x9_1))).bind fun t675 => (spec_trMatching.l1 kj12 t662 t665 x7_1 (Go.bits .or .i64 x8_1 (Go.bits .or .i64 (ji22) (ji24))) x9_1 (([t674, t675] : List Int)) 0)) = some (r1, r2) := H
              have A25 := Aside0.mk A250
              clear A250
              replace H := Option.bind_eq_some_iff.mp H
              obtain ⟨t675, A260, H⟩ := H
              replace H : (spec_trMatching.l1 kj12 t662 t665 x7_1 (Go.bits .or .i64 x8_1 (Go.bits .or .i64 (ji22) (ji24))) x9_1 (([t674, t675] : List Int)) 0) = some (r1, r2) := H
              have A26 := Aside0.mk A260
              clear A260
              obtain ⟨y676, hy676⟩ : ∃ y_ : List Int, y_ = (([t674, t675] : List Int)) := ⟨_, rfl⟩
              replace H : (spec_trMatching.l1 kj12 t662 t665 x7_1 (Go.bits .or .i64 x8_1 (Go.bits .or .i64 (ji22) (ji24))) x9_1 y676 0) = some (r1, r2) := by first | (rw [hy676]; with_reducible exact H) | (have H2_ := (Option.bind_some _ _).symm.trans H; rw [hy676]; with_reducible exact H2_) | (have H2_ := (Option.bind_some _ _).symm.trans H; with_reducible exact H2_) | with_reducible exact H | (rw [hy676]; exact H) | exact H
              have Ny676 := Aside0.mk hy676
              clear hy676
              have H' := Aside0.mk H
              clear H
              try go_wp2
              have n0_ := Aside0.mk (Kd.R_drew HO_4.out)
              have n1_ := Aside0.mk (Kd.R_drew HO_5.out)
              have n2_ := Aside0.mk (Kd.N_drew HO_7.out)
              have n3_ := Aside0.mk (blk_drew BK661.out)
              have n4_ := Aside0.mk (below_drew1 HB.out)
              clear HO_4;clear HO_5;clear HO_7;clear BK661;clear HB
              have HO_4 := n0_
              have HO_5 := n1_
              have HO_7 := n2_
              have BK661 := n3_
              have HB := n4_
              clear n0_ n1_ n2_ n3_ n4_
              refine start_ (n := 8) (S := fun w' => True) (ds := []) #[false, false, false, false, false, false, false, false] (by kernel_rfl) rfl rfl trivial (fun hHeld => ?_); refine with_tabW spec_trMatching.tab11 spec_trMatching.bits11 (fun HT_ HW_ => ?_)
              generalize wc.drew = w27 at HO_4 HO_5 HO_7 BK661 HB hHeld ⊢
              refine pure_ (i := 0) (N := some 53) (v := ?_) (a' := ?_) #[true, false, false, false, false, false, false, false] rfl rfl (any_of HT_.out (by kernel_rfl)) (fun _ _ _ h => h) (Or.inl ⟨by rfl, ?_⟩) ?_ ?_
              rotate_left
              ·intro w'
               go_simp
               with_reducible rfl
              rotate_left
              ·simp only [Act.put, List.setIfInBounds_toArray, List.set_cons_zero, List.set_cons_succ, i64_w, i32_w]
               rfl
              refine pure_ (i := 1) (N := some 54) (v := ?_) (a' := ?_) #[true, true, false, false, false, false, false, false] rfl rfl (any_of HT_.out (by kernel_rfl)) (fun _ _ _ h => h) (Or.inl ⟨by rfl, ?_⟩) ?_ ?_
              rotate_left
              ·intro w'
               go_simp
               with_reducible rfl
              rotate_left
              ·simp only [Act.put, List.setIfInBounds_toArray, List.set_cons_zero, List.set_cons_succ, i64_w, i32_w]
               rfl
              refine pure_ (i := 2) (N := some 55) (v := ?_) (a' := ?_) #[true, true, true, false, false, false, false, false] rfl rfl (any_of HT_.out (by kernel_rfl)) (fun _ _ _ h => h) (Or.inl ⟨by rfl, ?_⟩) ?_ ?_
              rotate_left
              ·intro w'
               go_simp
               with_reducible rfl
              rotate_left
              ·simp only [Act.put, List.setIfInBounds_toArray, List.set_cons_zero, List.set_cons_succ, i64_w, i32_w]
               rfl
              refine pure_ (i := 3) (N := some 56) (v := ?_) (a' := ?_) #[true, true, true, true, false, false, false, false] rfl rfl (any_of HT_.out (by kernel_rfl)) (fun _ _ _ h => h) (Or.inl ⟨by rfl, ?_⟩) ?_ ?_
              rotate_left
              ·intro w'
               go_simp
               with_reducible rfl
              rotate_left
              ·simp only [Act.put, List.setIfInBounds_toArray, List.set_cons_zero, List.set_cons_succ, i64_w, i32_w]
               rfl
              refine pure_ (i := 4) (N := some 57) (v := ?_) (a' := ?_) #[true, true, true, true, true, false, false, false] rfl rfl (any_of HT_.out (by kernel_rfl)) (fun _ _ _ h => h) (Or.inl ⟨by rfl, ?_⟩) ?_ ?_
              rotate_left
              ·intro w'
               go_simp
               with_reducible rfl
              rotate_left
              ·simp only [Act.put, List.setIfInBounds_toArray, List.set_cons_zero, List.set_cons_succ, i64_w, i32_w]
               rfl
              refine pure_ (i := 5) (N := some 58) (v := ?_) (a' := ?_) #[true, true, true, true, true, true, false, false] rfl rfl (any_of HT_.out (by kernel_rfl)) (fun _ _ _ h => h) (Or.inl ⟨by rfl, ?_⟩) ?_ ?_
              rotate_left
              ·intro w'
               go_simp
               with_reducible rfl
              rotate_left
              ·simp only [Act.put, List.setIfInBounds_toArray, List.set_cons_zero, List.set_cons_succ, i64_w, i32_w]
               rfl
              refine pure_ (i := 6) (N := some 59) (v := ?_) (a' := ?_) #[true, true, true, true, true, true, true, false] rfl rfl (any_of HT_.out (by kernel_rfl)) (fun _ _ _ h => h) (Or.inl ⟨by rfl, ?_⟩) ?_ ?_
              rotate_left
              ·intro w'
               go_simp
               with_reducible rfl
              rotate_left
              ·simp only [Act.put, List.setIfInBounds_toArray, List.set_cons_zero, List.set_cons_succ, i64_w, i32_w]
               rfl
              refine pure_ (i := 7) (N := some 8) (v := ?_) (a' := ?_) #[true, true, true, true, true, true, true, true] rfl rfl (any_of HT_.out (by kernel_rfl)) (fun _ _ _ h => h) (Or.inl ⟨by rfl, ?_⟩) ?_ ?_
              rotate_left
              ·intro w'
               go_simp
               with_reducible rfl
              rotate_left
              ·simp only [Act.put, List.setIfInBounds_toArray, List.set_cons_zero, List.set_cons_succ, i64_w, i32_w]
               rfl
              refine done_ (done_of HT_.out (by kernel_rfl)) ?_
              try go_wp2_with (first | ((with_reducible refine gate_callee (f := 87) rfl ?_); refine goesL_ (some 62) rfl rfl Try.func87 (by kernel_rfl) rfl #[.int .i64 (rd t665 x9_1), .int .i64 (rd t662 (rd t665 x9_1))] rfl (by (try simp only [List.map_toArray, List.map_cons, List.map_nil]); first | done | rfl | (simp only [List.length_drop, List.length_take]; rfl)) ?_; (with_reducible refine (spec_l1Least.calls (rd t665 x9_1) (rd t662 (rd t665 x9_1)) t674 _ A25.out).mono ?_); rintro e w' ⟨rfl, ⟨nd, rfl⟩⟩; refine ⟨_, rfl, ?_⟩) | ((with_reducible refine gate_callee (f := 88) rfl ?_); refine goesL_ (some 65) rfl rfl Try.func88 (by kernel_rfl) rfl #[.int .i64 (rd t665 x9_1), .int .i64 (rd t662 (rd t665 x9_1))] rfl (by (try simp only [List.map_toArray, List.map_cons, List.map_nil]); first | done | rfl | (simp only [List.length_drop, List.length_take]; rfl)) ?_; (with_reducible refine (spec_l1Most.calls (rd t665 x9_1) (rd t662 (rd t665 x9_1)) t675 _ A26.out).mono ?_); rintro e w' ⟨rfl, ⟨nd, rfl⟩⟩; refine ⟨_, rfl, ?_⟩) | ((with_reducible refine gate_dst (N := 66) rfl ?_); refine Kd.R_lit (Kd.int .i64) _ 3 ?hg (N := 66) ?hd (xs := ([t674, t675] : List Int)) (inner := [.int .i64 t674, .int .i64 t675]) (ok := fun _ => True) (okp := fun _ => True) ?hr ?hp (fun _ hk => hk) trivial (Below.refl _ _) (Nat.le_refl _) (by simp) ?_; (case hd => rfl); (case hg => rfl); (case hr => first | (go_simp; done) | (go_simp; rfl)); (case hp => exact (Reps.one (show Kd.M (Kd.int .i64) _ _ _ t674 [.int .i64 t674] from rfl) (Reps.one (show Kd.M (Kd.int .i64) _ _ _ t675 [.int .i64 t675] from rfl) (Reps.none _ _)))); intro v677 w28 ho29 hb hg_ hnew_; clear hg_ hnew_; (first | rw [← Ny676.out] at ho29 | (simp only [Int.reduceToNat] at ho29; rw [← Ny676.out] at ho29)); have n0_ := Aside0.mk (Kd.R_elder' (by (with_reducible repeat (first | apply Kd.R_alloc | apply Kd.R_drewN | apply Kd.R_drew)); exact HO_4.out) (Kd.R_base ho29) hb); have n1_ := Aside0.mk (Kd.R_elder' (by (with_reducible repeat (first | apply Kd.R_alloc | apply Kd.R_drewN | apply Kd.R_drew)); exact HO_5.out) (Kd.R_base ho29) hb); have n2_ := Aside0.mk (Kd.N_elder' (by (with_reducible repeat (first | apply Kd.N_alloc | apply Kd.N_drewN | apply Kd.N_drew)); exact HO_7.out) (Kd.R_base ho29) hb); have n3_ := Aside0.mk (Kd.R_lower (Kd.R_new' (Kd.R_new' (Kd.R_newM (M := fun k_ => (w.heap.size ≤ k_)) ho29 (below_size (by repeat (first | (with_reducible first | exact HB.out | apply below_alloc | apply pw_below_drewN | apply below_drew1 | refine below_set ?_ GE661.out) | exact HB.out))) (fun k_ h_ => h_)) (Kd.R_lt (by (with_reducible repeat (first | apply Kd.R_alloc | apply Kd.R_drewN | apply Kd.R_drew)); exact HO_4.out))) (Kd.R_lt (by (with_reducible repeat (first | apply Kd.R_alloc | apply Kd.R_drewN | apply Kd.R_drew)); exact HO_5.out))) (below_size (by repeat (first | (with_reducible first | exact HB.out | apply below_alloc | apply pw_below_drewN | apply below_drew1 | refine below_set ?_ GE661.out) | exact HB.out)))); have n4_ := Aside0.mk (blk_below (g := gb661) (o := .cells #[.slice A0_0 l0_0.length c0_0, .bool a0_1] 28 (0, 0)) (by (with_reducible repeat (first | refine blk_drewN ?_ _ | refine blk_drew ?_ | refine blk_alloc ?_ _)); exact BK661.out) hb); have n5_ := Aside0.mk (below_step (by repeat (first | (with_reducible first | exact HB.out | apply below_alloc | apply pw_below_drewN | apply below_drew1 | refine below_set ?_ GE661.out) | exact HB.out)) hb); clear HO_4; clear HO_5; clear HO_7; clear BK661; clear HB; have HO_4 := n0_; have HO_5 := n1_; have HO_7 := n2_; have HO678 := n3_; have BK661 := n4_; have HB := n5_; clear n0_ n1_ n2_ n3_ n4_ n5_; clear hb ho29))
              go_loopg [13] kj12 (fun kq v13 w' => ∃ (x13_3 : Int), v13 = .int .i64 x13_3 ∧ Aside0 (spec_trMatching.l1 kq t662 t665 x7_1 (Go.bits .or .i64 x8_1 (Go.bits .or .i64 (ji22) (ji24))) x9_1 y676 x13_3 = some (r1, r2)) ∧ Aside0 (kq ≤ kj12) ∧ Aside0 (Kd.R (Kd.int .i64) 3 w' w.heap.size (fun k_ => (w.heap.size ≤ k_) ∧ some k_ ≠ ((.slice (some ad669) t665.length co7) : Value).ownBlock ∧ some k_ ≠ (v677 : Value).ownBlock) (.slice (some ad671) t662.length co15) t662) ∧ Aside0 (Kd.R (Kd.int .i64) 3 w' w.heap.size (fun k_ => (w.heap.size ≤ k_) ∧ some k_ ≠ ((.slice (some ad671) t662.length co15) : Value).ownBlock ∧ some k_ ≠ (v677 : Value).ownBlock) (.slice (some ad669) t665.length co7) t665) ∧ Aside0 (Kd.N (Kd.slice 3 (Kd.int .i64)) 22 w' w.heap.size (fun k_ => (w.heap.size ≤ k_) ∧ some k_ ≠ ((.slice (some ad671) t662.length co15) : Value).ownBlock ∧ some k_ ≠ ((.slice (some ad669) t665.length co7) : Value).ownBlock ∧ some k_ ≠ (v677 : Value).ownBlock ∧ k_ ≠ gb661) u7 x7_1) ∧ Aside0 (Kd.R (Kd.int .i64) 3 w' w.heap.size (fun k_ => (w.heap.size ≤ k_) ∧ some k_ ≠ ((.slice (some ad671) t662.length co15) : Value).ownBlock ∧ some k_ ≠ ((.slice (some ad669) t665.length co7) : Value).ownBlock) v677 y676) ∧ Aside0 (w'.heap[gb661]? = some (.cells #[(.slice A0_0 l0_0.length c0_0), .bool a0_1] 28 (0, 0))) ∧ Aside0 (Below w.heap.size w w'))
              case atStart => exact ⟨(0), (by first | rfl | (simp; done) | (simp [*]; done)), H', ⟨Nat.le_refl _⟩, ⟨by (with_reducible repeat (first | apply Kd.R_alloc | apply Kd.R_drewN | apply Kd.R_drew)); exact Kd.R_mono HO_4.out (fun _ hk => ⟨hk.1.1, ⟨hk.1.2, hk.2⟩⟩)⟩, ⟨by (with_reducible repeat (first | apply Kd.R_alloc | apply Kd.R_drewN | apply Kd.R_drew)); exact Kd.R_mono HO_5.out (fun _ hk => ⟨hk.1.1, ⟨hk.1.2, hk.2⟩⟩)⟩, ⟨by (with_reducible repeat (first | apply Kd.N_alloc | apply Kd.N_drewN | apply Kd.N_drew)); exact Kd.N_mono HO_7.out (fun _ hk => ⟨hk.1.1, ⟨hk.1.2.1, ⟨hk.1.2.2.1, ⟨hk.2, hk.1.2.2.2⟩⟩⟩⟩)⟩, ⟨by (with_reducible repeat (first | apply Kd.R_alloc | apply Kd.R_drewN | apply Kd.R_drew)); exact Kd.R_mono HO678.out (fun _ hk => ⟨hk.1.1.1, ⟨hk.1.2, hk.2⟩⟩)⟩, ⟨by (with_reducible repeat (first | refine blk_drewN ?_ _ | refine blk_drew ?_ | refine blk_alloc ?_ _)); exact BK661.out⟩, ⟨by repeat (first | (with_reducible first | exact HB.out | apply below_alloc | apply pw_below_drewN | apply below_drew1 | refine below_set ?_ GE661.out) | exact HB.out)⟩⟩
              case round =>
               clear H'
               (try clear c1);(try clear c2);(try clear p2);(try clear c3);(try clear c5);(try clear p6);(try clear q6);(try clear hx6);(try clear c7);(try clear c8);(try clear c8b0);(try clear c9);(try clear c9b0);(try clear c10);(try clear c10b0);(try clear c11);(try clear c11b0);(try clear c12);(try clear c12b0);(try clear c16);(try clear c16b0);(try clear c18);(try clear c20);(try clear c21);(try clear c21b0);(try clear c21b1);(try clear c23);(try clear c23b0);(try clear c23b1);(try clear hcz5_0);(try clear hcz5_1);(try clear hfz5_0);(try clear hfz5_1);(try clear hx669_0);(try clear hx670_0);(try clear hx671_0);(try clear p2);(try clear p6);(try clear p669);(try clear p670);(try clear p671);(try clear q6);(try clear q669);(try clear q670);(try clear q671)
               obtain ⟨x13_3, rfl, HA, HK3, HO_4, HO_5, HO_7, HO_12, BK661, HB⟩ := hrel
               cases gk with
               | zero => exact absurd HA.out (by simp [spec_trMatching.l1])
               | succ k3 =>
                have H := HA.out
                clear HA
                simp only [spec_trMatching.l1] at H
                by_cases c30 : x13_3 < (x7_1.length : Int)
                ·rw [if_pos c30] at H
                 have c30b0 : decide (x13_3 < (x7_1.length : Int)) = true := decide_eq_true c30
                 clear c30
                 by_cases c31 : 0 ≤ x13_3
                 ·rw [if_pos c31] at H
                  have c31b0 : decide (0 ≤ x13_3) = true := decide_eq_true c31
                  clear c31
                  by_cases c32 : 0 < ((rd_L1 x7_1 x13_3).length : Int)
                  ·rw [if_pos c32] at H
                   have c32b0 : decide (0 < ((rd_L1 x7_1 x13_3).length : Int)) = true := decide_eq_true c32
                   have c32b1 : decide (0 < (rd_L1 x7_1 x13_3).length) = true := decide_eq_true (by omega)
                   clear c32
                   by_cases c33 : 0 < (y676.length : Int)
                   ·rw [if_pos c33] at H
                    have c33b0 : decide (0 < (y676.length : Int)) = true := decide_eq_true c33
                    have c33b1 : decide (0 < y676.length) = true := decide_eq_true (by omega)
                    clear c33
                    by_cases c34 : (rd (rd_L1 x7_1 x13_3) 0) < (rd y676 0)
                    ·rw [if_pos c34] at H
                     have c34b0 : decide ((rd (rd_L1 x7_1 x13_3) 0) < (rd y676 0)) = true := decide_eq_true c34
                     clear c34
                     have H' := Aside0.mk H
                     clear H
                     try go_wp2
                     have n0_ := Aside0.mk (Kd.R_drew HO_4.out)
                     have n1_ := Aside0.mk (Kd.R_drew HO_5.out)
                     have n2_ := Aside0.mk (Kd.N_drew HO_7.out)
                     have n3_ := Aside0.mk (Kd.R_drew HO_12.out)
                     have n4_ := Aside0.mk (blk_drew BK661.out)
                     have n5_ := Aside0.mk (below_drew1 HB.out)
                     clear HO_4;clear HO_5;clear HO_7;clear HO_12;clear BK661;clear HB
                     have HO_4 := n0_
                     have HO_5 := n1_
                     have HO_7 := n2_
                     have HO_12 := n3_
                     have BK661 := n4_
                     have HB := n5_
                     clear n0_ n1_ n2_ n3_ n4_ n5_
                     obtain ⟨Ao36, co36, eo36⟩ := Kd.N_slice HO_7.out
                     (first | subst eo36 | (injection eo36 with f1_ f2_ f3_; have f4_ := f1_.symm; have f5_ := f3_.symm; clear f1_ f2_ f3_; subst f4_; subst f5_))
                     have p679 : 0 ≤ (x13_3 : Int) := of_decide_eq_true (by first | (with_reducible assumption) | assumption)
                     have q679 : x13_3 < (x7_1.length : Int) := of_decide_eq_true (by first | (with_reducible assumption) | assumption)
                     obtain ⟨ad679, A679_0, c679_0, e679, hx679_0, hl679_0, hi679_0⟩ := at_L1 (Kd.N_reads' HO_7.out).2.2 x13_3 p679 q679
                     cases e679
                     obtain ⟨ce679, hce679, hMe679, hcc679⟩ := Kd.N_get HO_7.out [] x13_3 p679 (by first | exact q679 | exact of_decide_eq_true (by first | (with_reducible assumption) | assumption) | (have e_ := (Kd.N_reads' HO_7.out).1; omega))
                     obtain ⟨ua679_0, uc679_0, rfl, ul679_0, ge679_0⟩ := Kd.FK_slice_open hMe679
                     have hv679_0 := hcc679 0 _ rfl
                     rw [Nat.add_zero, show ((Kd.slice 3 (Kd.int .i64))).sz = 1 from rfl, Nat.mul_one] at hv679_0
                     replace hv679_0 := Option.some.inj (hv679_0.symm.trans hx679_0)
                     injection hv679_0 with hva_ hvn_ hvc_
                     rw [hva_] at ge679_0
                     rw [hvc_] at ul679_0
                     have HL679_0 := Aside0.mk (show Kd.V (Kd.int .i64) 3 _ w.heap.size _ _ (rd_L1 x7_1 x13_3) from Kd.V_mk ul679_0 ge679_0)
                     clear hva_ hvn_ hvc_ ge679_0 ul679_0;clear hcc679 hce679
                     have HR679_0 := Aside0.mk hi679_0
                     have HC679_0 := Aside0.mk hl679_0
                     clear hi679_0 hl679_0
                     replace p679 := eq_true p679
                     replace q679 := eq_true q679
                     have p680 : 0 ≤ (0 : Int) := (by omega)
                     have q680 : 0 < ((rd_L1 x7_1 x13_3).length : Int) := of_decide_eq_true (by first | (with_reducible assumption) | assumption)
                     obtain ⟨ad680, e680, hx680_0⟩ := Kd.at_int (by repeat (first | (with_reducible exact HR679_0.out) | (with_reducible refine Kd.C_alloc ?_ _) | (with_reducible refine Kd.C_drewN ?_ _) | (with_reducible refine Kd.C_drew ?_) | exact HR679_0.out)) 0 p680 q680
                     cases e680
                     have qi680 : (0 < (rd_L1 x7_1 x13_3).length) = True := eq_true (by omega)
                     (try rw [show ((0 : Int)).toNat = 0 from rfl] at hx680_0)
                     (try rw [Addr.add_zero'] at hx680_0)
                     replace p680 := eq_true p680
                     replace q680 := eq_true q680
                     obtain ⟨Ao37, co37, eo37⟩ := Kd.R_slice HO_12.out
                     (first | subst eo37 | (injection eo37 with f1_ f2_ f3_; have f4_ := f1_.symm; have f5_ := f3_.symm; clear f1_ f2_ f3_; subst f4_; subst f5_))
                     have p681 : 0 ≤ (0 : Int) := (by omega)
                     have q681 : 0 < (y676.length : Int) := of_decide_eq_true (by first | (with_reducible assumption) | assumption)
                     obtain ⟨ad681, e681, hx681_0⟩ := Kd.at_int (Kd.R_reads' HO_12.out).2.2 0 p681 q681
                     cases e681
                     have qi681 : (0 < y676.length) = True := eq_true (by omega)
                     (try rw [show ((0 : Int)).toNat = 0 from rfl] at hx681_0)
                     (try rw [Addr.add_zero'] at hx681_0)
                     replace p681 := eq_true p681
                     replace q681 := eq_true q681
                     refine start_ (n := 16) (S := fun w' => w'.cell? (ad679.add (x13_3).toNat) = some (.slice (some ad680) (rd_L1 x7_1 x13_3).length c679_0) ∧ w'.cell? ad680 = some (.int .i64 (rd (rd_L1 x7_1 x13_3) 0)) ∧ w'.cell? ad681 = some (.int .i64 (rd y676 0))) (ds := []) #[false, false, false, false, false, false, false, false, false, false, false, false, false, false, false, false] (by kernel_rfl) rfl rfl ⟨hx679_0, hx680_0, hx681_0⟩ (fun hHeld => ?_); refine with_tabW spec_trMatching.tab14 spec_trMatching.bits14 (fun HT_ HW_ => ?_)
                     generalize wr.drew = w35 at HO_4 HO_5 HO_7 HO_12 BK661 HB HL679_0 HR679_0 hx679_0 hx680_0 hx681_0 hHeld ⊢
                     refine pure_ (i := 0) (N := some 67) (v := ?_) (a' := ?_) #[true, false, false, false, false, false, false, false, false, false, false, false, false, false, false, false] rfl rfl (any_of HT_.out (by kernel_rfl)) (fun _ _ _ h => h) (Or.inl ⟨by rfl, ?_⟩) ?_ ?_
                     rotate_left
                     ·intro w'
                      go_simp
                      with_reducible rfl
                     rotate_left
                     ·simp only [Act.put, List.setIfInBounds_toArray, List.set_cons_zero, List.set_cons_succ, i64_w, i32_w]
                      rfl
                     refine pure_ (i := 1) (N := some 68) (v := ?_) (a' := ?_) #[true, true, false, false, false, false, false, false, false, false, false, false, false, false, false, false] rfl rfl (any_of HT_.out (by kernel_rfl)) (fun _ _ _ h => h) (Or.inl ⟨by rfl, ?_⟩) ?_ ?_
                     rotate_left
                     ·intro w'
                      go_simp
                      with_reducible rfl
                     rotate_left
                     ·simp only [Act.put, List.setIfInBounds_toArray, List.set_cons_zero, List.set_cons_succ, i64_w, i32_w]
                      rfl
                     refine pure_ (i := 2) (N := some 69) (v := ?_) (a' := ?_) #[true, true, true, false, false, false, false, false, false, false, false, false, false, false, false, false] rfl rfl (any_of HT_.out (by kernel_rfl)) (fun _ _ _ h => h) (Or.inl ⟨by rfl, ?_⟩) ?_ ?_
                     rotate_left
                     ·intro w'
                      go_simp
                      with_reducible rfl
                     rotate_left
                     ·simp only [Act.put, List.setIfInBounds_toArray, List.set_cons_zero, List.set_cons_succ, i64_w, i32_w]
                      rfl
                     refine pure_ (i := 3) (N := some 70) (v := ?_) (a' := ?_) #[true, true, true, true, false, false, false, false, false, false, false, false, false, false, false, false] rfl rfl (any_of HT_.out (by kernel_rfl)) (fun _ _ _ h => h) (Or.inl ⟨by rfl, ?_⟩) ?_ ?_
                     rotate_left
                     ·intro w'
                      go_simp
                      with_reducible rfl
                     rotate_left
                     ·simp only [Act.put, List.setIfInBounds_toArray, List.set_cons_zero, List.set_cons_succ, i64_w, i32_w]
                      rfl
                     refine pure_ (i := 4) (N := some 71) (v := ?_) (a' := ?_) #[true, true, true, true, true, false, false, false, false, false, false, false, false, false, false, false] rfl rfl (any_of HT_.out (by kernel_rfl)) (fun _ _ _ h => h) (Or.inl ⟨by rfl, ?_⟩) ?_ ?_
                     rotate_left
                     ·intro w'
                      go_simp
                      with_reducible rfl
                     rotate_left
                     ·simp only [Act.put, List.setIfInBounds_toArray, List.set_cons_zero, List.set_cons_succ, i64_w, i32_w]
                      rfl
                     refine pure_ (i := 5) (N := some 72) (v := ?_) (a' := ?_) #[true, true, true, true, true, true, false, false, false, false, false, false, false, false, false, false] rfl rfl (any_of HT_.out (by kernel_rfl)) (fun _ _ _ h => h) (Or.inl ⟨by rfl, ?_⟩) ?_ ?_
                     rotate_left
                     ·intro w'
                      go_simp
                      with_reducible rfl
                     rotate_left
                     ·simp only [Act.put, List.setIfInBounds_toArray, List.set_cons_zero, List.set_cons_succ, i64_w, i32_w]
                      rfl
                     refine pure_ (i := 6) (N := some 73) (v := ?_) (a' := ?_) #[true, true, true, true, true, true, true, false, false, false, false, false, false, false, false, false] rfl rfl (any_of HT_.out (by kernel_rfl)) (fun _ _ _ h => h) (Or.inl ⟨by rfl, ?_⟩) ?_ ?_
                     rotate_left
                     ·intro w'
                      go_simp
                      with_reducible rfl
                     rotate_left
                     ·simp only [Act.put, List.setIfInBounds_toArray, List.set_cons_zero, List.set_cons_succ, i64_w, i32_w]
                      rfl
                     refine pure_ (i := 7) (N := some 74) (v := ?_) (a' := ?_) #[true, true, true, true, true, true, true, true, false, false, false, false, false, false, false, false] rfl rfl (any_of HT_.out (by kernel_rfl)) (fun _ _ _ h => h) (Or.inl ⟨by rfl, ?_⟩) ?_ ?_
                     rotate_left
                     ·intro w'
                      go_simp
                      with_reducible rfl
                     rotate_left
                     ·simp only [Act.put, List.setIfInBounds_toArray, List.set_cons_zero, List.set_cons_succ, i64_w, i32_w]
                      rfl
                     refine pure_ (i := 11) (N := some 78) (v := ?_) (a' := ?_) #[true, true, true, true, true, true, true, true, false, false, false, true, false, false, false, false] rfl rfl (any_of HT_.out (by kernel_rfl)) (fun _ _ _ h => h) (Or.inl ⟨by rfl, ?_⟩) ?_ ?_
                     rotate_left
                     ·intro w'
                      go_simp
                      with_reducible rfl
                     rotate_left
                     ·simp only [Act.put, List.setIfInBounds_toArray, List.set_cons_zero, List.set_cons_succ, i64_w, i32_w]
                      rfl
                     refine pure_ (i := 12) (N := some 79) (v := ?_) (a' := ?_) #[true, true, true, true, true, true, true, true, false, false, false, true, true, false, false, false] rfl rfl (any_of HT_.out (by kernel_rfl)) (fun _ _ _ h => h) (Or.inl ⟨by rfl, ?_⟩) ?_ ?_
                     rotate_left
                     ·intro w'
                      go_simp
                      with_reducible rfl
                     rotate_left
                     ·simp only [Act.put, List.setIfInBounds_toArray, List.set_cons_zero, List.set_cons_succ, i64_w, i32_w]
                      rfl
                     refine take_ (i := 8) (N := some 75) (v := ?_) (a' := ?_) #[true, true, true, true, true, true, true, true, true, false, false, true, true, false, false, false] rfl rfl (take_ofW HT_.out HW_.out (by kernel_rfl)) (fun _ _ _ h => h) (Or.inl ⟨by rfl, ?_⟩) hHeld ?_ ?_
                     rotate_left
                     ·rintro w' ⟨s0, s1, s2⟩
                      go_simp
                      with_reducible rfl
                     rotate_left
                     ·simp only [Act.put, List.setIfInBounds_toArray, List.set_cons_zero, List.set_cons_succ, i64_w, i32_w]
                      rfl
                     refine pure_ (i := 9) (N := some 76) (v := ?_) (a' := ?_) #[true, true, true, true, true, true, true, true, true, true, false, true, true, false, false, false] rfl rfl (any_of HT_.out (by kernel_rfl)) (fun _ _ _ h => h) (Or.inl ⟨by rfl, ?_⟩) ?_ ?_
                     rotate_left
                     ·intro w'
                      go_simp
                      with_reducible rfl
                     rotate_left
                     ·simp only [Act.put, List.setIfInBounds_toArray, List.set_cons_zero, List.set_cons_succ, i64_w, i32_w]
                      rfl
                     refine take_ (i := 10) (N := some 77) (v := ?_) (a' := ?_) #[true, true, true, true, true, true, true, true, true, true, true, true, true, false, false, false] rfl rfl (take_ofW HT_.out HW_.out (by kernel_rfl)) (fun _ _ _ h => h) (Or.inl ⟨by rfl, ?_⟩) hHeld ?_ ?_
                     rotate_left
                     ·rintro w' ⟨s0, s1, s2⟩
                      go_simp
                      with_reducible rfl
                     rotate_left
                     ·simp only [Act.put, List.setIfInBounds_toArray, List.set_cons_zero, List.set_cons_succ, i64_w, i32_w]
                      rfl
                     refine take_ (i := 13) (N := some 80) (v := ?_) (a' := ?_) #[true, true, true, true, true, true, true, true, true, true, true, true, true, true, false, false] rfl rfl (take_ofW HT_.out HW_.out (by kernel_rfl)) (fun _ _ _ h => h) (Or.inl ⟨by rfl, ?_⟩) hHeld ?_ ?_
                     rotate_left
                     ·rintro w' ⟨s0, s1, s2⟩
                      go_simp
                      with_reducible rfl
                     rotate_left
                     ·simp only [Act.put, List.setIfInBounds_toArray, List.set_cons_zero, List.set_cons_succ, i64_w, i32_w]
                      rfl
                     refine pure_ (i := 14) (N := some 81) (v := ?_) (a' := ?_) #[true, true, true, true, true, true, true, true, true, true, true, true, true, true, true, false] rfl rfl (any_of HT_.out (by kernel_rfl)) (fun _ _ _ h => h) (Or.inl ⟨by rfl, ?_⟩) ?_ ?_
                     rotate_left
                     ·intro w'
                      go_simp
                      with_reducible rfl
                     rotate_left
                     ·simp only [Act.put, List.setIfInBounds_toArray, List.set_cons_zero, List.set_cons_succ, i64_w, i32_w]
                      rfl
                     refine pure_ (i := 15) (N := some 82) (v := ?_) (a' := ?_) #[true, true, true, true, true, true, true, true, true, true, true, true, true, true, true, true] rfl rfl (any_of HT_.out (by kernel_rfl)) (fun _ _ _ h => h) (Or.inl ⟨by rfl, ?_⟩) ?_ ?_
                     rotate_left
                     ·intro w'
                      go_simp
                      with_reducible rfl
                     rotate_left
                     ·simp only [Act.put, List.setIfInBounds_toArray, List.set_cons_zero, List.set_cons_succ, i64_w, i32_w]
                      rfl
                     refine done_ (done_of HT_.out (by kernel_rfl)) ?_
                     try go_wp2
                     go_roundg k3
                     case measure => have := HK1.out; have := HJ12.out; have := HK3.out; omega
                     case rel => exact ⟨(wrap64 (x13_3 + 1)), (by first | rfl | (simp; done) | (simp [*]; done)), H', ⟨by have := HK1.out; have := HJ12.out; have := HK3.out; omega⟩, ⟨by (with_reducible repeat (first | apply Kd.R_alloc | apply Kd.R_drewN | apply Kd.R_drew)); exact HO_4.out⟩, ⟨by (with_reducible repeat (first | apply Kd.R_alloc | apply Kd.R_drewN | apply Kd.R_drew)); exact HO_5.out⟩, ⟨by (with_reducible repeat (first | apply Kd.N_alloc | apply Kd.N_drewN | apply Kd.N_drew)); exact HO_7.out⟩, ⟨by (with_reducible repeat (first | apply Kd.R_alloc | apply Kd.R_drewN | apply Kd.R_drew)); exact HO_12.out⟩, ⟨by (with_reducible repeat (first | refine blk_drewN ?_ _ | refine blk_drew ?_ | refine blk_alloc ?_ _)); exact BK661.out⟩, ⟨by repeat (first | (with_reducible first | exact HB.out | apply below_alloc | apply pw_below_drewN | apply below_drew1 | refine below_set ?_ GE661.out) | exact HB.out)⟩⟩
                    ·rw [if_neg c34] at H
                     have c34b0 : decide ((rd (rd_L1 x7_1 x13_3) 0) < (rd y676 0)) = false := decide_eq_false c34
                     clear c34
                     obtain ⟨y682, hy682⟩ : ∃ y_ : List (List Int), y_ = (([] : List (List Int))) := ⟨_, rfl⟩
                     replace H : (if x13_3 ≤ (x7_1.length : Int) then ((some (x7_1.take (x13_3 : Int).toNat : List (List Int))).bind fun y685 => (if y682.length + y685.length < 5864062014805 then ((some (y682 ++ y685 : List (List Int))).bind fun y690 => (if y690.length < 5864062014805 then ((some (y690 ++ [y676] : List (List Int))).bind fun y693 => ((some (x7_1.drop (x13_3 : Int).toNat : List (List Int))).bind fun y696 => (if y693.length + y696.length < 5864062014805 then (spec_trMatching.l0 k3 t662 t665 (y693 ++ y696) (Go.bits .or .i64 x8_1 (Go.bits .or .i64 (ji22) (ji24))) (wrap64 (x9_1 - 1))) else (none)))) else (none))) else (none))) else (none)) = some (r1, r2) := by first | (rw [hy682]; with_reducible exact H) | (have H2_ := (Option.bind_some _ _).symm.trans H; rw [hy682]; with_reducible exact H2_) | (have H2_ := (Option.bind_some _ _).symm.trans H; with_reducible exact H2_) | with_reducible exact H | (rw [hy682]; exact H) | exact H
                     have Ny682 := Aside0.mk hy682
                     clear hy682
                     have c38b0 := eq_true (of_decide_eq_true (by first | (with_reducible assumption) | assumption) : 0 ≤ x13_3)
                     by_cases c39 : x13_3 ≤ (x7_1.length : Int)
                     ·rw [if_pos c39] at H
                      have c39b0 := eq_true c39
                      have c39b1 : decide (x13_3 ≤ (x7_1.length : Int)) = true := decide_eq_true c39
                      clear c39
                      obtain ⟨y685, hy685⟩ : ∃ y_ : List (List Int), y_ = (x7_1.take (x13_3 : Int).toNat) := ⟨_, rfl⟩
                      replace H : (if y682.length + y685.length < 5864062014805 then ((some (y682 ++ y685 : List (List Int))).bind fun y690 => (if y690.length < 5864062014805 then ((some (y690 ++ [y676] : List (List Int))).bind fun y693 => ((some (x7_1.drop (x13_3 : Int).toNat : List (List Int))).bind fun y696 => (if y693.length + y696.length < 5864062014805 then (spec_trMatching.l0 k3 t662 t665 (y693 ++ y696) (Go.bits .or .i64 x8_1 (Go.bits .or .i64 (ji22) (ji24))) (wrap64 (x9_1 - 1))) else (none)))) else (none))) else (none)) = some (r1, r2) := by first | (rw [hy685]; with_reducible exact H) | (have H2_ := (Option.bind_some _ _).symm.trans H; rw [hy685]; with_reducible exact H2_) | (have H2_ := (Option.bind_some _ _).symm.trans H; with_reducible exact H2_) | with_reducible exact H | (rw [hy685]; exact H) | exact H
                      have Ny685 := Aside0.mk hy685
                      clear hy685
                      by_cases c40 : y682.length + y685.length < 5864062014805
                      ·rw [if_pos c40] at H
                       have LMc40 := Aside0.mk c40
                       clear c40
                       obtain ⟨y690, hy690⟩ : ∃ y_ : List (List Int), y_ = (y682 ++ y685) := ⟨_, rfl⟩
                       replace H : (if y690.length < 5864062014805 then ((some (y690 ++ [y676] : List (List Int))).bind fun y693 => ((some (x7_1.drop (x13_3 : Int).toNat : List (List Int))).bind fun y696 => (if y693.length + y696.length < 5864062014805 then (spec_trMatching.l0 k3 t662 t665 (y693 ++ y696) (Go.bits .or .i64 x8_1 (Go.bits .or .i64 (ji22) (ji24))) (wrap64 (x9_1 - 1))) else (none)))) else (none)) = some (r1, r2) := by first | (rw [hy690]; with_reducible exact H) | (have H2_ := (Option.bind_some _ _).symm.trans H; rw [hy690]; with_reducible exact H2_) | (have H2_ := (Option.bind_some _ _).symm.trans H; with_reducible exact H2_) | with_reducible exact H | (rw [hy690]; exact H) | exact H
                       have Ny690 := Aside0.mk hy690
                       clear hy690
                       by_cases c41 : y690.length < 5864062014805
                       ·rw [if_pos c41] at H
                        have LMc41 := Aside0.mk c41
                        clear c41
                        obtain ⟨y693, hy693⟩ : ∃ y_ : List (List Int), y_ = (y690 ++ [y676]) := ⟨_, rfl⟩
                        replace H : ((some (x7_1.drop (x13_3 : Int).toNat : List (List Int))).bind fun y696 => (if y693.length + y696.length < 5864062014805 then (spec_trMatching.l0 k3 t662 t665 (y693 ++ y696) (Go.bits .or .i64 x8_1 (Go.bits .or .i64 (ji22) (ji24))) (wrap64 (x9_1 - 1))) else (none))) = some (r1, r2) := by first | (rw [hy693]; with_reducible exact H) | (have H2_ := (Option.bind_some _ _).symm.trans H; rw [hy693]; with_reducible exact H2_) | (have H2_ := (Option.bind_some _ _).symm.trans H; with_reducible exact H2_) | with_reducible exact H | (rw [hy693]; exact H) | exact H
                        have Ny693 := Aside0.mk hy693
                        clear hy693
                        have c42b0 := eq_true (of_decide_eq_true (by first | (with_reducible assumption) | assumption) : 0 ≤ x13_3)
                        have c43b0 := eq_true (of_decide_eq_true (by first | (with_reducible assumption) | assumption) : x13_3 ≤ (x7_1.length : Int))
                        obtain ⟨y696, hy696⟩ : ∃ y_ : List (List Int), y_ = (x7_1.drop (x13_3 : Int).toNat) := ⟨_, rfl⟩
                        replace H : (if y693.length + y696.length < 5864062014805 then (spec_trMatching.l0 k3 t662 t665 (y693 ++ y696) (Go.bits .or .i64 x8_1 (Go.bits .or .i64 (ji22) (ji24))) (wrap64 (x9_1 - 1))) else (none)) = some (r1, r2) := by first | (rw [hy696]; with_reducible exact H) | (have H2_ := (Option.bind_some _ _).symm.trans H; rw [hy696]; with_reducible exact H2_) | (have H2_ := (Option.bind_some _ _).symm.trans H; with_reducible exact H2_) | with_reducible exact H | (rw [hy696]; exact H) | exact H
                        have Ny696 := Aside0.mk hy696
                        clear hy696
                        by_cases c44 : y693.length + y696.length < 5864062014805
                        ·rw [if_pos c44] at H
                         have LMc44 := Aside0.mk c44
                         clear c44
                         obtain ⟨y701, hy701⟩ : ∃ y_ : List (List Int), y_ = (y693 ++ y696) := ⟨_, rfl⟩
                         replace H : (spec_trMatching.l0 k3 t662 t665 y701 (Go.bits .or .i64 x8_1 (Go.bits .or .i64 (ji22) (ji24))) (wrap64 (x9_1 - 1))) = some (r1, r2) := by first | (rw [hy701]; with_reducible exact H) | (have H2_ := (Option.bind_some _ _).symm.trans H; rw [hy701]; with_reducible exact H2_) | (have H2_ := (Option.bind_some _ _).symm.trans H; with_reducible exact H2_) | with_reducible exact H | (rw [hy701]; exact H) | exact H
                         have Ny701 := Aside0.mk hy701
                         clear hy701
                         have H' := Aside0.mk H
                         clear H
                         try go_wp2
                         have n0_ := Aside0.mk (Kd.R_drew HO_4.out)
                         have n1_ := Aside0.mk (Kd.R_drew HO_5.out)
                         have n2_ := Aside0.mk (Kd.N_drew HO_7.out)
                         have n3_ := Aside0.mk (Kd.R_drew HO_12.out)
                         have n4_ := Aside0.mk (blk_drew BK661.out)
                         have n5_ := Aside0.mk (below_drew1 HB.out)
                         clear HO_4;clear HO_5;clear HO_7;clear HO_12;clear BK661;clear HB
                         have HO_4 := n0_
                         have HO_5 := n1_
                         have HO_7 := n2_
                         have HO_12 := n3_
                         have BK661 := n4_
                         have HB := n5_
                         clear n0_ n1_ n2_ n3_ n4_ n5_
                         obtain ⟨Ao46, co46, eo46⟩ := Kd.N_slice HO_7.out
                         (first | subst eo46 | (injection eo46 with f1_ f2_ f3_; have f4_ := f1_.symm; have f5_ := f3_.symm; clear f1_ f2_ f3_; subst f4_; subst f5_))
                         have p679 : 0 ≤ (x13_3 : Int) := of_decide_eq_true (by first | (with_reducible assumption) | assumption)
                         have q679 : x13_3 < (x7_1.length : Int) := of_decide_eq_true (by first | (with_reducible assumption) | assumption)
                         obtain ⟨ad679, A679_0, c679_0, e679, hx679_0, hl679_0, hi679_0⟩ := at_L1 (Kd.N_reads' HO_7.out).2.2 x13_3 p679 q679
                         cases e679
                         obtain ⟨ce679, hce679, hMe679, hcc679⟩ := Kd.N_get HO_7.out [] x13_3 p679 (by first | exact q679 | exact of_decide_eq_true (by first | (with_reducible assumption) | assumption) | (have e_ := (Kd.N_reads' HO_7.out).1; omega))
                         obtain ⟨ua679_0, uc679_0, rfl, ul679_0, ge679_0⟩ := Kd.FK_slice_open hMe679
                         have hv679_0 := hcc679 0 _ rfl
                         rw [Nat.add_zero, show ((Kd.slice 3 (Kd.int .i64))).sz = 1 from rfl, Nat.mul_one] at hv679_0
                         replace hv679_0 := Option.some.inj (hv679_0.symm.trans hx679_0)
                         injection hv679_0 with hva_ hvn_ hvc_
                         rw [hva_] at ge679_0
                         rw [hvc_] at ul679_0
                         have HL679_0 := Aside0.mk (show Kd.V (Kd.int .i64) 3 _ w.heap.size _ _ (rd_L1 x7_1 x13_3) from Kd.V_mk ul679_0 ge679_0)
                         clear hva_ hvn_ hvc_ ge679_0 ul679_0;clear hcc679 hce679
                         have HR679_0 := Aside0.mk hi679_0
                         have HC679_0 := Aside0.mk hl679_0
                         clear hi679_0 hl679_0
                         replace p679 := eq_true p679
                         replace q679 := eq_true q679
                         have p680 : 0 ≤ (0 : Int) := (by omega)
                         have q680 : 0 < ((rd_L1 x7_1 x13_3).length : Int) := of_decide_eq_true (by first | (with_reducible assumption) | assumption)
                         obtain ⟨ad680, e680, hx680_0⟩ := Kd.at_int (by repeat (first | (with_reducible exact HR679_0.out) | (with_reducible refine Kd.C_alloc ?_ _) | (with_reducible refine Kd.C_drewN ?_ _) | (with_reducible refine Kd.C_drew ?_) | exact HR679_0.out)) 0 p680 q680
                         cases e680
                         have qi680 : (0 < (rd_L1 x7_1 x13_3).length) = True := eq_true (by omega)
                         (try rw [show ((0 : Int)).toNat = 0 from rfl] at hx680_0)
                         (try rw [Addr.add_zero'] at hx680_0)
                         replace p680 := eq_true p680
                         replace q680 := eq_true q680
                         obtain ⟨Ao47, co47, eo47⟩ := Kd.R_slice HO_12.out
                         (first | subst eo47 | (injection eo47 with f1_ f2_ f3_; have f4_ := f1_.symm; have f5_ := f3_.symm; clear f1_ f2_ f3_; subst f4_; subst f5_))
                         have p681 : 0 ≤ (0 : Int) := (by omega)
                         have q681 : 0 < (y676.length : Int) := of_decide_eq_true (by first | (with_reducible assumption) | assumption)
                         obtain ⟨ad681, e681, hx681_0⟩ := Kd.at_int (Kd.R_reads' HO_12.out).2.2 0 p681 q681
                         cases e681
                         have qi681 : (0 < y676.length) = True := eq_true (by omega)
                         (try rw [show ((0 : Int)).toNat = 0 from rfl] at hx681_0)
                         (try rw [Addr.add_zero'] at hx681_0)
                         replace p681 := eq_true p681
                         replace q681 := eq_true q681
                         refine start_ (n := 16) (S := fun w' => w'.cell? (ad679.add (x13_3).toNat) = some (.slice (some ad680) (rd_L1 x7_1 x13_3).length c679_0) ∧ w'.cell? ad680 = some (.int .i64 (rd (rd_L1 x7_1 x13_3) 0)) ∧ w'.cell? ad681 = some (.int .i64 (rd y676 0))) (ds := []) #[false, false, false, false, false, false, false, false, false, false, false, false, false, false, false, false] (by kernel_rfl) rfl rfl ⟨hx679_0, hx680_0, hx681_0⟩ (fun hHeld => ?_); refine with_tabW spec_trMatching.tab14 spec_trMatching.bits14 (fun HT_ HW_ => ?_)
                         generalize wr.drew = w45 at HO_4 HO_5 HO_7 HO_12 BK661 HB HL679_0 HR679_0 hx679_0 hx680_0 hx681_0 hHeld ⊢
                         refine pure_ (i := 0) (N := some 67) (v := ?_) (a' := ?_) #[true, false, false, false, false, false, false, false, false, false, false, false, false, false, false, false] rfl rfl (any_of HT_.out (by kernel_rfl)) (fun _ _ _ h => h) (Or.inl ⟨by rfl, ?_⟩) ?_ ?_
                         rotate_left
                         ·intro w'
                          go_simp
                          with_reducible rfl
                         rotate_left
                         ·simp only [Act.put, List.setIfInBounds_toArray, List.set_cons_zero, List.set_cons_succ, i64_w, i32_w]
                          rfl
                         refine pure_ (i := 1) (N := some 68) (v := ?_) (a' := ?_) #[true, true, false, false, false, false, false, false, false, false, false, false, false, false, false, false] rfl rfl (any_of HT_.out (by kernel_rfl)) (fun _ _ _ h => h) (Or.inl ⟨by rfl, ?_⟩) ?_ ?_
                         rotate_left
                         ·intro w'
                          go_simp
                          with_reducible rfl
                         rotate_left
                         ·simp only [Act.put, List.setIfInBounds_toArray, List.set_cons_zero, List.set_cons_succ, i64_w, i32_w]
                          rfl
                         refine pure_ (i := 2) (N := some 69) (v := ?_) (a' := ?_) #[true, true, true, false, false, false, false, false, false, false, false, false, false, false, false, false] rfl rfl (any_of HT_.out (by kernel_rfl)) (fun _ _ _ h => h) (Or.inl ⟨by rfl, ?_⟩) ?_ ?_
                         rotate_left
                         ·intro w'
                          go_simp
                          with_reducible rfl
                         rotate_left
                         ·simp only [Act.put, List.setIfInBounds_toArray, List.set_cons_zero, List.set_cons_succ, i64_w, i32_w]
                          rfl
                         refine pure_ (i := 3) (N := some 70) (v := ?_) (a' := ?_) #[true, true, true, true, false, false, false, false, false, false, false, false, false, false, false, false] rfl rfl (any_of HT_.out (by kernel_rfl)) (fun _ _ _ h => h) (Or.inl ⟨by rfl, ?_⟩) ?_ ?_
                         rotate_left
                         ·intro w'
                          go_simp
                          with_reducible rfl
                         rotate_left
                         ·simp only [Act.put, List.setIfInBounds_toArray, List.set_cons_zero, List.set_cons_succ, i64_w, i32_w]
                          rfl
                         refine pure_ (i := 4) (N := some 71) (v := ?_) (a' := ?_) #[true, true, true, true, true, false, false, false, false, false, false, false, false, false, false, false] rfl rfl (any_of HT_.out (by kernel_rfl)) (fun _ _ _ h => h) (Or.inl ⟨by rfl, ?_⟩) ?_ ?_
                         rotate_left
                         ·intro w'
                          go_simp
                          with_reducible rfl
                         rotate_left
                         ·simp only [Act.put, List.setIfInBounds_toArray, List.set_cons_zero, List.set_cons_succ, i64_w, i32_w]
                          rfl
                         refine pure_ (i := 5) (N := some 72) (v := ?_) (a' := ?_) #[true, true, true, true, true, true, false, false, false, false, false, false, false, false, false, false] rfl rfl (any_of HT_.out (by kernel_rfl)) (fun _ _ _ h => h) (Or.inl ⟨by rfl, ?_⟩) ?_ ?_
                         rotate_left
                         ·intro w'
                          go_simp
                          with_reducible rfl
                         rotate_left
                         ·simp only [Act.put, List.setIfInBounds_toArray, List.set_cons_zero, List.set_cons_succ, i64_w, i32_w]
                          rfl
                         refine pure_ (i := 6) (N := some 73) (v := ?_) (a' := ?_) #[true, true, true, true, true, true, true, false, false, false, false, false, false, false, false, false] rfl rfl (any_of HT_.out (by kernel_rfl)) (fun _ _ _ h => h) (Or.inl ⟨by rfl, ?_⟩) ?_ ?_
                         rotate_left
                         ·intro w'
                          go_simp
                          with_reducible rfl
                         rotate_left
                         ·simp only [Act.put, List.setIfInBounds_toArray, List.set_cons_zero, List.set_cons_succ, i64_w, i32_w]
                          rfl
                         refine pure_ (i := 7) (N := some 74) (v := ?_) (a' := ?_) #[true, true, true, true, true, true, true, true, false, false, false, false, false, false, false, false] rfl rfl (any_of HT_.out (by kernel_rfl)) (fun _ _ _ h => h) (Or.inl ⟨by rfl, ?_⟩) ?_ ?_
                         rotate_left
                         ·intro w'
                          go_simp
                          with_reducible rfl
                         rotate_left
                         ·simp only [Act.put, List.setIfInBounds_toArray, List.set_cons_zero, List.set_cons_succ, i64_w, i32_w]
                          rfl
                         refine pure_ (i := 11) (N := some 78) (v := ?_) (a' := ?_) #[true, true, true, true, true, true, true, true, false, false, false, true, false, false, false, false] rfl rfl (any_of HT_.out (by kernel_rfl)) (fun _ _ _ h => h) (Or.inl ⟨by rfl, ?_⟩) ?_ ?_
                         rotate_left
                         ·intro w'
                          go_simp
                          with_reducible rfl
                         rotate_left
                         ·simp only [Act.put, List.setIfInBounds_toArray, List.set_cons_zero, List.set_cons_succ, i64_w, i32_w]
                          rfl
                         refine pure_ (i := 12) (N := some 79) (v := ?_) (a' := ?_) #[true, true, true, true, true, true, true, true, false, false, false, true, true, false, false, false] rfl rfl (any_of HT_.out (by kernel_rfl)) (fun _ _ _ h => h) (Or.inl ⟨by rfl, ?_⟩) ?_ ?_
                         rotate_left
                         ·intro w'
                          go_simp
                          with_reducible rfl
                         rotate_left
                         ·simp only [Act.put, List.setIfInBounds_toArray, List.set_cons_zero, List.set_cons_succ, i64_w, i32_w]
                          rfl
                         refine take_ (i := 8) (N := some 75) (v := ?_) (a' := ?_) #[true, true, true, true, true, true, true, true, true, false, false, true, true, false, false, false] rfl rfl (take_ofW HT_.out HW_.out (by kernel_rfl)) (fun _ _ _ h => h) (Or.inl ⟨by rfl, ?_⟩) hHeld ?_ ?_
                         rotate_left
                         ·rintro w' ⟨s0, s1, s2⟩
                          go_simp
                          with_reducible rfl
                         rotate_left
                         ·simp only [Act.put, List.setIfInBounds_toArray, List.set_cons_zero, List.set_cons_succ, i64_w, i32_w]
                          rfl
                         refine pure_ (i := 9) (N := some 76) (v := ?_) (a' := ?_) #[true, true, true, true, true, true, true, true, true, true, false, true, true, false, false, false] rfl rfl (any_of HT_.out (by kernel_rfl)) (fun _ _ _ h => h) (Or.inl ⟨by rfl, ?_⟩) ?_ ?_
                         rotate_left
                         ·intro w'
                          go_simp
                          with_reducible rfl
                         rotate_left
                         ·simp only [Act.put, List.setIfInBounds_toArray, List.set_cons_zero, List.set_cons_succ, i64_w, i32_w]
                          rfl
                         refine take_ (i := 10) (N := some 77) (v := ?_) (a' := ?_) #[true, true, true, true, true, true, true, true, true, true, true, true, true, false, false, false] rfl rfl (take_ofW HT_.out HW_.out (by kernel_rfl)) (fun _ _ _ h => h) (Or.inl ⟨by rfl, ?_⟩) hHeld ?_ ?_
                         rotate_left
                         ·rintro w' ⟨s0, s1, s2⟩
                          go_simp
                          with_reducible rfl
                         rotate_left
                         ·simp only [Act.put, List.setIfInBounds_toArray, List.set_cons_zero, List.set_cons_succ, i64_w, i32_w]
                          rfl
                         refine take_ (i := 13) (N := some 80) (v := ?_) (a' := ?_) #[true, true, true, true, true, true, true, true, true, true, true, true, true, true, false, false] rfl rfl (take_ofW HT_.out HW_.out (by kernel_rfl)) (fun _ _ _ h => h) (Or.inl ⟨by rfl, ?_⟩) hHeld ?_ ?_
                         rotate_left
                         ·rintro w' ⟨s0, s1, s2⟩
                          go_simp
                          with_reducible rfl
                         rotate_left
                         ·simp only [Act.put, List.setIfInBounds_toArray, List.set_cons_zero, List.set_cons_succ, i64_w, i32_w]
                          rfl
                         refine pure_ (i := 14) (N := some 81) (v := ?_) (a' := ?_) #[true, true, true, true, true, true, true, true, true, true, true, true, true, true, true, false] rfl rfl (any_of HT_.out (by kernel_rfl)) (fun _ _ _ h => h) (Or.inl ⟨by rfl, ?_⟩) ?_ ?_
                         rotate_left
                         ·intro w'
                          go_simp
                          with_reducible rfl
                         rotate_left
                         ·simp only [Act.put, List.setIfInBounds_toArray, List.set_cons_zero, List.set_cons_succ, i64_w, i32_w]
                          rfl
                         refine pure_ (i := 15) (N := some 82) (v := ?_) (a' := ?_) #[true, true, true, true, true, true, true, true, true, true, true, true, true, true, true, true] rfl rfl (any_of HT_.out (by kernel_rfl)) (fun _ _ _ h => h) (Or.inl ⟨by rfl, ?_⟩) ?_ ?_
                         rotate_left
                         ·intro w'
                          go_simp
                          with_reducible rfl
                         rotate_left
                         ·simp only [Act.put, List.setIfInBounds_toArray, List.set_cons_zero, List.set_cons_succ, i64_w, i32_w]
                          rfl
                         refine done_ (done_of HT_.out (by kernel_rfl)) ?_
                         try go_wp2_with (first | ((with_reducible refine gate_dst (N := 85) rfl ?_); refine Kd.N_lit (Kd.slice 3 (Kd.int .i64)) _ 22 ?hg (N' := 85) ?hd (xs := ([] : List (List Int))) (inner := []) (ok := (fun k_ => (w.heap.size ≤ k_) ∧ some k_ ≠ (.slice (some ad671) t662.length co15 : Value).ownBlock ∧ some k_ ≠ (.slice (some ad669) t665.length co7 : Value).ownBlock ∧ some k_ ≠ (.slice (some ad679) x7_1.length co46 : Value).ownBlock ∧ some k_ ≠ (.slice (some ad681) y676.length co47 : Value).ownBlock ∧ k_ ≠ gb661)) (okp := (fun k_ => (w.heap.size ≤ k_) ∧ some k_ ≠ (.slice (some ad671) t662.length co15 : Value).ownBlock ∧ some k_ ≠ (.slice (some ad669) t665.length co7 : Value).ownBlock ∧ some k_ ≠ (.slice (some ad679) x7_1.length co46 : Value).ownBlock ∧ some k_ ≠ (.slice (some ad681) y676.length co47 : Value).ownBlock ∧ k_ ≠ gb661)) ?hr ?hp (fun _ hk => hk) ((show ∀ k_, w45.heap.size ≤ k_ → (fun k_ => (w.heap.size ≤ k_) ∧ some k_ ≠ (.slice (some ad671) t662.length co15 : Value).ownBlock ∧ some k_ ≠ (.slice (some ad669) t665.length co7 : Value).ownBlock ∧ some k_ ≠ (.slice (some ad679) x7_1.length co46 : Value).ownBlock ∧ some k_ ≠ (.slice (some ad681) y676.length co47 : Value).ownBlock ∧ k_ ≠ gb661) k_ from fun k_ hk => ⟨(Nat.le_trans (below_size (by repeat (first | (with_reducible first | exact HB.out | apply below_alloc | apply pw_below_drewN | apply below_drew1 | refine below_set ?_ GE661.out) | exact HB.out))) hk), Kd.fresh' (Kd.R_lt (by (with_reducible repeat (first | apply Kd.R_alloc | apply Kd.R_drewN | apply Kd.R_drew)); exact HO_4.out)) k_ hk, Kd.fresh' (Kd.R_lt (by (with_reducible repeat (first | apply Kd.R_alloc | apply Kd.R_drewN | apply Kd.R_drew)); exact HO_5.out)) k_ hk, Kd.fresh' (Kd.N_lt (by (with_reducible repeat (first | apply Kd.N_alloc | apply Kd.N_drewN | apply Kd.N_drew)); exact HO_7.out)) k_ hk, Kd.fresh' (Kd.R_lt (by (with_reducible repeat (first | apply Kd.R_alloc | apply Kd.R_drewN | apply Kd.R_drew)); exact HO_12.out)) k_ hk, Kd.freshB (g := gb661) (o := .cells #[.slice A0_0 l0_0.length c0_0, .bool a0_1] 28 (0, 0)) (by (with_reducible repeat (first | refine blk_drewN ?_ _ | refine blk_drew ?_ | refine blk_alloc ?_ _)); exact BK661.out) k_ hk⟩) _ (Nat.le_refl _)) (Below.refl _ _) (Nat.le_refl _) (by simp) ?_; (case hd => rfl); (case hg => rfl); (case hr => first | (go_simp; done) | (go_simp; rfl)); (case hp => exact (Reps.none _ _)); intro v683 w48 ho49 hb hg_ hnew_; clear hg_ hnew_; (first | rw [← Ny682.out] at ho49 | (simp only [Int.reduceToNat] at ho49; rw [← Ny682.out] at ho49)); have n0_ := Aside0.mk (Kd.R_below (by (with_reducible repeat (first | apply Kd.R_alloc | apply Kd.R_drewN | apply Kd.R_drew)); exact HO_4.out) hb); have n1_ := Aside0.mk (Kd.R_below (by (with_reducible repeat (first | apply Kd.R_alloc | apply Kd.R_drewN | apply Kd.R_drew)); exact HO_5.out) hb); have n2_ := Aside0.mk (Kd.N_elder' (by (with_reducible repeat (first | apply Kd.N_alloc | apply Kd.N_drewN | apply Kd.N_drew)); exact HO_7.out) (Kd.N_base ho49) hb); have n3_ := Aside0.mk (Kd.R_below (by (with_reducible repeat (first | apply Kd.R_alloc | apply Kd.R_drewN | apply Kd.R_drew)); exact HO_12.out) hb); have n4_ := Aside0.mk (Kd.V_elder' (by (with_reducible repeat (first | apply Kd.V_alloc | apply Kd.V_drewN | apply Kd.V_drew)); exact HL679_0.out) (Kd.N_base ho49) hb); have n5_ := Aside0.mk (Kd.N_lower ho49 (below_size (by repeat (first | (with_reducible first | exact HB.out | apply below_alloc | apply pw_below_drewN | apply below_drew1 | refine below_set ?_ GE661.out) | exact HB.out)))); have n6_ := Aside0.mk (blk_below (g := gb661) (o := .cells #[.slice A0_0 l0_0.length c0_0, .bool a0_1] 28 (0, 0)) (by (with_reducible repeat (first | refine blk_drewN ?_ _ | refine blk_drew ?_ | refine blk_alloc ?_ _)); exact BK661.out) hb); have n7_ := Aside0.mk (Kd.C_below (by repeat (first | (with_reducible exact HR679_0.out) | (with_reducible refine Kd.C_alloc ?_ _) | (with_reducible refine Kd.C_drewN ?_ _) | (with_reducible refine Kd.C_drew ?_) | exact HR679_0.out)) hb); have n8_ := Aside0.mk (below_step (by repeat (first | (with_reducible first | exact HB.out | apply below_alloc | apply pw_below_drewN | apply below_drew1 | refine below_set ?_ GE661.out) | exact HB.out)) hb); clear HO_4; clear HO_5; clear HO_7; clear HO_12; clear HL679_0; clear BK661; clear HR679_0; clear HB; have HO_4 := n0_; have HO_5 := n1_; have HO_7 := n2_; have HO_12 := n3_; have HL679_0 := n4_; have HO684 := n5_; have BK661 := n6_; have HR679_0 := n7_; have HB := n8_; clear n0_ n1_ n2_ n3_ n4_ n5_ n6_ n7_ n8_; clear hb ho49; have q50 : (x13_3 : Int) ≤ ((x7_1.length : Int) : Int) := of_decide_eq_true (by first | (with_reducible assumption) | assumption); obtain ⟨i050, hi050, _, hsz50, _⟩ := info_parts info22; have hroom50 : x7_1.length ≤ co46 := (Kd.N_reads' HO_7.out).2.1; have hC50 : Kd.F (Kd.slice 3 (Kd.int .i64)) _ _ (some ad679) x7_1.length x7_1 := (Kd.V_at (base := w.heap.size) (Kd.N_V HO_7.out)).2.2; have hcut50 := cut_to (P := Try.prog) 39 22 .i64 Try.underlying39 hi050 (some ad679) x7_1.length co46 x13_3 (of_decide_eq_true (by first | (with_reducible assumption) | assumption)) q50 hroom50; have hr50 := Kd.F_take (m := (x13_3 : Int).toNat) hC50 (by omega); have hy50 : y685.length = (x13_3 : Int).toNat := (by rw [Ny685.out, List.length_take]; omega); rw [← Ny685.out] at hr50; rw [← hy50] at hcut50; have HO689 := Aside0.mk (show Kd.V (Kd.slice 3 (Kd.int .i64)) 22 _ w.heap.size _ (.slice (some ad679) y685.length co46) y685 from Kd.V_mk (by omega) hr50); have HC689 := Aside0.mk (show y685.length ≤ co46 from by omega); clear hr50 hC50 hroom50 hi050 hsz50; have KY50 := Aside0.mk hy50; clear hy50; replace q50 := eq_true q50) | ((with_reducible refine gate_builtin (b := .append) (xs := #[.tmp 85, .tmp 88]) rfl ?_); at_builtin; refine Kd.N_append_rows (Kd.slice 3 (Kd.int .i64)) (w0 := w) w.heap.size rfl (.tmp 85) (.tmp 88) 39 22 (.slice none 0 0) 24 rfl Try.underlying39 info22 rfl (by decide) (by omega) v683 y682 y685 _ _ _ (fun k_ => (w.heap.size ≤ k_) ∧ some k_ ≠ (.slice (some ad671) t662.length co15 : Value).ownBlock ∧ some k_ ≠ (.slice (some ad669) t665.length co7 : Value).ownBlock ∧ some k_ ≠ (.slice (some ad681) y676.length co47 : Value).ownBlock ∧ k_ ≠ gb661) (fun k_ => ((fun k_ => (w.heap.size ≤ k_) ∧ some k_ ≠ (.slice (some ad671) t662.length co15 : Value).ownBlock ∧ some k_ ≠ (.slice (some ad669) t665.length co7 : Value).ownBlock ∧ some k_ ≠ (.slice (some ad681) y676.length co47 : Value).ownBlock ∧ k_ ≠ gb661)) k_ ∧ some k_ ≠ (v683 : Value).ownBlock) rfl rfl ?aO ?aR (fun _ hk => hk) ?aF ?aB ?aS ?aL ?_; (case aR => exact (by skip; exact Kd.V_F (Kd.V_mono (ok' := (fun k_ => ((fun k_ => (w.heap.size ≤ k_) ∧ some k_ ≠ (.slice (some ad671) t662.length co15 : Value).ownBlock ∧ some k_ ≠ (.slice (some ad669) t665.length co7 : Value).ownBlock ∧ some k_ ≠ (.slice (some ad681) y676.length co47 : Value).ownBlock ∧ k_ ≠ gb661)) k_ ∧ some k_ ≠ (v683 : Value).ownBlock)) (HO689.out) (fun k_ hk => ⟨⟨hk.1.1, ⟨hk.1.2.1, ⟨hk.1.2.2.1, ⟨hk.1.2.2.2.1, hk.1.2.2.2.2⟩⟩⟩⟩, hk.2⟩)))); (case aB => exact (by repeat (first | (with_reducible first | exact HB.out | apply below_alloc | apply pw_below_drewN | apply below_drew1 | refine below_set ?_ GE661.out) | exact HB.out))); (case aF => exact (fun k_ hk => ⟨(Nat.le_trans (below_size (by repeat (first | (with_reducible first | exact HB.out | apply below_alloc | apply pw_below_drewN | apply below_drew1 | refine below_set ?_ GE661.out) | exact HB.out))) hk), Kd.fresh' (Kd.R_lt (by (with_reducible repeat (first | apply Kd.R_alloc | apply Kd.R_drewN | apply Kd.R_drew)); exact HO_4.out)) k_ hk, Kd.fresh' (Kd.R_lt (by (with_reducible repeat (first | apply Kd.R_alloc | apply Kd.R_drewN | apply Kd.R_drew)); exact HO_5.out)) k_ hk, Kd.fresh' (Kd.R_lt (by (with_reducible repeat (first | apply Kd.R_alloc | apply Kd.R_drewN | apply Kd.R_drew)); exact HO_12.out)) k_ hk, Kd.freshB (g := gb661) (o := .cells #[.slice A0_0 l0_0.length c0_0, .bool a0_1] 28 (0, 0)) (by (with_reducible repeat (first | refine blk_drewN ?_ _ | refine blk_drew ?_ | refine blk_alloc ?_ _)); exact BK661.out) k_ hk⟩)); (case aO => exact (by (with_reducible repeat (first | apply Kd.N_alloc | apply Kd.N_drewN | apply Kd.N_drew)); exact Kd.N_mono HO684.out (fun _ hk => ⟨hk.1, ⟨hk.2.1, ⟨hk.2.2.1, ⟨hk.2.2.2.2.1, hk.2.2.2.2.2⟩⟩⟩⟩))); (case aS => exact (below_size (by repeat (first | (with_reducible first | exact HB.out | apply below_alloc | apply pw_below_drewN | apply below_drew1 | refine below_set ?_ GE661.out) | exact HB.out)))); (case aL => have := LMc40.out; omega); intro v691 w51 ho hb hg hat; rw [← Ny690.out] at ho; have n0_ := Aside0.mk (Kd.R_over' (by (with_reducible repeat (first | apply Kd.R_alloc | apply Kd.R_drewN | apply Kd.R_drew)); exact HO_4.out) (Kd.N_typed (by (with_reducible repeat (first | apply Kd.N_alloc | apply Kd.N_drewN | apply Kd.N_drew)); exact HO684.out)) (by decide) hg); have n1_ := Aside0.mk (Kd.R_over' (by (with_reducible repeat (first | apply Kd.R_alloc | apply Kd.R_drewN | apply Kd.R_drew)); exact HO_5.out) (Kd.N_typed (by (with_reducible repeat (first | apply Kd.N_alloc | apply Kd.N_drewN | apply Kd.N_drew)); exact HO684.out)) (by decide) hg); have n2_ := Aside0.mk (Kd.N_afterv (ok := (fun k_ => (w.heap.size ≤ k_) ∧ some k_ ≠ (.slice (some ad671) t662.length co15 : Value).ownBlock ∧ some k_ ≠ (.slice (some ad669) t665.length co7 : Value).ownBlock ∧ some k_ ≠ (.slice (some ad681) y676.length co47 : Value).ownBlock ∧ k_ ≠ gb661)) (by (with_reducible repeat (first | apply Kd.N_alloc | apply Kd.N_drewN | apply Kd.N_drew)); exact HO_7.out) hg hat); have n3_ := Aside0.mk (Kd.R_over' (by (with_reducible repeat (first | apply Kd.R_alloc | apply Kd.R_drewN | apply Kd.R_drew)); exact HO_12.out) (Kd.N_typed (by (with_reducible repeat (first | apply Kd.N_alloc | apply Kd.N_drewN | apply Kd.N_drew)); exact HO684.out)) (by decide) hg); have n4_ := Aside0.mk (blk_grown (g := gb661) (o := .cells #[.slice A0_0 l0_0.length c0_0, .bool a0_1] 28 (0, 0)) (by (with_reducible repeat (first | refine blk_drewN ?_ _ | refine blk_drew ?_ | refine blk_alloc ?_ _)); exact BK661.out) hg (Kd.N_ne HO684.out BK661.out (by decide))); have n5_ := Aside0.mk (Kd.V_afterv (ok := (fun k_ => (w.heap.size ≤ k_) ∧ some k_ ≠ (.slice (some ad671) t662.length co15 : Value).ownBlock ∧ some k_ ≠ (.slice (some ad669) t665.length co7 : Value).ownBlock ∧ some k_ ≠ (.slice (some ad679) x7_1.length co46 : Value).ownBlock ∧ some k_ ≠ (.slice (some ad681) y676.length co47 : Value).ownBlock ∧ k_ ≠ gb661)) (by (with_reducible repeat (first | apply Kd.V_alloc | apply Kd.V_drewN | apply Kd.V_drew)); exact Kd.V_mono HL679_0.out (fun _ hk => ⟨⟨hk.1.1.1, ⟨hk.1.1.2.1, ⟨hk.1.1.2.2.1, ⟨hk.1.2, ⟨hk.1.1.2.2.2.1, hk.1.1.2.2.2.2⟩⟩⟩⟩⟩, hk.2⟩)) hg hat); have n6_ := Aside0.mk (Kd.V_afterv (ok := (fun k_ => (w.heap.size ≤ k_) ∧ some k_ ≠ (.slice (some ad671) t662.length co15 : Value).ownBlock ∧ some k_ ≠ (.slice (some ad669) t665.length co7 : Value).ownBlock ∧ some k_ ≠ (.slice (some ad681) y676.length co47 : Value).ownBlock ∧ k_ ≠ gb661)) (by (with_reducible repeat (first | apply Kd.V_alloc | apply Kd.V_drewN | apply Kd.V_drew)); exact HO689.out) hg hat); have n7_ := Aside0.mk (hb); have n8_ := Aside0.mk (ho); clear HO_4; clear HO_5; clear HO_7; clear HO_12; clear BK661; clear HL679_0; clear HO689; clear HB; clear HO684; have HO_4 := n0_; have HO_5 := n1_; have HO_7 := n2_; have HO_12 := n3_; have BK661 := n4_; have HL679_0 := n5_; have HO689 := n6_; have HB := n7_; have HO692 := n8_; clear n0_ n1_ n2_ n3_ n4_ n5_ n6_ n7_ n8_; clear ho hb hg hat))
                         have n0_ := Aside0.mk (Kd.R_drew HO_4.out)
                         have n1_ := Aside0.mk (Kd.R_drew HO_5.out)
                         have n2_ := Aside0.mk (Kd.N_drew HO_7.out)
                         have n3_ := Aside0.mk (Kd.R_drew HO_12.out)
                         have n4_ := Aside0.mk (Kd.V_drew HL679_0.out)
                         have n5_ := Aside0.mk (Kd.V_drew HO689.out)
                         have n6_ := Aside0.mk (Kd.N_drew HO692.out)
                         have n7_ := Aside0.mk (blk_drew BK661.out)
                         have n8_ := Aside0.mk (below_drew1 HB.out)
                         clear HO_4;clear HO_5;clear HO_7;clear HO_12;clear HL679_0;clear HO689;clear HO692;clear BK661;clear HB
                         have HO_4 := n0_
                         have HO_5 := n1_
                         have HO_7 := n2_
                         have HO_12 := n3_
                         have HL679_0 := n4_
                         have HO689 := n5_
                         have HO692 := n6_
                         have BK661 := n7_
                         have HB := n8_
                         clear n0_ n1_ n2_ n3_ n4_ n5_ n6_ n7_ n8_
                         have q53 : (x13_3 : Int) ≤ ((x7_1.length : Int) : Int) := of_decide_eq_true (by first | (with_reducible assumption) | assumption)
                         obtain ⟨i053, hi053, _, hsz53, _⟩ := info_parts info22
                         have hroom53 : x7_1.length ≤ co46 := (Kd.N_reads' HO_7.out).2.1
                         have hC53 : Kd.F (Kd.slice 3 (Kd.int .i64)) _ _ (some ad679) x7_1.length x7_1 := (Kd.V_at (base := w.heap.size) (Kd.N_V HO_7.out)).2.2
                         have q053 : (0 : Int) ≤ (x13_3 : Int) := of_decide_eq_true (by first | (with_reducible assumption) | assumption)
                         have hcut53 := cut_from (P := Try.prog) 39 22 .i64 Try.underlying39 hi053 1 hsz53 (some ad679) x7_1.length co46 x13_3 q053 q53
                         have hr53 := Kd.F_cut (m := (x13_3 : Int).toNat) (c := co46) hC53 (by omega) hroom53
                         obtain ⟨A53, hA53⟩ : ∃ A1, A1 = (if co46 = (x13_3 : Int).toNat then (some ad679) else ((some ad679) : Option Addr).map (·.add ((x13_3 : Int).toNat * 1))) := ⟨_, rfl⟩
                         obtain ⟨c53, hc53⟩ : ∃ c1, c1 = co46 - (x13_3 : Int).toNat := ⟨_, rfl⟩
                         have hy53 : y696.length = x7_1.length - (x13_3 : Int).toNat := (by rw [Ny696.out, List.length_drop] <;> omega)
                         rw [show (x7_1).drop (x13_3 : Int).toNat = y696 from Ny696.out.symm] at hr53
                         replace hr53 : Kd.F (Kd.slice 3 (Kd.int .i64)) _ _ A53 y696.length y696 := (by rw [hA53]; exact hr53)
                         rw [← hy53, ← hA53, ← hc53] at hcut53
                         have HO700 := Aside0.mk (show Kd.V (Kd.slice 3 (Kd.int .i64)) 22 _ w.heap.size _ (.slice A53 y696.length c53) y696 from Kd.V_mk (by rw [hy53, hc53]; exact Nat.sub_le_sub_right hroom53 _) hr53)
                         have HC700 := Aside0.mk (show y696.length ≤ c53 from by rw [hy53, hc53]; exact Nat.sub_le_sub_right hroom53 _)
                         clear hr53 hC53 hroom53 hi053 hsz53 hc53
                         have KY53 := Aside0.mk hy53
                         have KA53 := Aside0.mk hA53
                         clear hy53 hA53
                         replace q53 := eq_true q53
                         refine start_ (n := 9) (S := fun w' => True) (ds := []) #[false, false, false, false, false, false, false, false, false] (by kernel_rfl) rfl rfl trivial (fun hHeld => ?_); refine with_tabW spec_trMatching.tab17 spec_trMatching.bits17 (fun HT_ HW_ => ?_)
                         generalize w51.drew = w52 at HO_4 HO_5 HO_7 HO_12 HL679_0 HO689 HO692 BK661 HB HO700 hHeld ⊢
                         refine pure_ (i := 0) (N := some 90) (v := ?_) (a' := ?_) #[true, false, false, false, false, false, false, false, false] rfl rfl (any_of HT_.out (by kernel_rfl)) (fun _ _ _ h => h) (Or.inl ⟨by rfl, ?_⟩) ?_ ?_
                         rotate_left
                         ·intro w'
                          go_simp
                          with_reducible rfl
                         rotate_left
                         ·simp only [Act.put, List.setIfInBounds_toArray, List.set_cons_zero, List.set_cons_succ, i64_w, i32_w]
                          rfl
                         refine pure_ (i := 1) (N := some 91) (v := ?_) (a' := ?_) #[true, true, false, false, false, false, false, false, false] rfl rfl (any_of HT_.out (by kernel_rfl)) (fun _ _ _ h => h) (Or.inl ⟨by rfl, ?_⟩) ?_ ?_
                         rotate_left
                         ·intro w'
                          go_simp
                          with_reducible rfl
                         rotate_left
                         ·simp only [Act.put, List.setIfInBounds_toArray, List.set_cons_zero, List.set_cons_succ, i64_w, i32_w]
                          rfl
                         refine pure_ (i := 4) (N := some 94) (v := ?_) (a' := ?_) #[true, true, false, false, true, false, false, false, false] rfl rfl (any_of HT_.out (by kernel_rfl)) (fun _ _ _ h => h) (Or.inl ⟨by rfl, ?_⟩) ?_ ?_
                         rotate_left
                         ·intro w'
                          go_simp
                          with_reducible rfl
                         rotate_left
                         ·simp only [Act.put, List.setIfInBounds_toArray, List.set_cons_zero, List.set_cons_succ, i64_w, i32_w]
                          rfl
                         refine pure_ (i := 5) (N := some 95) (v := ?_) (a' := ?_) #[true, true, false, false, true, true, false, false, false] rfl rfl (any_of HT_.out (by kernel_rfl)) (fun _ _ _ h => h) (Or.inl ⟨by rfl, ?_⟩) ?_ ?_
                         rotate_left
                         ·intro w'
                          go_simp
                          with_reducible rfl
                         rotate_left
                         ·simp only [Act.put, List.setIfInBounds_toArray, List.set_cons_zero, List.set_cons_succ, i64_w, i32_w]
                          rfl
                         refine pure_ (i := 6) (N := some 96) (v := ?_) (a' := ?_) #[true, true, false, false, true, true, true, false, false] rfl rfl (any_of HT_.out (by kernel_rfl)) (fun _ _ _ h => h) (Or.inl ⟨by rfl, ?_⟩) ?_ ?_
                         rotate_left
                         ·intro w'
                          go_simp
                          with_reducible rfl
                         rotate_left
                         ·simp only [Act.put, List.setIfInBounds_toArray, List.set_cons_zero, List.set_cons_succ, i64_w, i32_w]
                          rfl
                         refine one_ (i := 2) (N := some 92) #[true, true, true, false, true, true, true, false, false] rfl rfl (one_of HT_.out (by kernel_rfl)) (by decide) (fun K hK => ?_)
                         refine value_ (w1 := ?_) (v := ?_) (by rfl) rfl ?_ ?_
                         rotate_left 2
                         ·go_simp
                          constructor
                          ·rfl
                          ·rfl
                         refine hK.out _ _ trivial (fun hHeld => ?_)
                         clear hK K
                         refine norm_ (a' := ?_) ?_ ?_
                         rotate_left
                         ·show Act.put _ (some 92) _ = _
                          simp only [Act.put, List.setIfInBounds_toArray, List.set_cons_zero, List.set_cons_succ, i64_w, i32_w]
                          rfl
                         refine one_ (i := 3) (N := some 93) #[true, true, true, true, true, true, true, false, false] rfl rfl (one_of HT_.out (by kernel_rfl)) (by decide) (fun K hK => ?_)
                         refine Kd.N_append_step (Kd.slice 3 (Kd.int .i64)) (w0 := w) w.heap.size (by rfl) (.tmp 90) (.tmp 92) 39 22 (.slice none 0 0) 24 rfl Try.underlying39 info22 rfl (by decide) (by omega) v691 y690 y676 [.slice (some ad681) y676.length co47] (fun k_ => (w.heap.size ≤ k_) ∧ some k_ ≠ (.slice (some ad671) t662.length co15 : Value).ownBlock ∧ some k_ ≠ (.slice (some ad669) t665.length co7 : Value).ownBlock ∧ k_ ≠ gb661) (fun k_ => ((fun k_ => (w.heap.size ≤ k_) ∧ some k_ ≠ (.slice (some ad671) t662.length co15 : Value).ownBlock ∧ some k_ ≠ (.slice (some ad669) t665.length co7 : Value).ownBlock ∧ k_ ≠ gb661)) k_ ∧ some k_ ≠ (v691 : Value).ownBlock) rfl rfl ?aP (fun _ hk => hk) ?aF ?aO ?aB ?aS ?aL ?_
                         (case aP => exact (Kd.FK_slice_mk (Kd.R_reads' (Kd.R_mono (ok' := (fun k_ => ((fun k_ => (w.heap.size ≤ k_) ∧ some k_ ≠ (.slice (some ad671) t662.length co15 : Value).ownBlock ∧ some k_ ≠ (.slice (some ad669) t665.length co7 : Value).ownBlock ∧ k_ ≠ gb661)) k_ ∧ some k_ ≠ (v691 : Value).ownBlock)) (Kd.R_types (Kd.R_apart' (HO_12.out) (Kd.N_typed HO692.out) (by decide)) BK661.out (by decide)) (fun k_ hk => ⟨⟨hk.1.1.1, ⟨hk.1.1.2.1, ⟨hk.1.1.2.2, hk.2⟩⟩⟩, hk.1.2⟩))).2.1 (Kd.R_F (Kd.R_mono (ok' := (fun k_ => ((fun k_ => (w.heap.size ≤ k_) ∧ some k_ ≠ (.slice (some ad671) t662.length co15 : Value).ownBlock ∧ some k_ ≠ (.slice (some ad669) t665.length co7 : Value).ownBlock ∧ k_ ≠ gb661)) k_ ∧ some k_ ≠ (v691 : Value).ownBlock)) (Kd.R_types (Kd.R_apart' (HO_12.out) (Kd.N_typed HO692.out) (by decide)) BK661.out (by decide)) (fun k_ hk => ⟨⟨hk.1.1.1, ⟨hk.1.1.2.1, ⟨hk.1.1.2.2, hk.2⟩⟩⟩, hk.1.2⟩)))))
                         (case aB => exact (by repeat (first | (with_reducible first | exact HB.out | apply below_alloc | apply pw_below_drewN | apply below_drew1 | refine below_set ?_ GE661.out) | exact HB.out)))
                         (case aF => exact (fun k_ hk => ⟨(Nat.le_trans (below_size (by repeat (first | (with_reducible first | exact HB.out | apply below_alloc | apply pw_below_drewN | apply below_drew1 | refine below_set ?_ GE661.out) | exact HB.out))) hk), Kd.fresh' (Kd.R_lt (by (with_reducible repeat (first | apply Kd.R_alloc | apply Kd.R_drewN | apply Kd.R_drew)); exact HO_4.out)) k_ hk, Kd.fresh' (Kd.R_lt (by (with_reducible repeat (first | apply Kd.R_alloc | apply Kd.R_drewN | apply Kd.R_drew)); exact HO_5.out)) k_ hk, Kd.freshB (g := gb661) (o := .cells #[.slice A0_0 l0_0.length c0_0, .bool a0_1] 28 (0, 0)) (by (with_reducible repeat (first | refine blk_drewN ?_ _ | refine blk_drew ?_ | refine blk_alloc ?_ _)); exact BK661.out) k_ hk⟩))
                         (case aO => exact (by (with_reducible repeat (first | apply Kd.N_alloc | apply Kd.N_drewN | apply Kd.N_drew)); exact Kd.N_mono HO692.out (fun _ hk => ⟨hk.1, ⟨hk.2.1, ⟨hk.2.2.1, hk.2.2.2.2⟩⟩⟩)))
                         (case aS => exact (below_size (by repeat (first | (with_reducible first | exact HB.out | apply below_alloc | apply pw_below_drewN | apply below_drew1 | refine below_set ?_ GE661.out) | exact HB.out))))
                         (case aL => have := LMc41.out; omega)
                         intro v694 w54 ho hb hg hat
                         rw [← Ny693.out] at ho
                         have n0_ := Aside0.mk (Kd.R_over' (by (with_reducible repeat (first | apply Kd.R_alloc | apply Kd.R_drewN | apply Kd.R_drew)); exact HO_4.out) (Kd.N_typed (by (with_reducible repeat (first | apply Kd.N_alloc | apply Kd.N_drewN | apply Kd.N_drew)); exact HO692.out)) (by decide) hg)
                         have n1_ := Aside0.mk (Kd.R_over' (by (with_reducible repeat (first | apply Kd.R_alloc | apply Kd.R_drewN | apply Kd.R_drew)); exact HO_5.out) (Kd.N_typed (by (with_reducible repeat (first | apply Kd.N_alloc | apply Kd.N_drewN | apply Kd.N_drew)); exact HO692.out)) (by decide) hg)
                         have n2_ := Aside0.mk (Kd.N_afterv (ok := (fun k_ => (w.heap.size ≤ k_) ∧ some k_ ≠ (.slice (some ad671) t662.length co15 : Value).ownBlock ∧ some k_ ≠ (.slice (some ad669) t665.length co7 : Value).ownBlock ∧ some k_ ≠ (.slice (some ad681) y676.length co47 : Value).ownBlock ∧ k_ ≠ gb661)) (by (with_reducible repeat (first | apply Kd.N_alloc | apply Kd.N_drewN | apply Kd.N_drew)); exact HO_7.out) hg hat)
                         have n3_ := Aside0.mk (blk_grown (g := gb661) (o := .cells #[.slice A0_0 l0_0.length c0_0, .bool a0_1] 28 (0, 0)) (by (with_reducible repeat (first | refine blk_drewN ?_ _ | refine blk_drew ?_ | refine blk_alloc ?_ _)); exact BK661.out) hg (Kd.N_ne HO692.out BK661.out (by decide)))
                         have n4_ := Aside0.mk (Kd.V_afterv (ok := (fun k_ => (w.heap.size ≤ k_) ∧ some k_ ≠ (.slice (some ad671) t662.length co15 : Value).ownBlock ∧ some k_ ≠ (.slice (some ad669) t665.length co7 : Value).ownBlock ∧ some k_ ≠ (.slice (some ad679) x7_1.length co46 : Value).ownBlock ∧ some k_ ≠ (.slice (some ad681) y676.length co47 : Value).ownBlock ∧ k_ ≠ gb661)) (by (with_reducible repeat (first | apply Kd.V_alloc | apply Kd.V_drewN | apply Kd.V_drew)); exact HL679_0.out) hg hat)
                         have n5_ := Aside0.mk (Kd.V_afterv (ok := (fun k_ => (w.heap.size ≤ k_) ∧ some k_ ≠ (.slice (some ad671) t662.length co15 : Value).ownBlock ∧ some k_ ≠ (.slice (some ad669) t665.length co7 : Value).ownBlock ∧ some k_ ≠ (.slice (some ad681) y676.length co47 : Value).ownBlock ∧ k_ ≠ gb661)) (by (with_reducible repeat (first | apply Kd.V_alloc | apply Kd.V_drewN | apply Kd.V_drew)); exact HO689.out) hg hat)
                         have n6_ := Aside0.mk (Kd.V_afterv (ok := (fun k_ => (w.heap.size ≤ k_) ∧ some k_ ≠ (.slice (some ad671) t662.length co15 : Value).ownBlock ∧ some k_ ≠ (.slice (some ad669) t665.length co7 : Value).ownBlock ∧ some k_ ≠ (.slice (some ad681) y676.length co47 : Value).ownBlock ∧ k_ ≠ gb661)) (by (with_reducible repeat (first | apply Kd.V_alloc | apply Kd.V_drewN | apply Kd.V_drew)); exact HO700.out) hg hat)
                         have n7_ := Aside0.mk (hb)
                         have n8_ := Aside0.mk (ho)
                         clear HO_4;clear HO_5;clear HO_7;clear BK661;clear HL679_0;clear HO689;clear HO700;clear HB;clear HO692;clear HO_12
                         have HO_4 := n0_
                         have HO_5 := n1_
                         have HO_7 := n2_
                         have BK661 := n3_
                         have HL679_0 := n4_
                         have HO689 := n5_
                         have HO700 := n6_
                         have HB := n7_
                         have HO695 := n8_
                         clear n0_ n1_ n2_ n3_ n4_ n5_ n6_ n7_ n8_;clear ho hb hg hat
                         refine hK.out _ _ trivial (fun hHeld => ?_)
                         clear hK K
                         refine norm_ (a' := ?_) ?_ ?_
                         rotate_left
                         ·show Act.put _ (some 93) _ = _
                          simp only [Act.put, List.setIfInBounds_toArray, List.set_cons_zero, List.set_cons_succ, i64_w, i32_w]
                          rfl
                         refine one_ (i := 7) (N := some 97) #[true, true, true, true, true, true, true, true, false] rfl rfl (one_of HT_.out (by kernel_rfl)) (by decide) (fun K hK => ?_)
                         refine Kd.N_append_rows_step (Kd.slice 3 (Kd.int .i64)) (w0 := w) w.heap.size (by rfl) (.tmp 93) (.tmp 96) 39 22 (.slice none 0 0) 24 rfl Try.underlying39 info22 rfl (by decide) (by omega) v694 y693 y696 _ _ _ (fun k_ => (w.heap.size ≤ k_) ∧ some k_ ≠ (.slice (some ad671) t662.length co15 : Value).ownBlock ∧ some k_ ≠ (.slice (some ad669) t665.length co7 : Value).ownBlock ∧ k_ ≠ gb661) (fun k_ => ((fun k_ => (w.heap.size ≤ k_) ∧ some k_ ≠ (.slice (some ad671) t662.length co15 : Value).ownBlock ∧ some k_ ≠ (.slice (some ad669) t665.length co7 : Value).ownBlock ∧ k_ ≠ gb661)) k_ ∧ some k_ ≠ (v694 : Value).ownBlock) rfl rfl ?aO ?aR (fun _ hk => hk) ?aF ?aB ?aS ?aL ?_
                         (case aR => exact (by skip; exact Kd.V_F (Kd.V_mono (ok' := (fun k_ => ((fun k_ => (w.heap.size ≤ k_) ∧ some k_ ≠ (.slice (some ad671) t662.length co15 : Value).ownBlock ∧ some k_ ≠ (.slice (some ad669) t665.length co7 : Value).ownBlock ∧ k_ ≠ gb661)) k_ ∧ some k_ ≠ (v694 : Value).ownBlock)) (HO700.out) (fun k_ hk => ⟨⟨hk.1.1, ⟨hk.1.2.1, ⟨hk.1.2.2.1, hk.1.2.2.2.2⟩⟩⟩, hk.2⟩))))
                         (case aB => exact (by repeat (first | (with_reducible first | exact HB.out | apply below_alloc | apply pw_below_drewN | apply below_drew1 | refine below_set ?_ GE661.out) | exact HB.out)))
                         (case aF => exact (fun k_ hk => ⟨(Nat.le_trans (below_size (by repeat (first | (with_reducible first | exact HB.out | apply below_alloc | apply pw_below_drewN | apply below_drew1 | refine below_set ?_ GE661.out) | exact HB.out))) hk), Kd.fresh' (Kd.R_lt (by (with_reducible repeat (first | apply Kd.R_alloc | apply Kd.R_drewN | apply Kd.R_drew)); exact HO_4.out)) k_ hk, Kd.fresh' (Kd.R_lt (by (with_reducible repeat (first | apply Kd.R_alloc | apply Kd.R_drewN | apply Kd.R_drew)); exact HO_5.out)) k_ hk, Kd.freshB (g := gb661) (o := .cells #[.slice A0_0 l0_0.length c0_0, .bool a0_1] 28 (0, 0)) (by (with_reducible repeat (first | refine blk_drewN ?_ _ | refine blk_drew ?_ | refine blk_alloc ?_ _)); exact BK661.out) k_ hk⟩))
                         (case aO => exact (by (with_reducible repeat (first | apply Kd.N_alloc | apply Kd.N_drewN | apply Kd.N_drew)); exact HO695.out))
                         (case aS => exact (below_size (by repeat (first | (with_reducible first | exact HB.out | apply below_alloc | apply pw_below_drewN | apply below_drew1 | refine below_set ?_ GE661.out) | exact HB.out))))
                         (case aL => have := LMc44.out; omega)
                         intro v702 w55 ho hb hg hat
                         rw [← Ny701.out] at ho
                         have n0_ := Aside0.mk (Kd.R_over' (by (with_reducible repeat (first | apply Kd.R_alloc | apply Kd.R_drewN | apply Kd.R_drew)); exact HO_4.out) (Kd.N_typed (by (with_reducible repeat (first | apply Kd.N_alloc | apply Kd.N_drewN | apply Kd.N_drew)); exact HO695.out)) (by decide) hg)
                         have n1_ := Aside0.mk (Kd.R_over' (by (with_reducible repeat (first | apply Kd.R_alloc | apply Kd.R_drewN | apply Kd.R_drew)); exact HO_5.out) (Kd.N_typed (by (with_reducible repeat (first | apply Kd.N_alloc | apply Kd.N_drewN | apply Kd.N_drew)); exact HO695.out)) (by decide) hg)
                         have n2_ := Aside0.mk (Kd.N_afterv (ok := (fun k_ => (w.heap.size ≤ k_) ∧ some k_ ≠ (.slice (some ad671) t662.length co15 : Value).ownBlock ∧ some k_ ≠ (.slice (some ad669) t665.length co7 : Value).ownBlock ∧ k_ ≠ gb661)) (by (with_reducible repeat (first | apply Kd.N_alloc | apply Kd.N_drewN | apply Kd.N_drew)); exact Kd.N_mono HO_7.out (fun _ hk => ⟨⟨hk.1.1, ⟨hk.1.2.1, ⟨hk.1.2.2.1, hk.1.2.2.2.2⟩⟩⟩, hk.2⟩)) hg hat)
                         have n3_ := Aside0.mk (blk_grown (g := gb661) (o := .cells #[.slice A0_0 l0_0.length c0_0, .bool a0_1] 28 (0, 0)) (by (with_reducible repeat (first | refine blk_drewN ?_ _ | refine blk_drew ?_ | refine blk_alloc ?_ _)); exact BK661.out) hg (Kd.N_ne HO695.out BK661.out (by decide)))
                         have n4_ := Aside0.mk (Kd.V_afterv (ok := (fun k_ => (w.heap.size ≤ k_) ∧ some k_ ≠ (.slice (some ad671) t662.length co15 : Value).ownBlock ∧ some k_ ≠ (.slice (some ad669) t665.length co7 : Value).ownBlock ∧ some k_ ≠ (.slice (some ad679) x7_1.length co46 : Value).ownBlock ∧ k_ ≠ gb661)) (by (with_reducible repeat (first | apply Kd.V_alloc | apply Kd.V_drewN | apply Kd.V_drew)); exact Kd.V_mono HL679_0.out (fun _ hk => ⟨⟨hk.1.1, ⟨hk.1.2.1, ⟨hk.1.2.2.1, ⟨hk.1.2.2.2.1, hk.1.2.2.2.2.2⟩⟩⟩⟩, hk.2⟩)) hg hat)
                         have n5_ := Aside0.mk (Kd.V_afterv (ok := (fun k_ => (w.heap.size ≤ k_) ∧ some k_ ≠ (.slice (some ad671) t662.length co15 : Value).ownBlock ∧ some k_ ≠ (.slice (some ad669) t665.length co7 : Value).ownBlock ∧ k_ ≠ gb661)) (by (with_reducible repeat (first | apply Kd.V_alloc | apply Kd.V_drewN | apply Kd.V_drew)); exact Kd.V_mono HO689.out (fun _ hk => ⟨⟨hk.1.1, ⟨hk.1.2.1, ⟨hk.1.2.2.1, hk.1.2.2.2.2⟩⟩⟩, hk.2⟩)) hg hat)
                         have n6_ := Aside0.mk (Kd.V_afterv (ok := (fun k_ => (w.heap.size ≤ k_) ∧ some k_ ≠ (.slice (some ad671) t662.length co15 : Value).ownBlock ∧ some k_ ≠ (.slice (some ad669) t665.length co7 : Value).ownBlock ∧ k_ ≠ gb661)) (by (with_reducible repeat (first | apply Kd.V_alloc | apply Kd.V_drewN | apply Kd.V_drew)); exact Kd.V_mono HO700.out (fun _ hk => ⟨⟨hk.1.1, ⟨hk.1.2.1, ⟨hk.1.2.2.1, hk.1.2.2.2.2⟩⟩⟩, hk.2⟩)) hg hat)
                         have n7_ := Aside0.mk (hb)
                         have n8_ := Aside0.mk (ho)
                         clear HO_4;clear HO_5;clear HO_7;clear BK661;clear HL679_0;clear HO689;clear HO700;clear HB;clear HO695
                         have HO_4 := n0_
                         have HO_5 := n1_
                         have HO_7 := n2_
                         have BK661 := n3_
                         have HL679_0 := n4_
                         have HO689 := n5_
                         have HO700 := n6_
                         have HB := n7_
                         have HO703 := n8_
                         clear n0_ n1_ n2_ n3_ n4_ n5_ n6_ n7_ n8_;clear ho hb hg hat
                         refine hK.out _ _ trivial (fun hHeld => ?_)
                         clear hK K
                         refine norm_ (a' := ?_) ?_ ?_
                         rotate_left
                         ·show Act.put _ (some 97) _ = _
                          simp only [Act.put, List.setIfInBounds_toArray, List.set_cons_zero, List.set_cons_succ, i64_w, i32_w]
                          rfl
                         refine pure_ (i := 8) (N := some 7) (v := ?_) (a' := ?_) #[true, true, true, true, true, true, true, true, true] rfl rfl (any_of HT_.out (by kernel_rfl)) (fun _ _ _ h => h) (Or.inl ⟨by rfl, ?_⟩) ?_ ?_
                         rotate_left
                         ·intro w'
                          go_simp
                          with_reducible rfl
                         rotate_left
                         ·simp only [Act.put, List.setIfInBounds_toArray, List.set_cons_zero, List.set_cons_succ, i64_w, i32_w]
                          rfl
                         refine done_ (done_of HT_.out (by kernel_rfl)) ?_
                         try go_wp2
                         go_roundg k3
                         case measure => have := HK1.out; have := HJ12.out; have := HK3.out; omega
                         case rel => exact ⟨(y701), ((Go.bits .or .i64 x8_1 (Go.bits .or .i64 (ji22) (ji24)))), (wrap64 (x9_1 - 1)), (by first | rfl | (simp; done) | (simp only [← hji22, ← hji24] <;> (first | rfl | simp)) | (simp [*]; done)), (by first | rfl | (simp; done) | (simp [*]; done)), H', ⟨by have := HK1.out; have := HJ12.out; have := HK3.out; omega⟩, ⟨by (with_reducible repeat (first | apply Kd.R_alloc | apply Kd.R_drewN | apply Kd.R_drew)); exact Kd.R_mono HO_4.out (fun _ hk => ⟨hk.1, hk.2.1⟩)⟩, ⟨by (with_reducible repeat (first | apply Kd.R_alloc | apply Kd.R_drewN | apply Kd.R_drew)); exact Kd.R_mono HO_5.out (fun _ hk => ⟨hk.1, hk.2.1⟩)⟩, ⟨by (with_reducible repeat (first | apply Kd.N_alloc | apply Kd.N_drewN | apply Kd.N_drew)); exact HO703.out⟩, ⟨by (with_reducible repeat (first | refine blk_drewN ?_ _ | refine blk_drew ?_ | refine blk_alloc ?_ _)); exact BK661.out⟩, ⟨by repeat (first | (with_reducible first | exact HB.out | apply below_alloc | apply pw_below_drewN | apply below_drew1 | refine below_set ?_ GE661.out) | exact HB.out)⟩⟩
                        ·rw [if_neg c44] at H
                         exact absurd H (by simp)
                       ·rw [if_neg c41] at H
                        exact absurd H (by simp)
                      ·rw [if_neg c40] at H
                       exact absurd H (by simp)
                     ·rw [if_neg c39] at H
                      exact absurd H (by simp)
                   ·rw [if_neg c33] at H
                    exact absurd H (by simp)
                  ·rw [if_neg c32] at H
                   exact absurd H (by simp)
                 ·rw [if_neg c31] at H
                  exact absurd H (by simp)
                ·rw [if_neg c30] at H
                 have c30b0 : decide (x13_3 < (x7_1.length : Int)) = false := decide_eq_false c30
                 clear c30
                 obtain ⟨y704, hy704⟩ : ∃ y_ : List (List Int), y_ = (([] : List (List Int))) := ⟨_, rfl⟩
                 replace H : (if 0 ≤ x13_3 then (if x13_3 ≤ (x7_1.length : Int) then ((some (x7_1.take (x13_3 : Int).toNat : List (List Int))).bind fun y707 => (if y704.length + y707.length < 5864062014805 then ((some (y704 ++ y707 : List (List Int))).bind fun y712 => (if y712.length < 5864062014805 then ((some (y712 ++ [y676] : List (List Int))).bind fun y715 => ((some (x7_1.drop (x13_3 : Int).toNat : List (List Int))).bind fun y718 => (if y715.length + y718.length < 5864062014805 then (spec_trMatching.l0 k3 t662 t665 (y715 ++ y718) (Go.bits .or .i64 x8_1 (Go.bits .or .i64 (ji22) (ji24))) (wrap64 (x9_1 - 1))) else (none)))) else (none))) else (none))) else (none)) else (none)) = some (r1, r2) := by first | (rw [hy704]; with_reducible exact H) | (have H2_ := (Option.bind_some _ _).symm.trans H; rw [hy704]; with_reducible exact H2_) | (have H2_ := (Option.bind_some _ _).symm.trans H; with_reducible exact H2_) | with_reducible exact H | (rw [hy704]; exact H) | exact H
                 have Ny704 := Aside0.mk hy704
                 clear hy704
                 by_cases c56 : 0 ≤ x13_3
                 ·rw [if_pos c56] at H
                  have c56b0 := eq_true c56
                  have c56b1 : decide (0 ≤ x13_3) = true := decide_eq_true c56
                  clear c56
                  by_cases c57 : x13_3 ≤ (x7_1.length : Int)
                  ·rw [if_pos c57] at H
                   have c57b0 := eq_true c57
                   have c57b1 : decide (x13_3 ≤ (x7_1.length : Int)) = true := decide_eq_true c57
                   clear c57
                   obtain ⟨y707, hy707⟩ : ∃ y_ : List (List Int), y_ = (x7_1.take (x13_3 : Int).toNat) := ⟨_, rfl⟩
                   replace H : (if y704.length + y707.length < 5864062014805 then ((some (y704 ++ y707 : List (List Int))).bind fun y712 => (if y712.length < 5864062014805 then ((some (y712 ++ [y676] : List (List Int))).bind fun y715 => ((some (x7_1.drop (x13_3 : Int).toNat : List (List Int))).bind fun y718 => (if y715.length + y718.length < 5864062014805 then (spec_trMatching.l0 k3 t662 t665 (y715 ++ y718) (Go.bits .or .i64 x8_1 (Go.bits .or .i64 (ji22) (ji24))) (wrap64 (x9_1 - 1))) else (none)))) else (none))) else (none)) = some (r1, r2) := by first | (rw [hy707]; with_reducible exact H) | (have H2_ := (Option.bind_some _ _).symm.trans H; rw [hy707]; with_reducible exact H2_) | (have H2_ := (Option.bind_some _ _).symm.trans H; with_reducible exact H2_) | with_reducible exact H | (rw [hy707]; exact H) | exact H
                   have Ny707 := Aside0.mk hy707
                   clear hy707
                   by_cases c58 : y704.length + y707.length < 5864062014805
                   ·rw [if_pos c58] at H
                    have LMc58 := Aside0.mk c58
                    clear c58
                    obtain ⟨y712, hy712⟩ : ∃ y_ : List (List Int), y_ = (y704 ++ y707) := ⟨_, rfl⟩
                    replace H : (if y712.length < 5864062014805 then ((some (y712 ++ [y676] : List (List Int))).bind fun y715 => ((some (x7_1.drop (x13_3 : Int).toNat : List (List Int))).bind fun y718 => (if y715.length + y718.length < 5864062014805 then (spec_trMatching.l0 k3 t662 t665 (y715 ++ y718) (Go.bits .or .i64 x8_1 (Go.bits .or .i64 (ji22) (ji24))) (wrap64 (x9_1 - 1))) else (none)))) else (none)) = some (r1, r2) := by first | (rw [hy712]; with_reducible exact H) | (have H2_ := (Option.bind_some _ _).symm.trans H; rw [hy712]; with_reducible exact H2_) | (have H2_ := (Option.bind_some _ _).symm.trans H; with_reducible exact H2_) | with_reducible exact H | (rw [hy712]; exact H) | exact H
                    have Ny712 := Aside0.mk hy712
                    clear hy712
                    by_cases c59 : y712.length < 5864062014805
                    ·rw [if_pos c59] at H
                     have LMc59 := Aside0.mk c59
                     clear c59
                     obtain ⟨y715, hy715⟩ : ∃ y_ : List (List Int), y_ = (y712 ++ [y676]) := ⟨_, rfl⟩
                     replace H : ((some (x7_1.drop (x13_3 : Int).toNat : List (List Int))).bind fun y718 => (if y715.length + y718.length < 5864062014805 then (spec_trMatching.l0 k3 t662 t665 (y715 ++ y718) (Go.bits .or .i64 x8_1 (Go.bits .or .i64 (ji22) (ji24))) (wrap64 (x9_1 - 1))) else (none))) = some (r1, r2) := by first | (rw [hy715]; with_reducible exact H) | (have H2_ := (Option.bind_some _ _).symm.trans H; rw [hy715]; with_reducible exact H2_) | (have H2_ := (Option.bind_some _ _).symm.trans H; with_reducible exact H2_) | with_reducible exact H | (rw [hy715]; exact H) | exact H
                     have Ny715 := Aside0.mk hy715
                     clear hy715
                     have c60b0 := eq_true (of_decide_eq_true (by first | (with_reducible assumption) | assumption) : 0 ≤ x13_3)
                     have c61b0 := eq_true (of_decide_eq_true (by first | (with_reducible assumption) | assumption) : x13_3 ≤ (x7_1.length : Int))
                     obtain ⟨y718, hy718⟩ : ∃ y_ : List (List Int), y_ = (x7_1.drop (x13_3 : Int).toNat) := ⟨_, rfl⟩
                     replace H : (if y715.length + y718.length < 5864062014805 then (spec_trMatching.l0 k3 t662 t665 (y715 ++ y718) (Go.bits .or .i64 x8_1 (Go.bits .or .i64 (ji22) (ji24))) (wrap64 (x9_1 - 1))) else (none)) = some (r1, r2) := by first | (rw [hy718]; with_reducible exact H) | (have H2_ := (Option.bind_some _ _).symm.trans H; rw [hy718]; with_reducible exact H2_) | (have H2_ := (Option.bind_some _ _).symm.trans H; with_reducible exact H2_) | with_reducible exact H | (rw [hy718]; exact H) | exact H
                     have Ny718 := Aside0.mk hy718
                     clear hy718
                     by_cases c62 : y715.length + y718.length < 5864062014805
                     ·rw [if_pos c62] at H
                      have LMc62 := Aside0.mk c62
                      clear c62
                      obtain ⟨y723, hy723⟩ : ∃ y_ : List (List Int), y_ = (y715 ++ y718) := ⟨_, rfl⟩
                      replace H : (spec_trMatching.l0 k3 t662 t665 y723 (Go.bits .or .i64 x8_1 (Go.bits .or .i64 (ji22) (ji24))) (wrap64 (x9_1 - 1))) = some (r1, r2) := by first | (rw [hy723]; with_reducible exact H) | (have H2_ := (Option.bind_some _ _).symm.trans H; rw [hy723]; with_reducible exact H2_) | (have H2_ := (Option.bind_some _ _).symm.trans H; with_reducible exact H2_) | with_reducible exact H | (rw [hy723]; exact H) | exact H
                      have Ny723 := Aside0.mk hy723
                      clear hy723
                      have H' := Aside0.mk H
                      clear H
                      try go_wp2
                      have n0_ := Aside0.mk (Kd.R_drew HO_4.out)
                      have n1_ := Aside0.mk (Kd.R_drew HO_5.out)
                      have n2_ := Aside0.mk (Kd.N_drew HO_7.out)
                      have n3_ := Aside0.mk (Kd.R_drew HO_12.out)
                      have n4_ := Aside0.mk (blk_drew BK661.out)
                      have n5_ := Aside0.mk (below_drew1 HB.out)
                      clear HO_4;clear HO_5;clear HO_7;clear HO_12;clear BK661;clear HB
                      have HO_4 := n0_
                      have HO_5 := n1_
                      have HO_7 := n2_
                      have HO_12 := n3_
                      have BK661 := n4_
                      have HB := n5_
                      clear n0_ n1_ n2_ n3_ n4_ n5_
                      obtain ⟨Ao64, co64, eo64⟩ := Kd.N_slice HO_7.out
                      (first | subst eo64 | (injection eo64 with f1_ f2_ f3_; have f4_ := f1_.symm; have f5_ := f3_.symm; clear f1_ f2_ f3_; subst f4_; subst f5_))
                      refine start_ (n := 16) (S := fun w' => True) (ds := []) #[false, false, false, false, false, false, false, false, false, false, false, false, false, false, false, false] (by kernel_rfl) rfl rfl trivial (fun hHeld => ?_); refine with_tabW spec_trMatching.tab14 spec_trMatching.bits14 (fun HT_ HW_ => ?_)
                      generalize wr.drew = w63 at HO_4 HO_5 HO_7 HO_12 BK661 HB hHeld ⊢
                      refine pure_ (i := 0) (N := some 67) (v := ?_) (a' := ?_) #[true, false, false, false, false, false, false, false, false, false, false, false, false, false, false, false] rfl rfl (any_of HT_.out (by kernel_rfl)) (fun _ _ _ h => h) (Or.inl ⟨by rfl, ?_⟩) ?_ ?_
                      rotate_left
                      ·intro w'
                       go_simp
                       with_reducible rfl
                      rotate_left
                      ·simp only [Act.put, List.setIfInBounds_toArray, List.set_cons_zero, List.set_cons_succ, i64_w, i32_w]
                       rfl
                      refine pure_ (i := 1) (N := some 68) (v := ?_) (a' := ?_) #[true, true, false, false, false, false, false, false, false, false, false, false, false, false, false, false] rfl rfl (any_of HT_.out (by kernel_rfl)) (fun _ _ _ h => h) (Or.inl ⟨by rfl, ?_⟩) ?_ ?_
                      rotate_left
                      ·intro w'
                       go_simp
                       with_reducible rfl
                      rotate_left
                      ·simp only [Act.put, List.setIfInBounds_toArray, List.set_cons_zero, List.set_cons_succ, i64_w, i32_w]
                       rfl
                      refine pure_ (i := 2) (N := some 69) (v := ?_) (a' := ?_) #[true, true, true, false, false, false, false, false, false, false, false, false, false, false, false, false] rfl rfl (any_of HT_.out (by kernel_rfl)) (fun _ _ _ h => h) (Or.inl ⟨by rfl, ?_⟩) ?_ ?_
                      rotate_left
                      ·intro w'
                       go_simp
                       with_reducible rfl
                      rotate_left
                      ·simp only [Act.put, List.setIfInBounds_toArray, List.set_cons_zero, List.set_cons_succ, i64_w, i32_w]
                       rfl
                      refine pure_ (i := 3) (N := some 70) (v := ?_) (a' := ?_) #[true, true, true, true, false, false, false, false, false, false, false, false, false, false, false, false] rfl rfl (any_of HT_.out (by kernel_rfl)) (fun _ _ _ h => h) (Or.inl ⟨by rfl, ?_⟩) ?_ ?_
                      rotate_left
                      ·intro w'
                       go_simp
                       with_reducible rfl
                      rotate_left
                      ·simp only [Act.put, List.setIfInBounds_toArray, List.set_cons_zero, List.set_cons_succ, i64_w, i32_w]
                       rfl
                      refine pure_ (i := 4) (N := some 71) (v := ?_) (a' := ?_) #[true, true, true, true, true, false, false, false, false, false, false, false, false, false, false, false] rfl rfl (any_of HT_.out (by kernel_rfl)) (fun _ _ _ h => h) (Or.inl ⟨by rfl, ?_⟩) ?_ ?_
                      rotate_left
                      ·intro w'
                       go_simp
                       with_reducible rfl
                      rotate_left
                      ·simp only [Act.put, List.setIfInBounds_toArray, List.set_cons_zero, List.set_cons_succ, i64_w, i32_w]
                       rfl
                      refine pure_ (i := 5) (N := some 72) (v := undef) (a' := ?_) #[true, true, true, true, true, true, false, false, false, false, false, false, false, false, false, false] rfl rfl (any_of HT_.out (by kernel_rfl)) (fun _ _ _ h => h) (Or.inr ⟨by rfl, rfl⟩) ?_ ?_
                      rotate_left
                      ·simp only [Act.put, List.setIfInBounds_toArray, List.set_cons_zero, List.set_cons_succ, i64_w, i32_w]
                       rfl
                      refine pure_ (i := 6) (N := some 73) (v := undef) (a' := ?_) #[true, true, true, true, true, true, true, false, false, false, false, false, false, false, false, false] rfl rfl (any_of HT_.out (by kernel_rfl)) (fun _ _ _ h => h) (Or.inr ⟨by rfl, rfl⟩) ?_ ?_
                      rotate_left
                      ·simp only [Act.put, List.setIfInBounds_toArray, List.set_cons_zero, List.set_cons_succ, i64_w, i32_w]
                       rfl
                      refine pure_ (i := 7) (N := some 74) (v := undef) (a' := ?_) #[true, true, true, true, true, true, true, true, false, false, false, false, false, false, false, false] rfl rfl (any_of HT_.out (by kernel_rfl)) (fun _ _ _ h => h) (Or.inr ⟨by rfl, rfl⟩) ?_ ?_
                      rotate_left
                      ·simp only [Act.put, List.setIfInBounds_toArray, List.set_cons_zero, List.set_cons_succ, i64_w, i32_w]
                       rfl
                      refine pure_ (i := 8) (N := some 75) (v := undef) (a' := ?_) #[true, true, true, true, true, true, true, true, true, false, false, false, false, false, false, false] rfl rfl (any_of HT_.out (by kernel_rfl)) (fun _ _ _ h => h) (Or.inr ⟨by rfl, rfl⟩) ?_ ?_
                      rotate_left
                      ·simp only [Act.put, List.setIfInBounds_toArray, List.set_cons_zero, List.set_cons_succ, i64_w, i32_w]
                       rfl
                      refine pure_ (i := 9) (N := some 76) (v := undef) (a' := ?_) #[true, true, true, true, true, true, true, true, true, true, false, false, false, false, false, false] rfl rfl (any_of HT_.out (by kernel_rfl)) (fun _ _ _ h => h) (Or.inr ⟨by rfl, rfl⟩) ?_ ?_
                      rotate_left
                      ·simp only [Act.put, List.setIfInBounds_toArray, List.set_cons_zero, List.set_cons_succ, i64_w, i32_w]
                       rfl
                      refine pure_ (i := 10) (N := some 77) (v := undef) (a' := ?_) #[true, true, true, true, true, true, true, true, true, true, true, false, false, false, false, false] rfl rfl (any_of HT_.out (by kernel_rfl)) (fun _ _ _ h => h) (Or.inr ⟨by rfl, rfl⟩) ?_ ?_
                      rotate_left
                      ·simp only [Act.put, List.setIfInBounds_toArray, List.set_cons_zero, List.set_cons_succ, i64_w, i32_w]
                       rfl
                      refine pure_ (i := 11) (N := some 78) (v := undef) (a' := ?_) #[true, true, true, true, true, true, true, true, true, true, true, true, false, false, false, false] rfl rfl (any_of HT_.out (by kernel_rfl)) (fun _ _ _ h => h) (Or.inr ⟨by rfl, rfl⟩) ?_ ?_
                      rotate_left
                      ·simp only [Act.put, List.setIfInBounds_toArray, List.set_cons_zero, List.set_cons_succ, i64_w, i32_w]
                       rfl
                      refine pure_ (i := 12) (N := some 79) (v := undef) (a' := ?_) #[true, true, true, true, true, true, true, true, true, true, true, true, true, false, false, false] rfl rfl (any_of HT_.out (by kernel_rfl)) (fun _ _ _ h => h) (Or.inr ⟨by rfl, rfl⟩) ?_ ?_
                      rotate_left
                      ·simp only [Act.put, List.setIfInBounds_toArray, List.set_cons_zero, List.set_cons_succ, i64_w, i32_w]
                       rfl
                      refine pure_ (i := 13) (N := some 80) (v := undef) (a' := ?_) #[true, true, true, true, true, true, true, true, true, true, true, true, true, true, false, false] rfl rfl (any_of HT_.out (by kernel_rfl)) (fun _ _ _ h => h) (Or.inr ⟨by rfl, rfl⟩) ?_ ?_
                      rotate_left
                      ·simp only [Act.put, List.setIfInBounds_toArray, List.set_cons_zero, List.set_cons_succ, i64_w, i32_w]
                       rfl
                      refine pure_ (i := 14) (N := some 81) (v := undef) (a' := ?_) #[true, true, true, true, true, true, true, true, true, true, true, true, true, true, true, false] rfl rfl (any_of HT_.out (by kernel_rfl)) (fun _ _ _ h => h) (Or.inr ⟨by rfl, rfl⟩) ?_ ?_
                      rotate_left
                      ·simp only [Act.put, List.setIfInBounds_toArray, List.set_cons_zero, List.set_cons_succ, i64_w, i32_w]
                       rfl
                      refine pure_ (i := 15) (N := some 82) (v := ?_) (a' := ?_) #[true, true, true, true, true, true, true, true, true, true, true, true, true, true, true, true] rfl rfl (any_of HT_.out (by kernel_rfl)) (fun _ _ _ h => h) (Or.inl ⟨by rfl, ?_⟩) ?_ ?_
                      rotate_left
                      ·intro w'
                       go_simp
                       with_reducible rfl
                      rotate_left
                      ·simp only [Act.put, List.setIfInBounds_toArray, List.set_cons_zero, List.set_cons_succ, i64_w, i32_w]
                       rfl
                      refine done_ (done_of HT_.out (by kernel_rfl)) ?_
                      try go_wp2_with (first | ((with_reducible refine gate_dst (N := 85) rfl ?_); refine Kd.N_lit (Kd.slice 3 (Kd.int .i64)) _ 22 ?hg (N' := 85) ?hd (xs := ([] : List (List Int))) (inner := []) (ok := (fun k_ => (w.heap.size ≤ k_) ∧ some k_ ≠ (.slice (some ad671) t662.length co15 : Value).ownBlock ∧ some k_ ≠ (.slice (some ad669) t665.length co7 : Value).ownBlock ∧ some k_ ≠ (.slice Ao64 x7_1.length co64 : Value).ownBlock ∧ some k_ ≠ (v677 : Value).ownBlock ∧ k_ ≠ gb661)) (okp := (fun k_ => (w.heap.size ≤ k_) ∧ some k_ ≠ (.slice (some ad671) t662.length co15 : Value).ownBlock ∧ some k_ ≠ (.slice (some ad669) t665.length co7 : Value).ownBlock ∧ some k_ ≠ (.slice Ao64 x7_1.length co64 : Value).ownBlock ∧ some k_ ≠ (v677 : Value).ownBlock ∧ k_ ≠ gb661)) ?hr ?hp (fun _ hk => hk) ((show ∀ k_, w63.heap.size ≤ k_ → (fun k_ => (w.heap.size ≤ k_) ∧ some k_ ≠ (.slice (some ad671) t662.length co15 : Value).ownBlock ∧ some k_ ≠ (.slice (some ad669) t665.length co7 : Value).ownBlock ∧ some k_ ≠ (.slice Ao64 x7_1.length co64 : Value).ownBlock ∧ some k_ ≠ (v677 : Value).ownBlock ∧ k_ ≠ gb661) k_ from fun k_ hk => ⟨(Nat.le_trans (below_size (by repeat (first | (with_reducible first | exact HB.out | apply below_alloc | apply pw_below_drewN | apply below_drew1 | refine below_set ?_ GE661.out) | exact HB.out))) hk), Kd.fresh' (Kd.R_lt (by (with_reducible repeat (first | apply Kd.R_alloc | apply Kd.R_drewN | apply Kd.R_drew)); exact HO_4.out)) k_ hk, Kd.fresh' (Kd.R_lt (by (with_reducible repeat (first | apply Kd.R_alloc | apply Kd.R_drewN | apply Kd.R_drew)); exact HO_5.out)) k_ hk, Kd.fresh' (Kd.N_lt (by (with_reducible repeat (first | apply Kd.N_alloc | apply Kd.N_drewN | apply Kd.N_drew)); exact HO_7.out)) k_ hk, Kd.fresh' (Kd.R_lt (by (with_reducible repeat (first | apply Kd.R_alloc | apply Kd.R_drewN | apply Kd.R_drew)); exact HO_12.out)) k_ hk, Kd.freshB (g := gb661) (o := .cells #[.slice A0_0 l0_0.length c0_0, .bool a0_1] 28 (0, 0)) (by (with_reducible repeat (first | refine blk_drewN ?_ _ | refine blk_drew ?_ | refine blk_alloc ?_ _)); exact BK661.out) k_ hk⟩) _ (Nat.le_refl _)) (Below.refl _ _) (Nat.le_refl _) (by simp) ?_; (case hd => rfl); (case hg => rfl); (case hr => first | (go_simp; done) | (go_simp; rfl)); (case hp => exact (Reps.none _ _)); intro v705 w65 ho66 hb hg_ hnew_; clear hg_ hnew_; (first | rw [← Ny704.out] at ho66 | (simp only [Int.reduceToNat] at ho66; rw [← Ny704.out] at ho66)); have n0_ := Aside0.mk (Kd.R_below (by (with_reducible repeat (first | apply Kd.R_alloc | apply Kd.R_drewN | apply Kd.R_drew)); exact HO_4.out) hb); have n1_ := Aside0.mk (Kd.R_below (by (with_reducible repeat (first | apply Kd.R_alloc | apply Kd.R_drewN | apply Kd.R_drew)); exact HO_5.out) hb); have n2_ := Aside0.mk (Kd.N_elder' (by (with_reducible repeat (first | apply Kd.N_alloc | apply Kd.N_drewN | apply Kd.N_drew)); exact HO_7.out) (Kd.N_base ho66) hb); have n3_ := Aside0.mk (Kd.R_below (by (with_reducible repeat (first | apply Kd.R_alloc | apply Kd.R_drewN | apply Kd.R_drew)); exact HO_12.out) hb); have n4_ := Aside0.mk (Kd.N_lower ho66 (below_size (by repeat (first | (with_reducible first | exact HB.out | apply below_alloc | apply pw_below_drewN | apply below_drew1 | refine below_set ?_ GE661.out) | exact HB.out)))); have n5_ := Aside0.mk (blk_below (g := gb661) (o := .cells #[.slice A0_0 l0_0.length c0_0, .bool a0_1] 28 (0, 0)) (by (with_reducible repeat (first | refine blk_drewN ?_ _ | refine blk_drew ?_ | refine blk_alloc ?_ _)); exact BK661.out) hb); have n6_ := Aside0.mk (below_step (by repeat (first | (with_reducible first | exact HB.out | apply below_alloc | apply pw_below_drewN | apply below_drew1 | refine below_set ?_ GE661.out) | exact HB.out)) hb); clear HO_4; clear HO_5; clear HO_7; clear HO_12; clear BK661; clear HB; have HO_4 := n0_; have HO_5 := n1_; have HO_7 := n2_; have HO_12 := n3_; have HO706 := n4_; have BK661 := n5_; have HB := n6_; clear n0_ n1_ n2_ n3_ n4_ n5_ n6_; clear hb ho66; have q67 : (x13_3 : Int) ≤ ((x7_1.length : Int) : Int) := of_decide_eq_true (by first | (with_reducible assumption) | assumption); obtain ⟨i067, hi067, _, hsz67, _⟩ := info_parts info22; have hroom67 : x7_1.length ≤ co64 := (Kd.N_reads' HO_7.out).2.1; have hC67 : Kd.F (Kd.slice 3 (Kd.int .i64)) _ _ Ao64 x7_1.length x7_1 := (Kd.V_at (base := w.heap.size) (Kd.N_V HO_7.out)).2.2; have hcut67 := cut_to (P := Try.prog) 39 22 .i64 Try.underlying39 hi067 Ao64 x7_1.length co64 x13_3 (of_decide_eq_true (by first | (with_reducible assumption) | assumption)) q67 hroom67; have hr67 := Kd.F_take (m := (x13_3 : Int).toNat) hC67 (by omega); have hy67 : y707.length = (x13_3 : Int).toNat := (by rw [Ny707.out, List.length_take]; omega); rw [← Ny707.out] at hr67; rw [← hy67] at hcut67; have HO711 := Aside0.mk (show Kd.V (Kd.slice 3 (Kd.int .i64)) 22 _ w.heap.size _ (.slice Ao64 y707.length co64) y707 from Kd.V_mk (by omega) hr67); have HC711 := Aside0.mk (show y707.length ≤ co64 from by omega); clear hr67 hC67 hroom67 hi067 hsz67; have KY67 := Aside0.mk hy67; clear hy67; replace q67 := eq_true q67) | ((with_reducible refine gate_builtin (b := .append) (xs := #[.tmp 85, .tmp 88]) rfl ?_); at_builtin; refine Kd.N_append_rows (Kd.slice 3 (Kd.int .i64)) (w0 := w) w.heap.size rfl (.tmp 85) (.tmp 88) 39 22 (.slice none 0 0) 24 rfl Try.underlying39 info22 rfl (by decide) (by omega) v705 y704 y707 _ _ _ (fun k_ => (w.heap.size ≤ k_) ∧ some k_ ≠ (.slice (some ad671) t662.length co15 : Value).ownBlock ∧ some k_ ≠ (.slice (some ad669) t665.length co7 : Value).ownBlock ∧ some k_ ≠ (v677 : Value).ownBlock ∧ k_ ≠ gb661) (fun k_ => ((fun k_ => (w.heap.size ≤ k_) ∧ some k_ ≠ (.slice (some ad671) t662.length co15 : Value).ownBlock ∧ some k_ ≠ (.slice (some ad669) t665.length co7 : Value).ownBlock ∧ some k_ ≠ (v677 : Value).ownBlock ∧ k_ ≠ gb661)) k_ ∧ some k_ ≠ (v705 : Value).ownBlock) rfl rfl ?aO ?aR (fun _ hk => hk) ?aF ?aB ?aS ?aL ?_; (case aR => exact (by skip; exact Kd.V_F (Kd.V_mono (ok' := (fun k_ => ((fun k_ => (w.heap.size ≤ k_) ∧ some k_ ≠ (.slice (some ad671) t662.length co15 : Value).ownBlock ∧ some k_ ≠ (.slice (some ad669) t665.length co7 : Value).ownBlock ∧ some k_ ≠ (v677 : Value).ownBlock ∧ k_ ≠ gb661)) k_ ∧ some k_ ≠ (v705 : Value).ownBlock)) (HO711.out) (fun k_ hk => ⟨⟨hk.1.1, ⟨hk.1.2.1, ⟨hk.1.2.2.1, ⟨hk.1.2.2.2.1, hk.1.2.2.2.2⟩⟩⟩⟩, hk.2⟩)))); (case aB => exact (by repeat (first | (with_reducible first | exact HB.out | apply below_alloc | apply pw_below_drewN | apply below_drew1 | refine below_set ?_ GE661.out) | exact HB.out))); (case aF => exact (fun k_ hk => ⟨(Nat.le_trans (below_size (by repeat (first | (with_reducible first | exact HB.out | apply below_alloc | apply pw_below_drewN | apply below_drew1 | refine below_set ?_ GE661.out) | exact HB.out))) hk), Kd.fresh' (Kd.R_lt (by (with_reducible repeat (first | apply Kd.R_alloc | apply Kd.R_drewN | apply Kd.R_drew)); exact HO_4.out)) k_ hk, Kd.fresh' (Kd.R_lt (by (with_reducible repeat (first | apply Kd.R_alloc | apply Kd.R_drewN | apply Kd.R_drew)); exact HO_5.out)) k_ hk, Kd.fresh' (Kd.R_lt (by (with_reducible repeat (first | apply Kd.R_alloc | apply Kd.R_drewN | apply Kd.R_drew)); exact HO_12.out)) k_ hk, Kd.freshB (g := gb661) (o := .cells #[.slice A0_0 l0_0.length c0_0, .bool a0_1] 28 (0, 0)) (by (with_reducible repeat (first | refine blk_drewN ?_ _ | refine blk_drew ?_ | refine blk_alloc ?_ _)); exact BK661.out) k_ hk⟩)); (case aO => exact (by (with_reducible repeat (first | apply Kd.N_alloc | apply Kd.N_drewN | apply Kd.N_drew)); exact Kd.N_mono HO706.out (fun _ hk => ⟨hk.1, ⟨hk.2.1, ⟨hk.2.2.1, ⟨hk.2.2.2.2.1, hk.2.2.2.2.2⟩⟩⟩⟩))); (case aS => exact (below_size (by repeat (first | (with_reducible first | exact HB.out | apply below_alloc | apply pw_below_drewN | apply below_drew1 | refine below_set ?_ GE661.out) | exact HB.out)))); (case aL => have := LMc58.out; omega); intro v713 w68 ho hb hg hat; rw [← Ny712.out] at ho; have n0_ := Aside0.mk (Kd.R_over' (by (with_reducible repeat (first | apply Kd.R_alloc | apply Kd.R_drewN | apply Kd.R_drew)); exact HO_4.out) (Kd.N_typed (by (with_reducible repeat (first | apply Kd.N_alloc | apply Kd.N_drewN | apply Kd.N_drew)); exact HO706.out)) (by decide) hg); have n1_ := Aside0.mk (Kd.R_over' (by (with_reducible repeat (first | apply Kd.R_alloc | apply Kd.R_drewN | apply Kd.R_drew)); exact HO_5.out) (Kd.N_typed (by (with_reducible repeat (first | apply Kd.N_alloc | apply Kd.N_drewN | apply Kd.N_drew)); exact HO706.out)) (by decide) hg); have n2_ := Aside0.mk (Kd.N_afterv (ok := (fun k_ => (w.heap.size ≤ k_) ∧ some k_ ≠ (.slice (some ad671) t662.length co15 : Value).ownBlock ∧ some k_ ≠ (.slice (some ad669) t665.length co7 : Value).ownBlock ∧ some k_ ≠ (v677 : Value).ownBlock ∧ k_ ≠ gb661)) (by (with_reducible repeat (first | apply Kd.N_alloc | apply Kd.N_drewN | apply Kd.N_drew)); exact HO_7.out) hg hat); have n3_ := Aside0.mk (Kd.R_over' (by (with_reducible repeat (first | apply Kd.R_alloc | apply Kd.R_drewN | apply Kd.R_drew)); exact HO_12.out) (Kd.N_typed (by (with_reducible repeat (first | apply Kd.N_alloc | apply Kd.N_drewN | apply Kd.N_drew)); exact HO706.out)) (by decide) hg); have n4_ := Aside0.mk (blk_grown (g := gb661) (o := .cells #[.slice A0_0 l0_0.length c0_0, .bool a0_1] 28 (0, 0)) (by (with_reducible repeat (first | refine blk_drewN ?_ _ | refine blk_drew ?_ | refine blk_alloc ?_ _)); exact BK661.out) hg (Kd.N_ne HO706.out BK661.out (by decide))); have n5_ := Aside0.mk (Kd.V_afterv (ok := (fun k_ => (w.heap.size ≤ k_) ∧ some k_ ≠ (.slice (some ad671) t662.length co15 : Value).ownBlock ∧ some k_ ≠ (.slice (some ad669) t665.length co7 : Value).ownBlock ∧ some k_ ≠ (v677 : Value).ownBlock ∧ k_ ≠ gb661)) (by (with_reducible repeat (first | apply Kd.V_alloc | apply Kd.V_drewN | apply Kd.V_drew)); exact HO711.out) hg hat); have n6_ := Aside0.mk (hb); have n7_ := Aside0.mk (ho); clear HO_4; clear HO_5; clear HO_7; clear HO_12; clear BK661; clear HO711; clear HB; clear HO706; have HO_4 := n0_; have HO_5 := n1_; have HO_7 := n2_; have HO_12 := n3_; have BK661 := n4_; have HO711 := n5_; have HB := n6_; have HO714 := n7_; clear n0_ n1_ n2_ n3_ n4_ n5_ n6_ n7_; clear ho hb hg hat))
                      have n0_ := Aside0.mk (Kd.R_drew HO_4.out)
                      have n1_ := Aside0.mk (Kd.R_drew HO_5.out)
                      have n2_ := Aside0.mk (Kd.N_drew HO_7.out)
                      have n3_ := Aside0.mk (Kd.R_drew HO_12.out)
                      have n4_ := Aside0.mk (Kd.V_drew HO711.out)
                      have n5_ := Aside0.mk (Kd.N_drew HO714.out)
                      have n6_ := Aside0.mk (blk_drew BK661.out)
                      have n7_ := Aside0.mk (below_drew1 HB.out)
                      clear HO_4;clear HO_5;clear HO_7;clear HO_12;clear HO711;clear HO714;clear BK661;clear HB
                      have HO_4 := n0_
                      have HO_5 := n1_
                      have HO_7 := n2_
                      have HO_12 := n3_
                      have HO711 := n4_
                      have HO714 := n5_
                      have BK661 := n6_
                      have HB := n7_
                      clear n0_ n1_ n2_ n3_ n4_ n5_ n6_ n7_
                      have q70 : (x13_3 : Int) ≤ ((x7_1.length : Int) : Int) := of_decide_eq_true (by first | (with_reducible assumption) | assumption)
                      obtain ⟨i070, hi070, _, hsz70, _⟩ := info_parts info22
                      have hroom70 : x7_1.length ≤ co64 := (Kd.N_reads' HO_7.out).2.1
                      have hC70 : Kd.F (Kd.slice 3 (Kd.int .i64)) _ _ Ao64 x7_1.length x7_1 := (Kd.V_at (base := w.heap.size) (Kd.N_V HO_7.out)).2.2
                      have q070 : (0 : Int) ≤ (x13_3 : Int) := of_decide_eq_true (by first | (with_reducible assumption) | assumption)
                      have hcut70 := cut_from (P := Try.prog) 39 22 .i64 Try.underlying39 hi070 1 hsz70 Ao64 x7_1.length co64 x13_3 q070 q70
                      have hr70 := Kd.F_cut (m := (x13_3 : Int).toNat) (c := co64) hC70 (by omega) hroom70
                      obtain ⟨A70, hA70⟩ : ∃ A1, A1 = (if co64 = (x13_3 : Int).toNat then Ao64 else (Ao64 : Option Addr).map (·.add ((x13_3 : Int).toNat * 1))) := ⟨_, rfl⟩
                      obtain ⟨c70, hc70⟩ : ∃ c1, c1 = co64 - (x13_3 : Int).toNat := ⟨_, rfl⟩
                      have hy70 : y718.length = x7_1.length - (x13_3 : Int).toNat := (by rw [Ny718.out, List.length_drop] <;> omega)
                      rw [show (x7_1).drop (x13_3 : Int).toNat = y718 from Ny718.out.symm] at hr70
                      replace hr70 : Kd.F (Kd.slice 3 (Kd.int .i64)) _ _ A70 y718.length y718 := (by rw [hA70]; exact hr70)
                      rw [← hy70, ← hA70, ← hc70] at hcut70
                      have HO722 := Aside0.mk (show Kd.V (Kd.slice 3 (Kd.int .i64)) 22 _ w.heap.size _ (.slice A70 y718.length c70) y718 from Kd.V_mk (by rw [hy70, hc70]; exact Nat.sub_le_sub_right hroom70 _) hr70)
                      have HC722 := Aside0.mk (show y718.length ≤ c70 from by rw [hy70, hc70]; exact Nat.sub_le_sub_right hroom70 _)
                      clear hr70 hC70 hroom70 hi070 hsz70 hc70
                      have KY70 := Aside0.mk hy70
                      have KA70 := Aside0.mk hA70
                      clear hy70 hA70
                      replace q70 := eq_true q70
                      obtain ⟨Ao72, co72, eo72⟩ := Kd.R_slice HO_12.out
                      (first | subst eo72 | (injection eo72 with f1_ f2_ f3_; have f4_ := f1_.symm; have f5_ := f3_.symm; clear f1_ f2_ f3_; subst f4_; subst f5_))
                      refine start_ (n := 9) (S := fun w' => True) (ds := []) #[false, false, false, false, false, false, false, false, false] (by kernel_rfl) rfl rfl trivial (fun hHeld => ?_); refine with_tabW spec_trMatching.tab17 spec_trMatching.bits17 (fun HT_ HW_ => ?_)
                      generalize w68.drew = w69 at HO_4 HO_5 HO_7 HO_12 HO711 HO714 BK661 HB HO722 hHeld ⊢
                      refine pure_ (i := 0) (N := some 90) (v := ?_) (a' := ?_) #[true, false, false, false, false, false, false, false, false] rfl rfl (any_of HT_.out (by kernel_rfl)) (fun _ _ _ h => h) (Or.inl ⟨by rfl, ?_⟩) ?_ ?_
                      rotate_left
                      ·intro w'
                       go_simp
                       with_reducible rfl
                      rotate_left
                      ·simp only [Act.put, List.setIfInBounds_toArray, List.set_cons_zero, List.set_cons_succ, i64_w, i32_w]
                       rfl
                      refine pure_ (i := 1) (N := some 91) (v := ?_) (a' := ?_) #[true, true, false, false, false, false, false, false, false] rfl rfl (any_of HT_.out (by kernel_rfl)) (fun _ _ _ h => h) (Or.inl ⟨by rfl, ?_⟩) ?_ ?_
                      rotate_left
                      ·intro w'
                       go_simp
                       with_reducible rfl
                      rotate_left
                      ·simp only [Act.put, List.setIfInBounds_toArray, List.set_cons_zero, List.set_cons_succ, i64_w, i32_w]
                       rfl
                      refine pure_ (i := 4) (N := some 94) (v := ?_) (a' := ?_) #[true, true, false, false, true, false, false, false, false] rfl rfl (any_of HT_.out (by kernel_rfl)) (fun _ _ _ h => h) (Or.inl ⟨by rfl, ?_⟩) ?_ ?_
                      rotate_left
                      ·intro w'
                       go_simp
                       with_reducible rfl
                      rotate_left
                      ·simp only [Act.put, List.setIfInBounds_toArray, List.set_cons_zero, List.set_cons_succ, i64_w, i32_w]
                       rfl
                      refine pure_ (i := 5) (N := some 95) (v := ?_) (a' := ?_) #[true, true, false, false, true, true, false, false, false] rfl rfl (any_of HT_.out (by kernel_rfl)) (fun _ _ _ h => h) (Or.inl ⟨by rfl, ?_⟩) ?_ ?_
                      rotate_left
                      ·intro w'
                       go_simp
                       with_reducible rfl
                      rotate_left
                      ·simp only [Act.put, List.setIfInBounds_toArray, List.set_cons_zero, List.set_cons_succ, i64_w, i32_w]
                       rfl
                      refine pure_ (i := 6) (N := some 96) (v := ?_) (a' := ?_) #[true, true, false, false, true, true, true, false, false] rfl rfl (any_of HT_.out (by kernel_rfl)) (fun _ _ _ h => h) (Or.inl ⟨by rfl, ?_⟩) ?_ ?_
                      rotate_left
                      ·intro w'
                       go_simp
                       with_reducible rfl
                      rotate_left
                      ·simp only [Act.put, List.setIfInBounds_toArray, List.set_cons_zero, List.set_cons_succ, i64_w, i32_w]
                       rfl
                      refine one_ (i := 2) (N := some 92) #[true, true, true, false, true, true, true, false, false] rfl rfl (one_of HT_.out (by kernel_rfl)) (by decide) (fun K hK => ?_)
                      refine value_ (w1 := ?_) (v := ?_) (by rfl) rfl ?_ ?_
                      rotate_left 2
                      ·go_simp
                       constructor
                       ·rfl
                       ·rfl
                      refine hK.out _ _ trivial (fun hHeld => ?_)
                      clear hK K
                      refine norm_ (a' := ?_) ?_ ?_
                      rotate_left
                      ·show Act.put _ (some 92) _ = _
                       simp only [Act.put, List.setIfInBounds_toArray, List.set_cons_zero, List.set_cons_succ, i64_w, i32_w]
                       rfl
                      refine one_ (i := 3) (N := some 93) #[true, true, true, true, true, true, true, false, false] rfl rfl (one_of HT_.out (by kernel_rfl)) (by decide) (fun K hK => ?_)
                      refine Kd.N_append_step (Kd.slice 3 (Kd.int .i64)) (w0 := w) w.heap.size (by rfl) (.tmp 90) (.tmp 92) 39 22 (.slice none 0 0) 24 rfl Try.underlying39 info22 rfl (by decide) (by omega) v713 y712 y676 [.slice Ao72 y676.length co72] (fun k_ => (w.heap.size ≤ k_) ∧ some k_ ≠ (.slice (some ad671) t662.length co15 : Value).ownBlock ∧ some k_ ≠ (.slice (some ad669) t665.length co7 : Value).ownBlock ∧ k_ ≠ gb661) (fun k_ => ((fun k_ => (w.heap.size ≤ k_) ∧ some k_ ≠ (.slice (some ad671) t662.length co15 : Value).ownBlock ∧ some k_ ≠ (.slice (some ad669) t665.length co7 : Value).ownBlock ∧ k_ ≠ gb661)) k_ ∧ some k_ ≠ (v713 : Value).ownBlock) rfl rfl ?aP (fun _ hk => hk) ?aF ?aO ?aB ?aS ?aL ?_
                      (case aP => exact (Kd.FK_slice_mk (Kd.R_reads' (Kd.R_mono (ok' := (fun k_ => ((fun k_ => (w.heap.size ≤ k_) ∧ some k_ ≠ (.slice (some ad671) t662.length co15 : Value).ownBlock ∧ some k_ ≠ (.slice (some ad669) t665.length co7 : Value).ownBlock ∧ k_ ≠ gb661)) k_ ∧ some k_ ≠ (v713 : Value).ownBlock)) (Kd.R_types (Kd.R_apart' (HO_12.out) (Kd.N_typed HO714.out) (by decide)) BK661.out (by decide)) (fun k_ hk => ⟨⟨hk.1.1.1, ⟨hk.1.1.2.1, ⟨hk.1.1.2.2, hk.2⟩⟩⟩, hk.1.2⟩))).2.1 (Kd.R_F (Kd.R_mono (ok' := (fun k_ => ((fun k_ => (w.heap.size ≤ k_) ∧ some k_ ≠ (.slice (some ad671) t662.length co15 : Value).ownBlock ∧ some k_ ≠ (.slice (some ad669) t665.length co7 : Value).ownBlock ∧ k_ ≠ gb661)) k_ ∧ some k_ ≠ (v713 : Value).ownBlock)) (Kd.R_types (Kd.R_apart' (HO_12.out) (Kd.N_typed HO714.out) (by decide)) BK661.out (by decide)) (fun k_ hk => ⟨⟨hk.1.1.1, ⟨hk.1.1.2.1, ⟨hk.1.1.2.2, hk.2⟩⟩⟩, hk.1.2⟩)))))
                      (case aB => exact (by repeat (first | (with_reducible first | exact HB.out | apply below_alloc | apply pw_below_drewN | apply below_drew1 | refine below_set ?_ GE661.out) | exact HB.out)))
                      (case aF => exact (fun k_ hk => ⟨(Nat.le_trans (below_size (by repeat (first | (with_reducible first | exact HB.out | apply below_alloc | apply pw_below_drewN | apply below_drew1 | refine below_set ?_ GE661.out) | exact HB.out))) hk), Kd.fresh' (Kd.R_lt (by (with_reducible repeat (first | apply Kd.R_alloc | apply Kd.R_drewN | apply Kd.R_drew)); exact HO_4.out)) k_ hk, Kd.fresh' (Kd.R_lt (by (with_reducible repeat (first | apply Kd.R_alloc | apply Kd.R_drewN | apply Kd.R_drew)); exact HO_5.out)) k_ hk, Kd.freshB (g := gb661) (o := .cells #[.slice A0_0 l0_0.length c0_0, .bool a0_1] 28 (0, 0)) (by (with_reducible repeat (first | refine blk_drewN ?_ _ | refine blk_drew ?_ | refine blk_alloc ?_ _)); exact BK661.out) k_ hk⟩))
                      (case aO => exact (by (with_reducible repeat (first | apply Kd.N_alloc | apply Kd.N_drewN | apply Kd.N_drew)); exact Kd.N_mono HO714.out (fun _ hk => ⟨hk.1, ⟨hk.2.1, ⟨hk.2.2.1, hk.2.2.2.2⟩⟩⟩)))
                      (case aS => exact (below_size (by repeat (first | (with_reducible first | exact HB.out | apply below_alloc | apply pw_below_drewN | apply below_drew1 | refine below_set ?_ GE661.out) | exact HB.out))))
                      (case aL => have := LMc59.out; omega)
                      intro v716 w71 ho hb hg hat
                      rw [← Ny715.out] at ho
                      have n0_ := Aside0.mk (Kd.R_over' (by (with_reducible repeat (first | apply Kd.R_alloc | apply Kd.R_drewN | apply Kd.R_drew)); exact HO_4.out) (Kd.N_typed (by (with_reducible repeat (first | apply Kd.N_alloc | apply Kd.N_drewN | apply Kd.N_drew)); exact HO714.out)) (by decide) hg)
                      have n1_ := Aside0.mk (Kd.R_over' (by (with_reducible repeat (first | apply Kd.R_alloc | apply Kd.R_drewN | apply Kd.R_drew)); exact HO_5.out) (Kd.N_typed (by (with_reducible repeat (first | apply Kd.N_alloc | apply Kd.N_drewN | apply Kd.N_drew)); exact HO714.out)) (by decide) hg)
                      have n2_ := Aside0.mk (Kd.N_afterv (ok := (fun k_ => (w.heap.size ≤ k_) ∧ some k_ ≠ (.slice (some ad671) t662.length co15 : Value).ownBlock ∧ some k_ ≠ (.slice (some ad669) t665.length co7 : Value).ownBlock ∧ some k_ ≠ (.slice Ao72 y676.length co72 : Value).ownBlock ∧ k_ ≠ gb661)) (by (with_reducible repeat (first | apply Kd.N_alloc | apply Kd.N_drewN | apply Kd.N_drew)); exact HO_7.out) hg hat)
                      have n3_ := Aside0.mk (blk_grown (g := gb661) (o := .cells #[.slice A0_0 l0_0.length c0_0, .bool a0_1] 28 (0, 0)) (by (with_reducible repeat (first | refine blk_drewN ?_ _ | refine blk_drew ?_ | refine blk_alloc ?_ _)); exact BK661.out) hg (Kd.N_ne HO714.out BK661.out (by decide)))
                      have n4_ := Aside0.mk (Kd.V_afterv (ok := (fun k_ => (w.heap.size ≤ k_) ∧ some k_ ≠ (.slice (some ad671) t662.length co15 : Value).ownBlock ∧ some k_ ≠ (.slice (some ad669) t665.length co7 : Value).ownBlock ∧ some k_ ≠ (.slice Ao72 y676.length co72 : Value).ownBlock ∧ k_ ≠ gb661)) (by (with_reducible repeat (first | apply Kd.V_alloc | apply Kd.V_drewN | apply Kd.V_drew)); exact HO711.out) hg hat)
                      have n5_ := Aside0.mk (Kd.V_afterv (ok := (fun k_ => (w.heap.size ≤ k_) ∧ some k_ ≠ (.slice (some ad671) t662.length co15 : Value).ownBlock ∧ some k_ ≠ (.slice (some ad669) t665.length co7 : Value).ownBlock ∧ some k_ ≠ (.slice Ao72 y676.length co72 : Value).ownBlock ∧ k_ ≠ gb661)) (by (with_reducible repeat (first | apply Kd.V_alloc | apply Kd.V_drewN | apply Kd.V_drew)); exact HO722.out) hg hat)
                      have n6_ := Aside0.mk (hb)
                      have n7_ := Aside0.mk (ho)
                      clear HO_4;clear HO_5;clear HO_7;clear BK661;clear HO711;clear HO722;clear HB;clear HO714;clear HO_12
                      have HO_4 := n0_
                      have HO_5 := n1_
                      have HO_7 := n2_
                      have BK661 := n3_
                      have HO711 := n4_
                      have HO722 := n5_
                      have HB := n6_
                      have HO717 := n7_
                      clear n0_ n1_ n2_ n3_ n4_ n5_ n6_ n7_;clear ho hb hg hat
                      refine hK.out _ _ trivial (fun hHeld => ?_)
                      clear hK K
                      refine norm_ (a' := ?_) ?_ ?_
                      rotate_left
                      ·show Act.put _ (some 93) _ = _
                       simp only [Act.put, List.setIfInBounds_toArray, List.set_cons_zero, List.set_cons_succ, i64_w, i32_w]
                       rfl
                      refine one_ (i := 7) (N := some 97) #[true, true, true, true, true, true, true, true, false] rfl rfl (one_of HT_.out (by kernel_rfl)) (by decide) (fun K hK => ?_)
                      refine Kd.N_append_rows_step (Kd.slice 3 (Kd.int .i64)) (w0 := w) w.heap.size (by rfl) (.tmp 93) (.tmp 96) 39 22 (.slice none 0 0) 24 rfl Try.underlying39 info22 rfl (by decide) (by omega) v716 y715 y718 _ _ _ (fun k_ => (w.heap.size ≤ k_) ∧ some k_ ≠ (.slice (some ad671) t662.length co15 : Value).ownBlock ∧ some k_ ≠ (.slice (some ad669) t665.length co7 : Value).ownBlock ∧ k_ ≠ gb661) (fun k_ => ((fun k_ => (w.heap.size ≤ k_) ∧ some k_ ≠ (.slice (some ad671) t662.length co15 : Value).ownBlock ∧ some k_ ≠ (.slice (some ad669) t665.length co7 : Value).ownBlock ∧ k_ ≠ gb661)) k_ ∧ some k_ ≠ (v716 : Value).ownBlock) rfl rfl ?aO ?aR (fun _ hk => hk) ?aF ?aB ?aS ?aL ?_
                      (case aR => exact (by skip; exact Kd.V_F (Kd.V_mono (ok' := (fun k_ => ((fun k_ => (w.heap.size ≤ k_) ∧ some k_ ≠ (.slice (some ad671) t662.length co15 : Value).ownBlock ∧ some k_ ≠ (.slice (some ad669) t665.length co7 : Value).ownBlock ∧ k_ ≠ gb661)) k_ ∧ some k_ ≠ (v716 : Value).ownBlock)) (HO722.out) (fun k_ hk => ⟨⟨hk.1.1, ⟨hk.1.2.1, ⟨hk.1.2.2.1, hk.1.2.2.2.2⟩⟩⟩, hk.2⟩))))
                      (case aB => exact (by repeat (first | (with_reducible first | exact HB.out | apply below_alloc | apply pw_below_drewN | apply below_drew1 | refine below_set ?_ GE661.out) | exact HB.out)))
                      (case aF => exact (fun k_ hk => ⟨(Nat.le_trans (below_size (by repeat (first | (with_reducible first | exact HB.out | apply below_alloc | apply pw_below_drewN | apply below_drew1 | refine below_set ?_ GE661.out) | exact HB.out))) hk), Kd.fresh' (Kd.R_lt (by (with_reducible repeat (first | apply Kd.R_alloc | apply Kd.R_drewN | apply Kd.R_drew)); exact HO_4.out)) k_ hk, Kd.fresh' (Kd.R_lt (by (with_reducible repeat (first | apply Kd.R_alloc | apply Kd.R_drewN | apply Kd.R_drew)); exact HO_5.out)) k_ hk, Kd.freshB (g := gb661) (o := .cells #[.slice A0_0 l0_0.length c0_0, .bool a0_1] 28 (0, 0)) (by (with_reducible repeat (first | refine blk_drewN ?_ _ | refine blk_drew ?_ | refine blk_alloc ?_ _)); exact BK661.out) k_ hk⟩))
                      (case aO => exact (by (with_reducible repeat (first | apply Kd.N_alloc | apply Kd.N_drewN | apply Kd.N_drew)); exact HO717.out))
                      (case aS => exact (below_size (by repeat (first | (with_reducible first | exact HB.out | apply below_alloc | apply pw_below_drewN | apply below_drew1 | refine below_set ?_ GE661.out) | exact HB.out))))
                      (case aL => have := LMc62.out; omega)
                      intro v724 w73 ho hb hg hat
                      rw [← Ny723.out] at ho
                      have n0_ := Aside0.mk (Kd.R_over' (by (with_reducible repeat (first | apply Kd.R_alloc | apply Kd.R_drewN | apply Kd.R_drew)); exact HO_4.out) (Kd.N_typed (by (with_reducible repeat (first | apply Kd.N_alloc | apply Kd.N_drewN | apply Kd.N_drew)); exact HO717.out)) (by decide) hg)
                      have n1_ := Aside0.mk (Kd.R_over' (by (with_reducible repeat (first | apply Kd.R_alloc | apply Kd.R_drewN | apply Kd.R_drew)); exact HO_5.out) (Kd.N_typed (by (with_reducible repeat (first | apply Kd.N_alloc | apply Kd.N_drewN | apply Kd.N_drew)); exact HO717.out)) (by decide) hg)
                      have n2_ := Aside0.mk (Kd.N_afterv (ok := (fun k_ => (w.heap.size ≤ k_) ∧ some k_ ≠ (.slice (some ad671) t662.length co15 : Value).ownBlock ∧ some k_ ≠ (.slice (some ad669) t665.length co7 : Value).ownBlock ∧ k_ ≠ gb661)) (by (with_reducible repeat (first | apply Kd.N_alloc | apply Kd.N_drewN | apply Kd.N_drew)); exact Kd.N_mono HO_7.out (fun _ hk => ⟨⟨hk.1.1, ⟨hk.1.2.1, ⟨hk.1.2.2.1, hk.1.2.2.2.2⟩⟩⟩, hk.2⟩)) hg hat)
                      have n3_ := Aside0.mk (blk_grown (g := gb661) (o := .cells #[.slice A0_0 l0_0.length c0_0, .bool a0_1] 28 (0, 0)) (by (with_reducible repeat (first | refine blk_drewN ?_ _ | refine blk_drew ?_ | refine blk_alloc ?_ _)); exact BK661.out) hg (Kd.N_ne HO717.out BK661.out (by decide)))
                      have n4_ := Aside0.mk (Kd.V_afterv (ok := (fun k_ => (w.heap.size ≤ k_) ∧ some k_ ≠ (.slice (some ad671) t662.length co15 : Value).ownBlock ∧ some k_ ≠ (.slice (some ad669) t665.length co7 : Value).ownBlock ∧ k_ ≠ gb661)) (by (with_reducible repeat (first | apply Kd.V_alloc | apply Kd.V_drewN | apply Kd.V_drew)); exact Kd.V_mono HO711.out (fun _ hk => ⟨⟨hk.1.1, ⟨hk.1.2.1, ⟨hk.1.2.2.1, hk.1.2.2.2.2⟩⟩⟩, hk.2⟩)) hg hat)
                      have n5_ := Aside0.mk (Kd.V_afterv (ok := (fun k_ => (w.heap.size ≤ k_) ∧ some k_ ≠ (.slice (some ad671) t662.length co15 : Value).ownBlock ∧ some k_ ≠ (.slice (some ad669) t665.length co7 : Value).ownBlock ∧ k_ ≠ gb661)) (by (with_reducible repeat (first | apply Kd.V_alloc | apply Kd.V_drewN | apply Kd.V_drew)); exact Kd.V_mono HO722.out (fun _ hk => ⟨⟨hk.1.1, ⟨hk.1.2.1, ⟨hk.1.2.2.1, hk.1.2.2.2.2⟩⟩⟩, hk.2⟩)) hg hat)
                      have n6_ := Aside0.mk (hb)
                      have n7_ := Aside0.mk (ho)
                      clear HO_4;clear HO_5;clear HO_7;clear BK661;clear HO711;clear HO722;clear HB;clear HO717
                      have HO_4 := n0_
                      have HO_5 := n1_
                      have HO_7 := n2_
                      have BK661 := n3_
                      have HO711 := n4_
                      have HO722 := n5_
                      have HB := n6_
                      have HO725 := n7_
                      clear n0_ n1_ n2_ n3_ n4_ n5_ n6_ n7_;clear ho hb hg hat
                      refine hK.out _ _ trivial (fun hHeld => ?_)
                      clear hK K
                      refine norm_ (a' := ?_) ?_ ?_
                      rotate_left
                      ·show Act.put _ (some 97) _ = _
                       simp only [Act.put, List.setIfInBounds_toArray, List.set_cons_zero, List.set_cons_succ, i64_w, i32_w]
                       rfl
                      refine pure_ (i := 8) (N := some 7) (v := ?_) (a' := ?_) #[true, true, true, true, true, true, true, true, true] rfl rfl (any_of HT_.out (by kernel_rfl)) (fun _ _ _ h => h) (Or.inl ⟨by rfl, ?_⟩) ?_ ?_
                      rotate_left
                      ·intro w'
                       go_simp
                       with_reducible rfl
                      rotate_left
                      ·simp only [Act.put, List.setIfInBounds_toArray, List.set_cons_zero, List.set_cons_succ, i64_w, i32_w]
                       rfl
                      refine done_ (done_of HT_.out (by kernel_rfl)) ?_
                      try go_wp2
                      go_roundg k3
                      case measure => have := HK1.out; have := HJ12.out; have := HK3.out; omega
                      case rel => exact ⟨(y723), ((Go.bits .or .i64 x8_1 (Go.bits .or .i64 (ji22) (ji24)))), (wrap64 (x9_1 - 1)), (by first | rfl | (simp; done) | (simp only [← hji22, ← hji24] <;> (first | rfl | simp)) | (simp [*]; done)), (by first | rfl | (simp; done) | (simp [*]; done)), H', ⟨by have := HK1.out; have := HJ12.out; have := HK3.out; omega⟩, ⟨by (with_reducible repeat (first | apply Kd.R_alloc | apply Kd.R_drewN | apply Kd.R_drew)); exact Kd.R_mono HO_4.out (fun _ hk => ⟨hk.1, hk.2.1⟩)⟩, ⟨by (with_reducible repeat (first | apply Kd.R_alloc | apply Kd.R_drewN | apply Kd.R_drew)); exact Kd.R_mono HO_5.out (fun _ hk => ⟨hk.1, hk.2.1⟩)⟩, ⟨by (with_reducible repeat (first | apply Kd.N_alloc | apply Kd.N_drewN | apply Kd.N_drew)); exact HO725.out⟩, ⟨by (with_reducible repeat (first | refine blk_drewN ?_ _ | refine blk_drew ?_ | refine blk_alloc ?_ _)); exact BK661.out⟩, ⟨by repeat (first | (with_reducible first | exact HB.out | apply below_alloc | apply pw_below_drewN | apply below_drew1 | refine below_set ?_ GE661.out) | exact HB.out)⟩⟩
                     ·rw [if_neg c62] at H
                      exact absurd H (by simp)
                    ·rw [if_neg c59] at H
                     exact absurd H (by simp)
                   ·rw [if_neg c58] at H
                    exact absurd H (by simp)
                  ·rw [if_neg c57] at H
                   exact absurd H (by simp)
                 ·rw [if_neg c56] at H
                  exact absurd H (by simp)
             ·rw [if_neg c23] at H
              exact absurd H (by simp)
            ·rw [if_neg c21] at H
             exact absurd H (by simp)
        ·rw [if_neg c12] at H
         exact absurd H (by simp)
       ·rw [if_neg c11] at H
        exact absurd H (by simp)
      ·rw [if_neg c10] at H
       exact absurd H (by simp)
     ·rw [if_neg c9] at H
      exact absurd H (by simp)
    ·rw [if_neg c8] at H
     have c8b0 : decide (0 ≤ x9_1) = false := decide_eq_false c8
     clear c8
     simp only [Option.some.injEq, Prod.mk.injEq] at H
     obtain ⟨rfl, rfl⟩ := H
     go_wp2
     go_ret2
     exact ⟨_, by first | rfl | (simp [errW_none, errW_some] <;> rfl) | (simp [*, errW_none, errW_some] <;> rfl), by (with_reducible repeat (first | apply Kd.N_alloc | apply Kd.N_drewN | apply Kd.N_drew)); exact Kd.N_mono HO_7.out (fun _ hk => hk.1), by repeat (first | (with_reducible first | exact HB.out | apply below_alloc | apply pw_below_drewN | apply below_drew1 | refine below_set ?_ GE661.out) | exact HB.out)⟩
 ·replace c3 := Bool.eq_false_iff.mpr c3
  subst c3
  have H1 : (some (([] : List (List Int)), false)) = some (r1, r2) := by rw [if_neg (show ¬ (false = true) by decide)] at H; exact H
  clear H
  have H := H1
  clear H1
  simp only [Option.some.injEq, Prod.mk.injEq] at H
  obtain ⟨rfl, rfl⟩ := H
  go_enter Try.func75, Try.ntmps75
  go_wp2_with (first | ((with_reducible refine gate_dst (N := 1) rfl ?_); refine box_event ?hg (N := 1) ?hd (cs := #[.slice A0_0 l0_0.length c0_0, .bool a0_1]) (t := 28) ?hr ?_; (case hd => rfl); (case hg => rfl); (case hr => first | (go_simp; done) | (go_simp; rfl)); intro gb661 hg w74 hbox hb; have n0_ := Aside0.mk (below_step (by repeat (first | (with_reducible first | exact HB.out | apply below_alloc | apply pw_below_drewN | apply below_drew1) | exact HB.out)) hb); have n1_ := Aside0.mk (hbox); have n2_ := Aside0.mk ((by rw [hg]; exact (below_size (by repeat (first | (with_reducible first | exact HB.out | apply below_alloc | apply pw_below_drewN | apply below_drew1) | exact HB.out))) : w.heap.size ≤ gb661)); have n3_ := Aside0.mk ((by rw [hg]; exact (below_size (by repeat (first | (with_reducible first | exact HB.out | apply below_alloc | apply pw_below_drewN | apply below_drew1) | exact HB.out))) : w.heap.size ≤ gb661)); clear HB; have HB := n0_; have BK661 := n1_; have GW661 := n2_; have GE661 := n3_; clear n0_ n1_ n2_ n3_; clear hb hbox hg; have hcz75_0 : w74.cell? ⟨gb661, 0, none⟩ = some (.slice A0_0 l0_0.length c0_0) := (blk_cell BK661.out 0).trans rfl; have hcz75_1 : w74.cell? ⟨gb661, 1, none⟩ = some (.bool a0_1) := (blk_cell BK661.out 1).trans rfl; have hfz75_0 := blk_frozen BK661.out 0; have hfz75_1 := blk_frozen BK661.out 1) | ((with_reducible refine gate_callee (f := 57) rfl ?_); refine goesL_ (some 17) rfl rfl Try.func57 (by kernel_rfl) rfl #[.agg #[.slice A0_0 l0_0.length c0_0, .bool a0_1]] rfl (by (try simp only [List.map_toArray, List.map_cons, List.map_nil]); first | done | rfl | (simp only [List.length_drop, List.length_take]; rfl)) ?_; (with_reducible refine (spec_trParents.calls k _ _ l0_0 a0_1 t662 t665 false _ ?side1 ?side2 A2.out).mono ?_); (case side1 => repeat (first | exact (Kd.C_below HR0_0.out HB.out) | (with_reducible refine Kd.C_alloc ?_ _) | (with_reducible refine Kd.C_drewN ?_ _) | (with_reducible refine Kd.C_drew ?_))); (case side2 => exact HC0_0.out); rintro e w76 ⟨v663, v666, rfl, ho0, ho1, hb⟩; refine ⟨_, rfl, ?_⟩; have n0_ := Aside0.mk (Kd.R_lower (Kd.R_newM (M := fun k_ => (w.heap.size ≤ k_)) ho0 (below_size (by repeat (first | (with_reducible first | exact HB.out | apply below_alloc | apply pw_below_drewN | apply below_drew1 | refine below_set ?_ GE661.out) | exact HB.out))) (fun k_ h_ => h_)) (below_size (by repeat (first | (with_reducible first | exact HB.out | apply below_alloc | apply pw_below_drewN | apply below_drew1 | refine below_set ?_ GE661.out) | exact HB.out)))); have n1_ := Aside0.mk (Kd.R_lower (Kd.R_newM (M := fun k_ => (w.heap.size ≤ k_)) ho1 (below_size (by repeat (first | (with_reducible first | exact HB.out | apply below_alloc | apply pw_below_drewN | apply below_drew1 | refine below_set ?_ GE661.out) | exact HB.out))) (fun k_ h_ => h_)) (below_size (by repeat (first | (with_reducible first | exact HB.out | apply below_alloc | apply pw_below_drewN | apply below_drew1 | refine below_set ?_ GE661.out) | exact HB.out)))); have n2_ := Aside0.mk (blk_below (g := gb661) (o := .cells #[.slice A0_0 l0_0.length c0_0, .bool a0_1] 28 (0, 0)) (by (with_reducible repeat (first | refine blk_drewN ?_ _ | refine blk_drew ?_ | refine blk_alloc ?_ _)); exact BK661.out) hb); have n3_ := Aside0.mk (below_step (by repeat (first | (with_reducible first | exact HB.out | apply below_alloc | apply pw_below_drewN | apply below_drew1 | refine below_set ?_ GE661.out) | exact HB.out)) hb); clear BK661; clear HB; have HO664 := n0_; have HO667 := n1_; have BK661 := n2_; have HB := n3_; clear n0_ n1_ n2_ n3_; (try clear hb); (try clear hb2); (try clear hk); (try clear hi); (try clear ho0); (try clear ho1)))
  go_ret2
  exact ⟨_, by first | rfl | (simp [errW_none, errW_some] <;> rfl) | (simp [*, errW_none, errW_some] <;> rfl), by first | exact Kd.S_nil _ _ _ _ _ | exact Kd.N_nil _ _ _ _ _ | exact Kd.V_nil _ _ _ _ _ | exact Kd.Q_nil _ _ _ _ _ | exact Kd.R_nil _ _ _ _ _, by repeat (first | (with_reducible first | exact HB.out | apply below_alloc | apply pw_below_drewN | apply below_drew1 | refine below_set ?_ GE661.out) | exact HB.out)⟩

end Go.Proofs.Ytdpdmhjmmpncoaa.P
