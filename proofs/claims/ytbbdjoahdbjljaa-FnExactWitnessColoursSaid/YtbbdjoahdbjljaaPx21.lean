-- Written by a program of this session (wip/mp.py), which runs the kit's print with contracts of the session's own.
import Derived.Test.YtbbdjoahdbjljaaPx0
import Derived.Test.YtbbdjoahdbjljaaPx17
import Derived.Test.YtbbdjoahdbjljaaPx18
namespace Go.Proofs.Ytbbdjoahdbjljaa.P
open Go.RowKit Go.Proofs.YtbbdjoahdbjljaaW.PrintWords Go.Proofs.YtbbdjoahdbjljaaW.PrintLast Go.Proofs.YtbbdjoahdbjljaaW.PrintMore
attribute [local go_sem] max2_int min2_int max_two min_two max_three min_three max_four min_four   -- for this text's walks alone
set_option linter.unusedVariables false
set_option linter.unusedSimpArgs false
/-! ### impl_eliminate: function 84 -/
-- BY HAND
mutual
def impl_eliminate.l0 : Nat → List (List Int) → Int → Int → Int → List Int → Int → Option ((List (List Int)) × List Int × Int)
 | 0, _, _, _, _, _, _ => none
 | k + 1, x0, x2, x13, x14, x539001, x539002 => if x14 < x13 then (impl_eliminate.l1 k x0 x2 x14 (x539001.length : Int) (x539001.length : Int) x13 x14 x539001 x539002) else (some (x0, x539001, x539002))
def impl_eliminate.j2 : Nat → List (List Int) → Int → Int → Int → Int → Int → Int → List Int → Int → Option ((List (List Int)) × List Int × Int)
 | 0, _, _, _, _, _, _, _, _, _ => none
 | k + 1, x0, x2, x8, x9, x10, x13, x14, x539001, x539002 => if x10 = (x0.length : Int) then (impl_eliminate.l0 k x0 x2 x13 (wrap64 (x14 + 1)) x539001 0) else (if x10 = x9 then (impl_eliminate.j3 k x0 x2 x8 x9 x13 x14 x539001 x539002) else ((pseudo_rowAt.f x0 x10).bind fun t541 => ((pseudo_rowAt.f x0 x9).bind fun t544 => (if 0 ≤ x10 then (if x10 < (x0.length : Int) then (if 0 ≤ x9 then (if x9 < (x0.length : Int) then ((impl_mod.f (wrap64 (-x539002)) x2).bind fun t549 => (impl_eliminate.j3 k ((x0.set (x10 : Int).toNat t544).set (x9 : Int).toNat t541) x2 x8 x9 x13 x14 x539001 t549)) else (none)) else (none)) else (none)) else (none)))))
def impl_eliminate.j3 : Nat → List (List Int) → Int → Int → Int → Int → Int → List Int → Int → Option ((List (List Int)) × List Int × Int)
 | 0, _, _, _, _, _, _, _, _ => none
 | k + 1, x0, x2, x8, x9, x13, x14, x539001, x539002 => if 0 ≤ x9 then (if x9 < (x0.length : Int) then (if 0 ≤ x8 then (if x8 < ((rd_L1 x0 x9).length : Int) then (if x2 = 0 then (none) else ((impl_inverse.f k (rd (rd_L1 x0 x9) x8) x2).bind fun t555 => ((impl_scaled.f k (rd_L1 x0 x9) t555 x2).bind fun t556 => (impl_eliminate.l2 k (x0.set (x9 : Int).toNat t556) x2 x8 x9 x13 x14 (x0.length : Int) 0 x539001 (Int.tmod (wrap64 (x539002 * (rd (rd_L1 x0 x9) x8))) x2))))) else (none)) else (none)) else (none)) else (none)
def impl_eliminate.l2 : Nat → List (List Int) → Int → Int → Int → Int → Int → Int → Int → List Int → Int → Option ((List (List Int)) × List Int × Int)
 | 0, _, _, _, _, _, _, _, _, _, _ => none
 | k + 1, x0, x2, x8, x9, x13, x14, x97, x98, x539001, x539002 => if x98 < x97 then (if x98 = x9 then (impl_eliminate.l2 k x0 x2 x8 x9 x13 x14 x97 (wrap64 (x98 + 1)) x539001 x539002) else (if 0 ≤ x98 then (if x98 < (x0.length : Int) then (if 0 ≤ x8 then (if x8 < ((rd_L1 x0 x98).length : Int) then (if (rd (rd_L1 x0 x98) x8) = 0 then (impl_eliminate.l2 k x0 x2 x8 x9 x13 x14 x97 (wrap64 (x98 + 1)) x539001 x539002) else (if 0 ≤ x9 then (if x9 < (x0.length : Int) then ((impl_added.f k (rd_L1 x0 x98) (rd_L1 x0 x9) (wrap64 (-(rd (rd_L1 x0 x98) x8))) x2).bind fun t566 => (impl_eliminate.l2 k (x0.set (x98 : Int).toNat t566) x2 x8 x9 x13 x14 x97 (wrap64 (x98 + 1)) x539001 x539002)) else (none)) else (none))) else (none)) else (none)) else (none)) else (none))) else (if x539001.length < 17592186044416 then (impl_eliminate.l0 k x0 x2 x13 (wrap64 (x14 + 1)) (x539001 ++ [x8]) x539002) else (none))
def impl_eliminate.l1 : Nat → List (List Int) → Int → Int → Int → Int → Int → Int → List Int → Int → Option ((List (List Int)) × List Int × Int)
 | 0, _, _, _, _, _, _, _, _, _ => none
 | k + 1, x0, x2, x8, x9, x10, x13, x14, x539001, x539002 => if x10 < (x0.length : Int) then (if 0 ≤ x10 then (if 0 ≤ x8 then (if x8 < ((rd_L1 x0 x10).length : Int) then (if (rd (rd_L1 x0 x10) x8) = 0 then (impl_eliminate.l1 k x0 x2 x8 x9 (wrap64 (x10 + 1)) x13 x14 x539001 x539002) else (impl_eliminate.j2 k x0 x2 x8 x9 x10 x13 x14 x539001 x539002)) else (none)) else (none)) else (none)) else (impl_eliminate.j2 k x0 x2 x8 x9 x10 x13 x14 x539001 x539002)
end
def impl_eliminate.f (k : Nat) (l0 : List (List Int)) (a1 : Int) (a2 : Int) : Option ((List (List Int)) × List Int × Int) := impl_eliminate.l0 k l0 a2 a1 0 ([] : List Int) 1
def impl_eliminate.T14 : Bool × List (List Nat × List Nat) := (true, [([], []), ([0], [0]), ([], []), ([], []), ([2, 3], [2, 3]), ([4], [4]), ([], []), ([5, 6], [5, 6]), ([7], [7]), ([1, 8], [1, 8]), ([], []), ([9, 10], [9, 10]), ([0, 1, 2, 3, 4, 5, 6, 7, 8, 9, 10, 11], []), ([12, 11, 0, 1, 2, 3, 4, 5, 6, 7, 8, 9, 10, 11], [11, 12])])
def impl_eliminate.B14 : List Nat := [0, 1, 0, 0, 12, 28, 0, 124, 252, 511, 0, 2047, 4095, 8191]
theorem impl_eliminate.tab14 : rtab .any (opsOf Try.f84 14) = impl_eliminate.T14 := by kernel_rfl
theorem impl_eliminate.bits14 : waitsOk impl_eliminate.T14.2 impl_eliminate.B14 = true := by kernel_rfl
def impl_eliminate.T15 : Bool × List (List Nat × List Nat) := (true, [([], []), ([], []), ([], []), ([], []), ([2, 3], [2, 3]), ([4], [4]), ([], []), ([], []), ([6, 7], [6, 7]), ([8], [8]), ([], []), ([9, 10], [9, 10]), ([11], [11]), ([], []), ([12, 13], [12, 13]), ([], []), ([5, 14, 15, 14], [5, 14, 15]), ([0, 1, 0, 1, 2, 3, 4, 5, 6, 7, 8, 9, 10, 11, 12, 13, 14, 15, 16], [0, 1]), ([17, 16, 16, 0, 1, 2, 3, 4, 5, 6, 7, 8, 9, 10, 11, 12, 13, 14, 15, 16], [16, 17])])
def impl_eliminate.B15 : List Nat := [0, 0, 0, 0, 12, 28, 0, 0, 192, 448, 0, 1984, 4032, 0, 16320, 0, 65532, 131071, 262143]
theorem impl_eliminate.tab15 : rtab .any (opsOf Try.f84 15) = impl_eliminate.T15 := by kernel_rfl
theorem impl_eliminate.bits15 : waitsOk impl_eliminate.T15.2 impl_eliminate.B15 = true := by kernel_rfl
def impl_eliminate.T20 : Bool × List (List Nat × List Nat) := (true, [([], []), ([], []), ([], []), ([], []), ([2, 3], [2, 3]), ([4], [4]), ([], []), ([], []), ([6, 7], [6, 7]), ([8], [8]), ([], []), ([], []), ([10, 11], [10, 11]), ([12], [12]), ([], []), ([13, 14], [13, 14]), ([15], [15]), ([16], [16]), ([], []), ([5, 9, 17, 18], [5, 9, 17, 18]), ([0, 1, 0, 1, 2, 3, 4, 5, 6, 7, 8, 9, 10, 11, 12, 13, 14, 15, 16, 17, 18, 19], [0, 1]), ([20, 19, 19, 0, 1, 2, 3, 4, 5, 6, 7, 8, 9, 10, 11, 12, 13, 14, 15, 16, 17, 18, 19], [19, 20])])
def impl_eliminate.B20 : List Nat := [0, 0, 0, 0, 12, 28, 0, 0, 192, 448, 0, 0, 3072, 7168, 0, 31744, 64512, 130048, 0, 524284, 1048575, 2097151]
theorem impl_eliminate.tab20 : rtab .any (opsOf Try.f84 20) = impl_eliminate.T20 := by kernel_rfl
theorem impl_eliminate.bits20 : waitsOk impl_eliminate.T20.2 impl_eliminate.B20 = true := by kernel_rfl
theorem S_elemR {α : Type} {d : Kd α} {e base g n cap : Nat} {ok : Nat → Prop} {W : World} {xs : List α} (h : Kd.S d e W base ok (.slice (some ⟨g, 0, none⟩) n cap) xs) (z : α) (i : Int) (h0 : 0 ≤ i) (h1 : i < n) :
    ∃ c, c.length = d.sz ∧ d.M W base (fun k => ok k ∧ k ≠ g) (xs.getD i.toNat z) c ∧ (∀ j u, c[j]? = some u → W.cell? ⟨g, i.toNat * d.sz + j, none⟩ = some u) ∧ ∀ j, W.frozen? ⟨g, i.toNat * d.sz + j, none⟩ = false := Kd.R_elem (Kd.S_R h) z i h0 h1
/-- A row of one's own becomes element i. -/
theorem S_put {α : Type} {d : Kd α} {e base g n cap : Nat} {ok okg : Nat → Prop} {W : World} {xs : List α} (h : Kd.S d e W base (fun k => ok k ∧ ¬ okg k) (.slice (some ⟨g, 0, none⟩) n cap) xs) (z : α) (i : Int) (h0 : 0 ≤ i) (h1 : i < n) {seg : List Value} (hs : seg.length = d.sz) {x' : α} (hM : d.M W base okg x' seg) (hg : ∀ k, okg k → ok k ∧ k ≠ g) :
    Kd.S d e (W.setCells g (i.toNat * d.sz + 0) seg) base ok (.slice (some ⟨g, 0, none⟩) n cap) (xs.set i.toNat x') ∧ W.grownBy (W.setCells g (i.toNat * d.sz + 0) seg) (some g) := by
  obtain ⟨oki, c, hcl, -, -, -, hH⟩ := Kd.S_lend h z i h0 h1
  refine Kd.S_seg (okg := okg) hH h0 h1 (seg := seg) (j := 0) (by omega) (x' := x') (okp := okg) ?_ (fun _ hk => .inr hk) hg
  have e1 : c.take 0 ++ seg ++ c.drop (0 + seg.length) = seg := by rw [List.drop_eq_nil_of_le (by omega)]; simp
  rw [e1]; exact hM
theorem S_swap2 {e base g n cap : Nat} {ok : Nat → Prop} {W : World} {xs : List (List Int)} (h : Kd.S (Kd.slice 3 (Kd.int .i64)) e W base ok (.slice (some ⟨g, 0, none⟩) n cap) xs) (i j : Int) (hi0 : 0 ≤ i) (hi : i < n) (hj0 : 0 ≤ j) (hj : j < n) :
    ∃ (ui uj : Option Addr) (ci cj li lj : Nat),
      W.cell? ⟨g, i.toNat, none⟩ = some (.slice ui li ci) ∧ W.cell? ⟨g, j.toNat, none⟩ = some (.slice uj lj cj) ∧ W.frozen? ⟨g, i.toNat, none⟩ = false ∧ W.frozen? ⟨g, j.toNat, none⟩ = false ∧
      Kd.S (Kd.slice 3 (Kd.int .i64)) e ((W.setCell ⟨g, i.toNat, none⟩ (.slice uj lj cj)).setCell ⟨g, j.toNat, none⟩ (.slice ui li ci)) base ok (.slice (some ⟨g, 0, none⟩) n cap) ((xs.set i.toNat (xs.getD j.toNat [])).set j.toNat (xs.getD i.toNat [])) ∧
      W.grownBy ((W.setCell ⟨g, i.toNat, none⟩ (.slice uj lj cj)).setCell ⟨g, j.toNat, none⟩ (.slice ui li ci)) (some g) := by
  obtain ⟨a, b, ca, cb, la, lb, h1, h2, f1, f2, hS, hg⟩ := Sw.S_swap h j i hj0 hj hi0 hi
  exact ⟨b, a, cb, ca, lb, la, h2, h1, f2, f1, hS, hg⟩
set_option maxHeartbeats 8000000 in
set_option maxRecDepth 100000 in
theorem impl_eliminate.calls (k : Nat) (P0_ : Nat → Prop) (u9000_ : Value) (l0 : List (List Int)) (a1 : Int) (a2 : Int) (r1 : List (List Int)) (r2 : List Int) (r3 : Int) (w0 w : World) (hB : Below w0.heap.size w0 w) (ho0 : Kd.S (Kd.slice 3 (Kd.int .i64)) 22 w w0.heap.size P0_ u9000_ l0) (h : impl_eliminate.f k l0 a1 a2 = some (r1, r2, r3)) :
  Calls Try.prog 84 #[u9000_, .int .i64 a1, .int .i64 a2] w fun e w' => ∃ v0_ v1_ : Value, e = .returned (.agg #[v0_, v1_, .int .i64 r3]) ∧ Kd.S (Kd.slice 3 (Kd.int .i64)) 22 w' w0.heap.size (fun k_ => (P0_ k_ ∨ w.heap.size ≤ k_) ∧ some k_ ≠ (v1_ : Value).ownBlock) v0_ r1 ∧ Kd.R (Kd.int .i64) 3 w' w0.heap.size (fun k_ => (P0_ k_ ∨ w.heap.size ≤ k_)) v1_ r2 ∧ Below w0.heap.size w0 w' ∧ Kept w w' (fun k_ => P0_ k_) := by
 have hu60 := Try.underlying60
 have HO0 := Aside0.mk (show Kd.S (Kd.slice 3 (Kd.int .i64)) 22 w w0.heap.size (fun k_ => (P0_ k_ ∨ w.heap.size ≤ k_)) u9000_ l0 from Kd.S_mono ho0 (fun k_ hk => (.inl hk)))
 have HK := Aside0.mk (Kept.refl w (fun k_ => P0_ k_))
 have HW0 := Aside0.mk hB.size
 have HB := Aside0.mk hB
 clear hB
 have H : (impl_eliminate.l0 k l0 a2 a1 0 ([] : List Int) 1) = some (r1, r2, r3) := h
 clear h
 have H' := Aside0.mk H
 clear H
 go_enter Try.func84, Try.ntmps84
 go_wp2_with (first | ((with_reducible refine gate_dst (N := 6) rfl ?_); refine box_event ?hg (N := 6) ?hd (cs := #[.slice none 0 0, .slice none 0 0, .int .i64 0]) (t := 60) ?hr ?_; (case hd => rfl); (case hg => rfl); (case hr => first | (go_simp; done) | (go_simp; rfl)); intro gb537 hg w4 hbox hb; have n0_ := Aside0.mk (Kd.S_below (Kd.S_elderB (by (with_reducible repeat (first | apply Kd.S_alloc | apply Kd.S_drewN | apply Kd.S_drew)); exact HO0.out) gb537 (Nat.le_of_eq hg.symm)) hb); have n1_ := Aside0.mk (Kept.below (S := (fun k_ => P0_ k_)) (by repeat (first | (with_reducible first | exact HK.out | apply Kept.alloc | apply Kept.drewN | apply Kept.drew) | exact HK.out)) hb); have n2_ := Aside0.mk (below_step (by repeat (first | (with_reducible first | exact HB.out | apply below_alloc | apply pw_below_drewN | apply below_drew1) | exact HB.out)) hb); have n3_ := Aside0.mk (hbox); have n4_ := Aside0.mk ((by rw [hg]; exact (by first | exact HK.out.1 | exact (show Kept w _ (fun k_ => P0_ k_) from by repeat (first | (with_reducible first | exact HK.out | apply Kept.alloc | apply Kept.drewN | apply Kept.drew) | exact HK.out)).1) : w.heap.size ≤ gb537)); have n5_ := Aside0.mk ((by rw [hg]; exact (below_size (by repeat (first | (with_reducible first | exact HB.out | apply below_alloc | apply pw_below_drewN | apply below_drew1) | exact HB.out))) : w0.heap.size ≤ gb537)); clear HO0; clear HK; clear HB; have HO0 := n0_; have HK := n1_; have HB := n2_; have BK537 := n3_; have GW537 := n4_; have GE537 := n5_; clear n0_ n1_ n2_ n3_ n4_ n5_; clear hb hbox hg) | ((with_reducible refine gate_dst (N := 7) rfl ?_); refine box_event ?hg (N := 7) ?hd (cs := #[.slice none 0 0, .slice none 0 0, .int .i64 0]) (t := 60) ?hr ?_; (case hd => rfl); (case hg => rfl); (case hr => first | (go_simp; done) | (go_simp; rfl)); intro gb538 hg w5 hbox hb; have n0_ := Aside0.mk (Kd.S_below (Kd.S_elderB (by (with_reducible repeat (first | apply Kd.S_alloc | apply Kd.S_drewN | apply Kd.S_drew)); exact HO0.out) gb538 (Nat.le_of_eq hg.symm)) hb); have n1_ := Aside0.mk (blk_below (g := gb537) (o := .cells #[.slice none 0 0, .slice none 0 0, .int .i64 0] 60 (0, 0)) (by (with_reducible repeat (first | refine blk_drewN ?_ _ | refine blk_drew ?_ | refine blk_alloc ?_ _)); exact BK537.out) hb); have n2_ := Aside0.mk (Kept.below (S := (fun k_ => P0_ k_)) (by repeat (first | (with_reducible first | exact HK.out | apply Kept.alloc | apply Kept.drewN | apply Kept.drew | refine Kept.setCell ?_ (.inr GW537.out) _) | exact HK.out)) hb); have n3_ := Aside0.mk (below_step (by repeat (first | (with_reducible first | exact HB.out | apply below_alloc | apply pw_below_drewN | apply below_drew1 | refine below_set ?_ GE537.out) | exact HB.out)) hb); have n4_ := Aside0.mk (hbox); have n5_ := Aside0.mk ((by rw [hg]; exact (by first | exact HK.out.1 | exact (show Kept w _ (fun k_ => P0_ k_) from by repeat (first | (with_reducible first | exact HK.out | apply Kept.alloc | apply Kept.drewN | apply Kept.drew | refine Kept.setCell ?_ (.inr GW537.out) _) | exact HK.out)).1) : w.heap.size ≤ gb538)); have n6_ := Aside0.mk ((by rw [hg]; exact (below_size (by repeat (first | (with_reducible first | exact HB.out | apply below_alloc | apply pw_below_drewN | apply below_drew1 | refine below_set ?_ GE537.out) | exact HB.out))) : w0.heap.size ≤ gb538)); have n7_ := Aside0.mk ((by rw [hg]; exact Nat.ne_of_lt (blk_lt (g := gb537) (o := .cells #[.slice none 0 0, .slice none 0 0, .int .i64 0] 60 (0, 0)) (by (with_reducible repeat (first | refine blk_drewN ?_ _ | refine blk_drew ?_ | refine blk_alloc ?_ _)); exact BK537.out)) : gb537 ≠ gb538)); have n8_ := Aside0.mk ((by rw [hg]; exact Nat.ne_of_gt (blk_lt (g := gb537) (o := .cells #[.slice none 0 0, .slice none 0 0, .int .i64 0] 60 (0, 0)) (by (with_reducible repeat (first | refine blk_drewN ?_ _ | refine blk_drew ?_ | refine blk_alloc ?_ _)); exact BK537.out)) : gb538 ≠ gb537)); clear HO0; clear BK537; clear HK; clear HB; have HO0 := n0_; have BK537 := n1_; have HK := n2_; have HB := n3_; have BK538 := n4_; have GW538 := n5_; have GE538 := n6_; have NB537_538 := n7_; have NB538_537 := n8_; clear n0_ n1_ n2_ n3_ n4_ n5_ n6_ n7_ n8_; clear hb hbox hg; have hnb6 := NB538_537.out; have hnc6 := NB537_538.out; have hcz7_0 : w5.cell? ⟨gb538, 0, none⟩ = some (.slice none 0 0) := (blk_cell BK538.out 0).trans rfl; have hcz7_1 : w5.cell? ⟨gb538, 1, none⟩ = some (.slice none 0 0) := (blk_cell BK538.out 1).trans rfl; have hcz7_2 : w5.cell? ⟨gb538, 2, none⟩ = some (.int .i64 0) := (blk_cell BK538.out 2).trans rfl; have hfz7_0 := blk_frozen BK538.out 0; have hfz7_1 := blk_frozen BK538.out 1; have hfz7_2 := blk_frozen BK538.out 2))
 go_loopg [14] k (fun kq v14 w' => ∃ (x0_1 : List (List Int)) (x14_1 : Int) (x539001_1 : List Int) (x539002_1 : Int) (u539001 : Value), v14 = .int .i64 x14_1 ∧ Aside0 (impl_eliminate.l0 kq x0_1 a2 a1 x14_1 x539001_1 x539002_1 = some (r1, r2, r3)) ∧ Aside0 (kq ≤ k) ∧ Aside0 (Kd.S (Kd.slice 3 (Kd.int .i64)) 22 w' w0.heap.size (fun k_ => (P0_ k_ ∨ w.heap.size ≤ k_) ∧ some k_ ≠ (u539001 : Value).ownBlock ∧ k_ ≠ gb537 ∧ k_ ≠ gb538) u9000_ x0_1) ∧ Aside0 (Kd.R (Kd.int .i64) 3 w' w0.heap.size (fun k_ => (P0_ k_ ∨ w.heap.size ≤ k_)) u539001 x539001_1) ∧ Aside0 (w'.heap[gb537]? = some (.cells #[(.slice none 0 0), (.slice none 0 0), .int .i64 0] 60 (0, 0))) ∧ Aside0 (w'.heap[gb538]? = some (.cells #[(.slice none 0 0), u539001, .int .i64 x539002_1] 60 (0, 0))) ∧ Aside0 (Kept w w' (fun k_ => P0_ k_)) ∧ Aside0 (Below w0.heap.size w0 w'))
 case atStart => exact ⟨(l0), (0), (([] : List Int)), (1), (.slice none 0 0), (by first | rfl | (simp; done) | (simp [*]; done)), H', ⟨Nat.le_refl _⟩, ⟨by (with_reducible repeat (first | apply Kd.S_alloc | apply Kd.S_drewN | apply Kd.S_drew)); exact Kd.S_mono (Kd.S_far (p := ⟨gb538, 2, none⟩) (Kd.S_far (p := ⟨gb538, 1, none⟩) (Kd.S_far (p := ⟨gb538, 0, none⟩) (Kd.S_mono HO0.out (fun k_ hk => (⟨hk, hk.2⟩ : _ ∧ k_ ≠ gb538))) (fun _ hk => hk.2) (.slice none 0 0)) (fun _ hk => hk.2) (.slice none 0 0)) (fun _ hk => hk.2) (.int .i64 1)) (fun _ hk => ⟨hk.1.1.1, ⟨(by simp [Value.ownBlock]), ⟨hk.1.1.2, hk.1.2⟩⟩⟩)⟩, ⟨by first | exact Kd.R_nil _ _ _ _ _ | exact Kd.S_nil _ _ _ _ _ | exact Kd.R_nil _ _ _ _ _ | exact Kd.Q_nil _ _ _ _ _ | exact Kd.S_nil _ _ _ _ _⟩, ⟨by (with_reducible repeat (first | refine blk_drewN ?_ _ | refine blk_drew ?_ | refine blk_alloc ?_ _)); refine blk_far ?_ NB537_538.out _; (with_reducible repeat (first | refine blk_drewN ?_ _ | refine blk_drew ?_ | refine blk_alloc ?_ _)); refine blk_far ?_ NB537_538.out _; (with_reducible repeat (first | refine blk_drewN ?_ _ | refine blk_drew ?_ | refine blk_alloc ?_ _)); refine blk_far ?_ NB537_538.out _; (with_reducible repeat (first | refine blk_drewN ?_ _ | refine blk_drew ?_ | refine blk_alloc ?_ _)); exact BK537.out⟩, ⟨by (with_reducible repeat (first | refine blk_drewN ?_ _ | refine blk_drew ?_ | refine blk_alloc ?_ _)); refine blk_put (cs := #[.slice none 0 0, .slice none 0 0, .int .i64 0]) ?_ 2 _ rfl; (with_reducible repeat (first | refine blk_drewN ?_ _ | refine blk_drew ?_ | refine blk_alloc ?_ _)); refine blk_put (cs := #[.slice none 0 0, .slice none 0 0, .int .i64 0]) ?_ 1 _ rfl; (with_reducible repeat (first | refine blk_drewN ?_ _ | refine blk_drew ?_ | refine blk_alloc ?_ _)); refine blk_put (cs := #[.slice none 0 0, .slice none 0 0, .int .i64 0]) ?_ 0 _ rfl; (with_reducible repeat (first | refine blk_drewN ?_ _ | refine blk_drew ?_ | refine blk_alloc ?_ _)); exact BK538.out⟩, ⟨by repeat (first | (with_reducible first | exact HK.out | apply Kept.alloc | apply Kept.drewN | apply Kept.drew | refine Kept.setCell ?_ (.inr GW537.out) _ | refine Kept.setCell ?_ (.inr GW538.out) _) | exact HK.out)⟩, ⟨by repeat (first | (with_reducible first | exact HB.out | apply below_alloc | apply pw_below_drewN | apply below_drew1 | refine below_set ?_ GE537.out | refine below_set ?_ GE538.out) | exact HB.out)⟩⟩
 case round =>
  clear H'
  (try clear p2);(try clear c6);(try clear hcz7_0);(try clear hcz7_1);(try clear hcz7_2);(try clear hfz7_0);(try clear hfz7_1);(try clear hfz7_2)
  obtain ⟨x0_1, x14_1, x539001_1, x539002_1, u539001, rfl, HA, HK1, HO_0, HO_539001, BK537, BK538, HK, HB⟩ := hrel
  cases gk with
  | zero => exact absurd HA.out (by simp [impl_eliminate.l0])
  | succ k1 =>
   have H := HA.out
   clear HA
   simp only [impl_eliminate.l0] at H
   by_cases c8 : x14_1 < a1
   ·rw [if_pos c8] at H
    have c8b0 : decide (x14_1 < a1) = true := decide_eq_true c8
    clear c8
    have HC9 := Aside0.mk H
    clear H
    have hnb10 := NB538_537.out
    have hnc10 := NB537_538.out
    have hcz11_0 : wr.cell? ⟨gb538, 0, none⟩ = some (.slice none 0 0) := (blk_cell BK538.out 0).trans rfl
    have hcz11_1 : wr.cell? ⟨gb538, 1, none⟩ = some (u539001) := (blk_cell BK538.out 1).trans rfl
    have hcz11_2 : wr.cell? ⟨gb538, 2, none⟩ = some (.int .i64 x539002_1) := (blk_cell BK538.out 2).trans rfl
    have hfz11_0 := blk_frozen BK538.out 0
    have hfz11_1 := blk_frozen BK538.out 1
    have hfz11_2 := blk_frozen BK538.out 2
    obtain ⟨Ao12, co12, eo12⟩ := Kd.R_slice HO_539001.out
    subst eo12
    go_upto_block 2 with (fail)
    go_cut [10] (fun v10 wc => ∃ (kq : Nat) (x10_8 : Int), v10 = .int .i64 x10_8 ∧ Aside0 (impl_eliminate.j2 kq x0_1 a2 x14_1 (x539001_1.length : Int) x10_8 a1 x14_1 x539001_1 x539002_1 = some (r1, r2, r3)) ∧ Aside0 (kq ≤ k1) ∧ Aside0 (Kd.S (Kd.slice 3 (Kd.int .i64)) 22 wc w0.heap.size (fun k_ => (P0_ k_ ∨ w.heap.size ≤ k_) ∧ some k_ ≠ ((.slice Ao12 x539001_1.length co12) : Value).ownBlock ∧ k_ ≠ gb537 ∧ k_ ≠ gb538) u9000_ x0_1) ∧ Aside0 (Kd.R (Kd.int .i64) 3 wc w0.heap.size (fun k_ => (P0_ k_ ∨ w.heap.size ≤ k_)) (.slice Ao12 x539001_1.length co12) x539001_1) ∧ Aside0 (wc.heap[gb537]? = some (.cells #[(.slice none 0 0), (.slice none 0 0), .int .i64 0] 60 (0, 0))) ∧ Aside0 (wc.heap[gb538]? = some (.cells #[(.slice none 0 0), (.slice Ao12 x539001_1.length co12), .int .i64 x539002_1] 60 (0, 0))) ∧ Aside0 (Kept w wc (fun k_ => P0_ k_)) ∧ Aside0 (Below w0.heap.size w0 wc))
    case first =>
     have H := HC9.out
     clear HC9
     have H' := Aside0.mk H
     clear H
     go_wp2
     go_loopg [10] k1 (fun kq v10 w' => ∃ (x10_2 : Int), v10 = .int .i64 x10_2 ∧ Aside0 (impl_eliminate.l1 kq x0_1 a2 x14_1 (x539001_1.length : Int) x10_2 a1 x14_1 x539001_1 x539002_1 = some (r1, r2, r3)) ∧ Aside0 (kq ≤ k1) ∧ Aside0 (Kd.S (Kd.slice 3 (Kd.int .i64)) 22 w' w0.heap.size (fun k_ => (P0_ k_ ∨ w.heap.size ≤ k_) ∧ some k_ ≠ ((.slice Ao12 x539001_1.length co12) : Value).ownBlock ∧ k_ ≠ gb537 ∧ k_ ≠ gb538) u9000_ x0_1) ∧ Aside0 (Kd.R (Kd.int .i64) 3 w' w0.heap.size (fun k_ => (P0_ k_ ∨ w.heap.size ≤ k_)) (.slice Ao12 x539001_1.length co12) x539001_1) ∧ Aside0 (w'.heap[gb537]? = some (.cells #[(.slice none 0 0), (.slice none 0 0), .int .i64 0] 60 (0, 0))) ∧ Aside0 (w'.heap[gb538]? = some (.cells #[(.slice none 0 0), (.slice Ao12 x539001_1.length co12), .int .i64 x539002_1] 60 (0, 0))) ∧ Aside0 (Kept w w' (fun k_ => P0_ k_)) ∧ Aside0 (Below w0.heap.size w0 w'))
     case atStart => exact ⟨((x539001_1.length : Int)), (by first | rfl | (simp; done) | (simp [*]; done)), H', ⟨Nat.le_refl _⟩, ⟨by (with_reducible repeat (first | apply Kd.S_alloc | apply Kd.S_drewN | apply Kd.S_drew)); exact HO_0.out⟩, ⟨by (with_reducible repeat (first | apply Kd.R_alloc | apply Kd.R_drewN | apply Kd.R_drew)); exact HO_539001.out⟩, ⟨by (with_reducible repeat (first | refine blk_drewN ?_ _ | refine blk_drew ?_ | refine blk_alloc ?_ _)); exact BK537.out⟩, ⟨by (with_reducible repeat (first | refine blk_drewN ?_ _ | refine blk_drew ?_ | refine blk_alloc ?_ _)); exact BK538.out⟩, ⟨by repeat (first | (with_reducible first | exact HK.out | apply Kept.alloc | apply Kept.drewN | apply Kept.drew | refine Kept.setCell ?_ (.inr GW537.out) _ | refine Kept.setCell ?_ (.inr GW538.out) _) | exact HK.out)⟩, ⟨by repeat (first | (with_reducible first | exact HB.out | apply below_alloc | apply pw_below_drewN | apply below_drew1 | refine below_set ?_ GE537.out | refine below_set ?_ GE538.out) | exact HB.out)⟩⟩
     case round =>
      clear H'
      (try clear c1);(try clear p2);(try clear c6);(try clear c8);(try clear c8b0);(try clear c10);(try clear hcz11_0);(try clear hcz11_1);(try clear hcz11_2);(try clear hcz7_0);(try clear hcz7_1);(try clear hcz7_2);(try clear hfz11_0);(try clear hfz11_1);(try clear hfz11_2);(try clear hfz7_0);(try clear hfz7_1);(try clear hfz7_2);(try clear p2)
      obtain ⟨x10_2, rfl, HA, HK2, HO_0, HO_539001, BK537, BK538, HK, HB⟩ := hrel
      cases gk with
      | zero => exact absurd HA.out (by simp [impl_eliminate.l1])
      | succ k2 =>
       have H := HA.out
       clear HA
       simp only [impl_eliminate.l1] at H
       by_cases c13 : x10_2 < (x0_1.length : Int)
       ·rw [if_pos c13] at H
        have c13b0 : decide (x10_2 < (x0_1.length : Int)) = true := decide_eq_true c13
        clear c13
        (first | rw [c13b0] | (simp only [i64_w, i32_w]; rw [c13b0]) | skip)
        by_cases c14 : 0 ≤ x10_2
        ·rw [if_pos c14] at H
         have c14b0 : decide (0 ≤ x10_2) = true := decide_eq_true c14
         clear c14
         by_cases c15 : 0 ≤ x14_1
         ·rw [if_pos c15] at H
          have c15b0 : decide (0 ≤ x14_1) = true := decide_eq_true c15
          clear c15
          by_cases c16 : x14_1 < ((rd_L1 x0_1 x10_2).length : Int)
          ·rw [if_pos c16] at H
           have c16b0 : decide (x14_1 < ((rd_L1 x0_1 x10_2).length : Int)) = true := decide_eq_true c16
           clear c16
           by_cases c17 : (rd (rd_L1 x0_1 x10_2) x14_1) = 0
           ·rw [if_pos c17] at H
            have c17b0 : ((rd (rd_L1 x0_1 x10_2) x14_1) == 0) = true := beq_iff_eq.mpr c17
            have c17b1 : ((rd (rd_L1 x0_1 x10_2) x14_1) != 0) = false := bne_eq_false_iff_eq.mpr c17
            clear c17
            have H' := Aside0.mk H
            clear H
            obtain ⟨Ao18, co18, eo18⟩ := Kd.S_slice HO_0.out
            subst eo18
            have p539 : 0 ≤ (x10_2 : Int) := of_decide_eq_true (by first | (with_reducible assumption) | assumption)
            have q539 : x10_2 < (x0_1.length : Int) := of_decide_eq_true (by first | (with_reducible assumption) | assumption)
            obtain ⟨ad539, A539_0, c539_0, e539, hx539_0, hl539_0, hi539_0⟩ := at_L1 (Kd.S_reads' HO_0.out).2.2 x10_2 p539 q539
            cases e539
            obtain ⟨ce539, hce539, hMe539, hcc539⟩ := Kd.S_get HO_0.out [] x10_2 p539 (by first | exact q539 | exact of_decide_eq_true (by first | (with_reducible assumption) | assumption) | (have e_ := (Kd.S_reads' HO_0.out).1; omega))
            obtain ⟨ve539_0, rfl, ge539_0⟩ := hMe539
            have hv539_0 := hcc539 0 _ rfl
            rw [Nat.add_zero, show ((Kd.slice 3 (Kd.int .i64))).sz = 1 from rfl, Nat.mul_one] at hv539_0
            replace hv539_0 := Option.some.inj (hv539_0.symm.trans hx539_0)
            rw [hv539_0] at ge539_0
            have HL539_0 := Aside0.mk (show Kd.R (Kd.int .i64) 3 _ w0.heap.size _ _ (rd_L1 x0_1 x10_2) from ge539_0)
            clear hv539_0 ge539_0;clear hcc539 hce539
            have HR539_0 := Aside0.mk hi539_0
            have HC539_0 := Aside0.mk hl539_0
            clear hi539_0 hl539_0
            replace p539 := eq_true p539
            replace q539 := eq_true q539
            have p540 : 0 ≤ (x14_1 : Int) := of_decide_eq_true (by first | (with_reducible assumption) | assumption)
            have q540 : x14_1 < ((rd_L1 x0_1 x10_2).length : Int) := of_decide_eq_true (by first | (with_reducible assumption) | assumption)
            obtain ⟨ad540, e540, hx540_0⟩ := Kd.at_int (by repeat (first | (with_reducible exact HR539_0.out) | (with_reducible refine Kd.C_alloc ?_ _) | (with_reducible refine Kd.C_drewN ?_ _) | (with_reducible refine Kd.C_drew ?_) | exact HR539_0.out)) x14_1 p540 q540
            cases e540
            replace p540 := eq_true p540
            replace q540 := eq_true q540
            go_wp2
            go_roundg k2
            case measure => have := HK1.out; have := HK2.out; omega
            case rel => exact ⟨(wrap64 (x10_2 + 1)), (by first | rfl | (simp; done) | (simp [*]; done)), H', ⟨by have := HK1.out; have := HK2.out; omega⟩, ⟨by (with_reducible repeat (first | apply Kd.S_alloc | apply Kd.S_drewN | apply Kd.S_drew)); exact HO_0.out⟩, ⟨by (with_reducible repeat (first | apply Kd.R_alloc | apply Kd.R_drewN | apply Kd.R_drew)); exact HO_539001.out⟩, ⟨by (with_reducible repeat (first | refine blk_drewN ?_ _ | refine blk_drew ?_ | refine blk_alloc ?_ _)); exact BK537.out⟩, ⟨by (with_reducible repeat (first | refine blk_drewN ?_ _ | refine blk_drew ?_ | refine blk_alloc ?_ _)); exact BK538.out⟩, ⟨by repeat (first | (with_reducible first | exact HK.out | apply Kept.alloc | apply Kept.drewN | apply Kept.drew | refine Kept.setCell ?_ (.inr GW537.out) _ | refine Kept.setCell ?_ (.inr GW538.out) _) | exact HK.out)⟩, ⟨by repeat (first | (with_reducible first | exact HB.out | apply below_alloc | apply pw_below_drewN | apply below_drew1 | refine below_set ?_ GE537.out | refine below_set ?_ GE538.out) | exact HB.out)⟩⟩
           ·rw [if_neg c17] at H
            have c17b0 : ((rd (rd_L1 x0_1 x10_2) x14_1) == 0) = false := beq_eq_false_iff_ne.mpr c17
            have c17b1 : ((rd (rd_L1 x0_1 x10_2) x14_1) != 0) = true := bne_iff_ne.mpr c17
            have H' := Aside0.mk H
            clear H
            obtain ⟨Ao19, co19, eo19⟩ := Kd.S_slice HO_0.out
            subst eo19
            have p539 : 0 ≤ (x10_2 : Int) := of_decide_eq_true (by first | (with_reducible assumption) | assumption)
            have q539 : x10_2 < (x0_1.length : Int) := of_decide_eq_true (by first | (with_reducible assumption) | assumption)
            obtain ⟨ad539, A539_0, c539_0, e539, hx539_0, hl539_0, hi539_0⟩ := at_L1 (Kd.S_reads' HO_0.out).2.2 x10_2 p539 q539
            cases e539
            obtain ⟨ce539, hce539, hMe539, hcc539⟩ := Kd.S_get HO_0.out [] x10_2 p539 (by first | exact q539 | exact of_decide_eq_true (by first | (with_reducible assumption) | assumption) | (have e_ := (Kd.S_reads' HO_0.out).1; omega))
            obtain ⟨ve539_0, rfl, ge539_0⟩ := hMe539
            have hv539_0 := hcc539 0 _ rfl
            rw [Nat.add_zero, show ((Kd.slice 3 (Kd.int .i64))).sz = 1 from rfl, Nat.mul_one] at hv539_0
            replace hv539_0 := Option.some.inj (hv539_0.symm.trans hx539_0)
            rw [hv539_0] at ge539_0
            have HL539_0 := Aside0.mk (show Kd.R (Kd.int .i64) 3 _ w0.heap.size _ _ (rd_L1 x0_1 x10_2) from ge539_0)
            clear hv539_0 ge539_0;clear hcc539 hce539
            have HR539_0 := Aside0.mk hi539_0
            have HC539_0 := Aside0.mk hl539_0
            clear hi539_0 hl539_0
            replace p539 := eq_true p539
            replace q539 := eq_true q539
            have p540 : 0 ≤ (x14_1 : Int) := of_decide_eq_true (by first | (with_reducible assumption) | assumption)
            have q540 : x14_1 < ((rd_L1 x0_1 x10_2).length : Int) := of_decide_eq_true (by first | (with_reducible assumption) | assumption)
            obtain ⟨ad540, e540, hx540_0⟩ := Kd.at_int (by repeat (first | (with_reducible exact HR539_0.out) | (with_reducible refine Kd.C_alloc ?_ _) | (with_reducible refine Kd.C_drewN ?_ _) | (with_reducible refine Kd.C_drew ?_) | exact HR539_0.out)) x14_1 p540 q540
            cases e540
            replace p540 := eq_true p540
            replace q540 := eq_true q540
            go_wp2
            go_meet
            case rel => exact ⟨_, (x10_2), (by first | rfl | (simp; done) | (simp [*]; done)), H', ⟨by have := HK1.out; have := HK2.out; first | omega | exact Nat.le_refl _⟩, ⟨by (with_reducible repeat (first | apply Kd.S_alloc | apply Kd.S_drewN | apply Kd.S_drew)); exact HO_0.out⟩, ⟨by (with_reducible repeat (first | apply Kd.R_alloc | apply Kd.R_drewN | apply Kd.R_drew)); exact HO_539001.out⟩, ⟨by (with_reducible repeat (first | refine blk_drewN ?_ _ | refine blk_drew ?_ | refine blk_alloc ?_ _)); exact BK537.out⟩, ⟨by (with_reducible repeat (first | refine blk_drewN ?_ _ | refine blk_drew ?_ | refine blk_alloc ?_ _)); exact BK538.out⟩, ⟨by repeat (first | (with_reducible first | exact HK.out | apply Kept.alloc | apply Kept.drewN | apply Kept.drew | refine Kept.setCell ?_ (.inr GW537.out) _ | refine Kept.setCell ?_ (.inr GW538.out) _) | exact HK.out)⟩, ⟨by repeat (first | (with_reducible first | exact HB.out | apply below_alloc | apply pw_below_drewN | apply below_drew1 | refine below_set ?_ GE537.out | refine below_set ?_ GE538.out) | exact HB.out)⟩⟩
          ·rw [if_neg c16] at H
           exact absurd H (by simp)
         ·rw [if_neg c15] at H
          exact absurd H (by simp)
        ·rw [if_neg c14] at H
         exact absurd H (by simp)
       ·rw [if_neg c13] at H
        have c13b0 : decide (x10_2 < (x0_1.length : Int)) = false := decide_eq_false c13
        clear c13
        (first | rw [c13b0] | (simp only [i64_w, i32_w]; rw [c13b0]) | skip)
        have H' := Aside0.mk H
        clear H
        obtain ⟨Ao20, co20, eo20⟩ := Kd.S_slice HO_0.out
        subst eo20
        go_wp2
        go_meet
        case rel => exact ⟨_, (x10_2), (by first | rfl | (simp; done) | (simp [*]; done)), H', ⟨by have := HK1.out; have := HK2.out; first | omega | exact Nat.le_refl _⟩, ⟨by (with_reducible repeat (first | apply Kd.S_alloc | apply Kd.S_drewN | apply Kd.S_drew)); exact HO_0.out⟩, ⟨by (with_reducible repeat (first | apply Kd.R_alloc | apply Kd.R_drewN | apply Kd.R_drew)); exact HO_539001.out⟩, ⟨by (with_reducible repeat (first | refine blk_drewN ?_ _ | refine blk_drew ?_ | refine blk_alloc ?_ _)); exact BK537.out⟩, ⟨by (with_reducible repeat (first | refine blk_drewN ?_ _ | refine blk_drew ?_ | refine blk_alloc ?_ _)); exact BK538.out⟩, ⟨by repeat (first | (with_reducible first | exact HK.out | apply Kept.alloc | apply Kept.drewN | apply Kept.drew | refine Kept.setCell ?_ (.inr GW537.out) _ | refine Kept.setCell ?_ (.inr GW538.out) _) | exact HK.out)⟩, ⟨by repeat (first | (with_reducible first | exact HB.out | apply below_alloc | apply pw_below_drewN | apply below_drew1 | refine below_set ?_ GE537.out | refine below_set ?_ GE538.out) | exact HB.out)⟩⟩
    case rest =>
     clear HC9;(try clear c1);(try clear p2);(try clear c5);(try clear p5);(try clear q5);(try clear hx5);(try clear c6);(try clear p6);(try clear c8);(try clear c8b0);(try clear c10);(try clear c13);(try clear c13b0);(try clear c14);(try clear c14b0);(try clear c15);(try clear c15b0);(try clear c16);(try clear c16b0);(try clear c17);(try clear c17b0);(try clear c17b1);(try clear hcz11_0);(try clear hcz11_1);(try clear hcz11_2);(try clear hcz7_0);(try clear hcz7_1);(try clear hcz7_2);(try clear hfz11_0);(try clear hfz11_1);(try clear hfz11_2);(try clear hfz7_0);(try clear hfz7_1);(try clear hfz7_2);(try clear hx539_0);(try clear hx540_0);(try clear p2);(try clear p539);(try clear p540);(try clear q539);(try clear q540)
     obtain ⟨kq, x10_8, rfl, HA, HJ8, HO_0, HO_539001, BK537, BK538, HK, HB⟩ := hcut
     cases kq with
     | zero => exact absurd HA.out (by simp [impl_eliminate.j2])
     | succ kj8 =>
      have H := HA.out
      clear HA
      simp only [impl_eliminate.j2] at H
      by_cases c21 : x10_8 = (x0_1.length : Int)
      ·rw [if_pos c21] at H
       have c21b0 : (x10_8 == (x0_1.length : Int)) = true := beq_iff_eq.mpr c21
       have c21b1 : (x10_8 != (x0_1.length : Int)) = false := bne_eq_false_iff_eq.mpr c21
       clear c21
       have H' := Aside0.mk H
       clear H
       obtain ⟨Ao22, co22, eo22⟩ := Kd.S_slice HO_0.out
       subst eo22
       have hnb23 := NB538_537.out
       have hnc23 := NB537_538.out
       have hcz24_0 : wc.cell? ⟨gb538, 0, none⟩ = some (.slice none 0 0) := (blk_cell BK538.out 0).trans rfl
       have hcz24_1 : wc.cell? ⟨gb538, 1, none⟩ = some (.slice Ao12 x539001_1.length co12) := (blk_cell BK538.out 1).trans rfl
       have hcz24_2 : wc.cell? ⟨gb538, 2, none⟩ = some (.int .i64 x539002_1) := (blk_cell BK538.out 2).trans rfl
       have hfz24_0 := blk_frozen BK538.out 0
       have hfz24_1 := blk_frozen BK538.out 1
       have hfz24_2 := blk_frozen BK538.out 2
       go_wp2
       go_roundg kj8
       case measure => have := HK1.out; have := HJ8.out; omega
       case rel => exact ⟨(x0_1), (wrap64 (x14_1 + 1)), (x539001_1), (0), (.slice Ao12 x539001_1.length co12), (by first | rfl | (simp; done) | (simp [*]; done)), H', ⟨by have := HK1.out; have := HJ8.out; omega⟩, ⟨by (with_reducible repeat (first | apply Kd.S_alloc | apply Kd.S_drewN | apply Kd.S_drew)); exact Kd.S_mono (Kd.S_far (p := ⟨gb538, 2, none⟩) (Kd.S_mono HO_0.out (fun k_ hk => (⟨hk, hk.2.2.2⟩ : _ ∧ k_ ≠ gb538))) (fun _ hk => hk.2) (.int .i64 0)) (fun _ hk => ⟨hk.1.1, ⟨hk.1.2.1, ⟨hk.1.2.2.1, hk.1.2.2.2⟩⟩⟩)⟩, ⟨by (with_reducible repeat (first | apply Kd.R_alloc | apply Kd.R_drewN | apply Kd.R_drew)); exact Kd.R_mono (Kd.R_far (p := ⟨gb538, 2, none⟩) (Kd.R_types HO_539001.out BK538.out (by decide)) (fun _ hk => hk.2) (.int .i64 0)) (fun _ hk => hk.1)⟩, ⟨by (with_reducible repeat (first | refine blk_drewN ?_ _ | refine blk_drew ?_ | refine blk_alloc ?_ _)); refine blk_far ?_ NB537_538.out _; (with_reducible repeat (first | refine blk_drewN ?_ _ | refine blk_drew ?_ | refine blk_alloc ?_ _)); exact BK537.out⟩, ⟨by (with_reducible repeat (first | refine blk_drewN ?_ _ | refine blk_drew ?_ | refine blk_alloc ?_ _)); refine blk_put (cs := #[.slice none 0 0, .slice Ao12 x539001_1.length co12, .int .i64 x539002_1]) ?_ 2 _ rfl; (with_reducible repeat (first | refine blk_drewN ?_ _ | refine blk_drew ?_ | refine blk_alloc ?_ _)); exact BK538.out⟩, ⟨by repeat (first | (with_reducible first | exact HK.out | apply Kept.alloc | apply Kept.drewN | apply Kept.drew | refine Kept.setCell ?_ (.inr GW537.out) _ | refine Kept.setCell ?_ (.inr GW538.out) _) | exact HK.out)⟩, ⟨by repeat (first | (with_reducible first | exact HB.out | apply below_alloc | apply pw_below_drewN | apply below_drew1 | refine below_set ?_ GE537.out | refine below_set ?_ GE538.out) | exact HB.out)⟩⟩
      ·rw [if_neg c21] at H
       have c21b0 : (x10_8 == (x0_1.length : Int)) = false := beq_eq_false_iff_ne.mpr c21
       have c21b1 : (x10_8 != (x0_1.length : Int)) = true := bne_iff_ne.mpr c21
       have HC25 := Aside0.mk H
       clear H
       obtain ⟨Ao26, co26, eo26⟩ := Kd.S_slice HO_0.out
       subst eo26
       go_upto_if 44 with (fail)
       go_cut [] (fun wc => ∃ (kq : Nat) (x0_24 : List (List Int)) (x539002_24 : Int), Aside0 (impl_eliminate.j3 kq x0_24 a2 x14_1 (x539001_1.length : Int) a1 x14_1 x539001_1 x539002_24 = some (r1, r2, r3)) ∧ Aside0 (kq ≤ kj8) ∧ Aside0 (Kd.S (Kd.slice 3 (Kd.int .i64)) 22 wc w0.heap.size (fun k_ => (P0_ k_ ∨ w.heap.size ≤ k_) ∧ some k_ ≠ ((.slice Ao12 x539001_1.length co12) : Value).ownBlock ∧ k_ ≠ gb537 ∧ k_ ≠ gb538) (.slice Ao26 x0_1.length co26) x0_24) ∧ Aside0 (Kd.R (Kd.int .i64) 3 wc w0.heap.size (fun k_ => (P0_ k_ ∨ w.heap.size ≤ k_)) (.slice Ao12 x539001_1.length co12) x539001_1) ∧ Aside0 (wc.heap[gb537]? = some (.cells #[(.slice none 0 0), (.slice none 0 0), .int .i64 0] 60 (0, 0))) ∧ Aside0 (wc.heap[gb538]? = some (.cells #[(.slice none 0 0), (.slice Ao12 x539001_1.length co12), .int .i64 x539002_24] 60 (0, 0))) ∧ Aside0 (Kept w wc (fun k_ => P0_ k_)) ∧ Aside0 (Below w0.heap.size w0 wc))
       case first =>
        have H := HC25.out
        clear HC25
        by_cases c27 : x10_8 = (x539001_1.length : Int)
        ·rw [if_pos c27] at H
         have c27b0 : (x10_8 == (x539001_1.length : Int)) = true := beq_iff_eq.mpr c27
         have c27b1 : (x10_8 != (x539001_1.length : Int)) = false := bne_eq_false_iff_eq.mpr c27
         clear c27
         (first | rw [c27b0] | (simp only [i64_w, i32_w]; rw [c27b0]) | skip)
         have H' := Aside0.mk H
         clear H
         go_wp2
         go_meet
         case rel => exact ⟨_, (x0_1), (x539002_1), H', ⟨by have := HK1.out; have := HJ8.out; first | omega | exact Nat.le_refl _⟩, ⟨by (with_reducible repeat (first | apply Kd.S_alloc | apply Kd.S_drewN | apply Kd.S_drew)); exact HO_0.out⟩, ⟨by (with_reducible repeat (first | apply Kd.R_alloc | apply Kd.R_drewN | apply Kd.R_drew)); exact HO_539001.out⟩, ⟨by (with_reducible repeat (first | refine blk_drewN ?_ _ | refine blk_drew ?_ | refine blk_alloc ?_ _)); exact BK537.out⟩, ⟨by (with_reducible repeat (first | refine blk_drewN ?_ _ | refine blk_drew ?_ | refine blk_alloc ?_ _)); exact BK538.out⟩, ⟨by repeat (first | (with_reducible first | exact HK.out | apply Kept.alloc | apply Kept.drewN | apply Kept.drew | refine Kept.setCell ?_ (.inr GW537.out) _ | refine Kept.setCell ?_ (.inr GW538.out) _) | exact HK.out)⟩, ⟨by repeat (first | (with_reducible first | exact HB.out | apply below_alloc | apply pw_below_drewN | apply below_drew1 | refine below_set ?_ GE537.out | refine below_set ?_ GE538.out) | exact HB.out)⟩⟩
        ·rw [if_neg c27] at H
         have c27b0 : (x10_8 == (x539001_1.length : Int)) = false := beq_eq_false_iff_ne.mpr c27
         have c27b1 : (x10_8 != (x539001_1.length : Int)) = true := bne_iff_ne.mpr c27
         (first | rw [c27b0] | (simp only [i64_w, i32_w]; rw [c27b0]) | skip)
         replace H := Option.bind_eq_some_iff.mp H
         obtain ⟨t541, A280, H⟩ := H
         replace H : ((pseudo_rowAt.f x0_1 (x539001_1.length : Int)).bind fun t544 => (if 0 ≤ x10_8 then (if x10_8 < (x0_1.length : Int) then (if 0 ≤ (x539001_1.length : Int) then (if (x539001_1.length : Int) < (x0_1.length : Int) then ((impl_mod.f (wrap64 (-x539002_1)) a2).bind fun t549 => (impl_eliminate.j3 kj8 ((x0_1.set (x10_8 : Int).toNat t544).set ((x539001_1.length : Int) : Int).toNat t541) a2 x14_1 (x539001_1.length : Int) a1 x14_1 x539001_1 t549)) else (none)) else (none)) else (none)) else (none))) = some (r1, r2, r3) := H
         have A28 := Aside0.mk A280
         clear A280
         replace H := Option.bind_eq_some_iff.mp H
         obtain ⟨t544, A290, H⟩ := H
         replace H : (if 0 ≤ x10_8 then (if x10_8 < (x0_1.length : Int) then (if 0 ≤ (x539001_1.length : Int) then (if (x539001_1.length : Int) < (x0_1.length : Int) then ((impl_mod.f (wrap64 (-x539002_1)) a2).bind fun t549 => (impl_eliminate.j3 kj8 ((x0_1.set (x10_8 : Int).toNat t544).set ((x539001_1.length : Int) : Int).toNat t541) a2 x14_1 (x539001_1.length : Int) a1 x14_1 x539001_1 t549)) else (none)) else (none)) else (none)) else (none)) = some (r1, r2, r3) := H
         have A29 := Aside0.mk A290
         clear A290
         by_cases c30 : 0 ≤ x10_8
         ·rw [if_pos c30] at H
          have c30b0 : decide (0 ≤ x10_8) = true := decide_eq_true c30
          clear c30
          by_cases c31 : x10_8 < (x0_1.length : Int)
          ·rw [if_pos c31] at H
           have c31b0 : decide (x10_8 < (x0_1.length : Int)) = true := decide_eq_true c31
           clear c31
           obtain ⟨y547, hy547⟩ : ∃ y_ : List (List Int), y_ = (x0_1.set (x10_8 : Int).toNat t544) := ⟨_, rfl⟩
           replace H : (if 0 ≤ (x539001_1.length : Int) then (if (x539001_1.length : Int) < (x0_1.length : Int) then ((impl_mod.f (wrap64 (-x539002_1)) a2).bind fun t549 => (impl_eliminate.j3 kj8 (y547.set ((x539001_1.length : Int) : Int).toNat t541) a2 x14_1 (x539001_1.length : Int) a1 x14_1 x539001_1 t549)) else (none)) else (none)) = some (r1, r2, r3) := by first | (rw [hy547]; with_reducible exact H) | (have H2_ := (Option.bind_some _ _).symm.trans H; rw [hy547]; with_reducible exact H2_) | (have H2_ := (Option.bind_some _ _).symm.trans H; with_reducible exact H2_) | with_reducible exact H | (rw [hy547]; exact H) | exact H
           have Ny547 := Aside0.mk hy547
           clear hy547
           by_cases c33 : 0 ≤ (x539001_1.length : Int)
           ·rw [if_pos c33] at H
            have c33b0 : decide (0 ≤ (x539001_1.length : Int)) = true := decide_eq_true c33
            have c33b1 : decide (0 ≤ x539001_1.length) = true := decide_eq_true (by omega)
            clear c33
            by_cases c34 : (x539001_1.length : Int) < (x0_1.length : Int)
            ·rw [if_pos c34] at H
             have c34b0 : decide ((x539001_1.length : Int) < (x0_1.length : Int)) = true := decide_eq_true c34
             have c34b1 : decide (x539001_1.length < x0_1.length) = true := decide_eq_true (Int.ofNat_lt.mp c34)
             clear c34
             obtain ⟨y548, hy548⟩ : ∃ y_ : List (List Int), y_ = (y547.set ((x539001_1.length : Int) : Int).toNat t541) := ⟨_, rfl⟩
             replace H : ((impl_mod.f (wrap64 (-x539002_1)) a2).bind fun t549 => (impl_eliminate.j3 kj8 y548 a2 x14_1 (x539001_1.length : Int) a1 x14_1 x539001_1 t549)) = some (r1, r2, r3) := by first | (rw [hy548]; with_reducible exact H) | (have H2_ := (Option.bind_some _ _).symm.trans H; rw [hy548]; with_reducible exact H2_) | (have H2_ := (Option.bind_some _ _).symm.trans H; with_reducible exact H2_) | with_reducible exact H | (rw [hy548]; exact H) | exact H
             have Ny548 := Aside0.mk hy548
             clear hy548
             replace H := Option.bind_eq_some_iff.mp H
             obtain ⟨t549, A360, H⟩ := H
             replace H : (impl_eliminate.j3 kj8 y548 a2 x14_1 (x539001_1.length : Int) a1 x14_1 x539001_1 t549) = some (r1, r2, r3) := H
             have A36 := Aside0.mk A360
             clear A360
             have H' := Aside0.mk H
             clear H
             have ps_ : 0 ≤ x10_8 := of_decide_eq_true (by assumption)
             have qs_ : x10_8 < (x0_1.length : Int) := of_decide_eq_true (by assumption)
             have rs_ : (x539001_1.length : Int) < (x0_1.length : Int) := of_decide_eq_true (by assumption)
             have ep_ : t541 = x0_1.getD x10_8.toNat [] := by have h_ := A28.out; unfold pseudo_rowAt.f at h_; rw [if_pos ps_, if_pos qs_] at h_; exact (Option.some.inj h_).symm
             have ek_ : t544 = x0_1.getD (x539001_1.length : Int).toNat [] := by have h_ := A29.out; unfold pseudo_rowAt.f at h_; rw [if_pos (by omega), if_pos rs_] at h_; exact (Option.some.inj h_).symm
             obtain ⟨go32, cs_, es_, gbs_, gls_, cls_, HGs_⟩ := Kd.S_form HO_0.out (by omega)
             (first | cases es_ | (injection es_ with ea_ en_ ec_; (first | subst ea_ | (injection ea_ with ea_; subst ea_)); subst ec_; clear en_))
             obtain ⟨ui, uj, ci, cj, li, lj, hx1, hx2, hf1, hf2, hN, hg⟩ := S_swap2 HO_0.out x10_8 (x539001_1.length : Int) ps_ qs_ (by omega) rs_
             rw [← ep_, ← ek_, ← Ny547.out, ← Ny548.out] at hN
             simp only [Int.toNat_natCast] at hx1 hx2 hf1 hf2 hN hg
             have n0_ := Aside0.mk (Kd.S_drew hN)
             have n1_ := Aside0.mk (Kd.R_drew (Kd.R_over' (v := (.slice (some ⟨go32, 0, none⟩) x0_1.length co26)) HO_539001.out (Kd.S_typed HO_0.out) (by decide) hg))
             have n2_ := Aside0.mk (blk_drew (blk_grown (g := gb537) (o := .cells #[.slice none 0 0, .slice none 0 0, .int .i64 0] 60 (0, 0)) BK537.out hg (Kd.S_ne HO_0.out BK537.out (by decide))))
             have n3_ := Aside0.mk (blk_drew (blk_grown (g := gb538) (o := .cells #[.slice none 0 0, .slice Ao12 x539001_1.length co12, .int .i64 x539002_1] 60 (0, 0)) BK538.out hg (Kd.S_ne HO_0.out BK538.out (by decide))))
             have n4_ := Aside0.mk (below_drew1 (pw_below_grown HB.out (some go32) (Nat.le_trans HW0.out HK.out.1) hg (fun k hk => by injection hk with hk; omega)))
             have n5_ := Aside0.mk (Kept.drew (Kept.of_grown (S := (fun k_ => P0_ k_)) hg HK.out (fun k_ e_ => (by have h_ := (Kd.S_R HO_0.out).1 k_ e_; first | exact h_.1 | exact h_.1.1 | exact h_.1.1.1))))
             clear hN hg ep_ ek_ HGs_ gls_
             have hD_ : (decide (0 ≤ x539001_1.length) && true) = true := by simp
             clear hD_
             go_wp2
             go_region
             generalize ((wc.setCell ⟨go32, x10_8.toNat, none⟩ (.slice uj lj cj)).setCell ⟨go32, x539001_1.length, none⟩ (.slice ui li ci)).drew = w42 at n0_ n1_ n2_ n3_ n4_ n5_ ⊢
             clear HK;clear HB;clear BK538;clear BK537;clear HO_539001;clear HO_0
             have HO_0 := n0_
             have HO_539001 := n1_
             have BK537 := n2_
             have BK538 := n3_
             have HB := n4_
             have HK := n5_
             clear n0_ n1_ n2_ n3_ n4_ n5_;clear hx1 hx2 hf1 hf2
             have hnb43 := NB538_537.out
             have hnc43 := NB537_538.out
             have hcz44_0 : w42.cell? ⟨gb538, 0, none⟩ = some (.slice none 0 0) := (blk_cell BK538.out 0).trans rfl
             have hcz44_1 : w42.cell? ⟨gb538, 1, none⟩ = some (.slice Ao12 x539001_1.length co12) := (blk_cell BK538.out 1).trans rfl
             have hcz44_2 : w42.cell? ⟨gb538, 2, none⟩ = some (.int .i64 x539002_1) := (blk_cell BK538.out 2).trans rfl
             have hfz44_0 := blk_frozen BK538.out 0
             have hfz44_1 := blk_frozen BK538.out 1
             have hfz44_2 := blk_frozen BK538.out 2
             go_wp2_with (first | ((with_reducible refine gate_callee (f := 88) rfl ?_); refine goesL_ (some 63) rfl rfl Try.func88 (by kernel_rfl) rfl #[.int .i64 (wrap64 (-x539002_1)), .int .i64 a2] rfl (by (try simp only [List.map_toArray, List.map_cons, List.map_nil]); first | done | rfl | (simp only [List.length_drop, List.length_take]; rfl)) ?_; (with_reducible refine (impl_mod.calls (wrap64 (-x539002_1)) a2 t549 _ A36.out).mono ?_); rintro e w' ⟨rfl, ⟨nd, rfl⟩⟩; refine ⟨_, rfl, ?_⟩; (try (rw [drewN_self w42]; generalize hq_ : World.drewN w42 _ = w42; have n0_ : Aside0 (Kd.S (Kd.slice 3 (Kd.int .i64)) 22 w42 w0.heap.size (fun k_ => (P0_ k_ ∨ w.heap.size ≤ k_) ∧ some k_ ≠ (.slice Ao12 x539001_1.length co12 : Value).ownBlock ∧ k_ ≠ gb537 ∧ k_ ≠ gb538) (.slice (some ⟨go32, 0, none⟩) x0_1.length co26) y548) := ⟨by rw [← hq_]; exact (by (with_reducible repeat (first | apply Kd.S_alloc | apply Kd.S_drewN | apply Kd.S_drew)); exact HO_0.out)⟩; have n1_ : Aside0 (Kd.R (Kd.int .i64) 3 w42 w0.heap.size (fun k_ => (P0_ k_ ∨ w.heap.size ≤ k_)) (.slice Ao12 x539001_1.length co12) x539001_1) := ⟨by rw [← hq_]; exact (by (with_reducible repeat (first | apply Kd.R_alloc | apply Kd.R_drewN | apply Kd.R_drew)); exact Kd.R_mono HO_539001.out (fun _ hk => hk.1.1))⟩; have n2_ : Aside0 (w42.heap[gb537]? = some (.cells #[.slice none 0 0, .slice none 0 0, .int .i64 0] 60 (0, 0))) := ⟨by rw [← hq_]; exact (by (with_reducible repeat (first | refine blk_drewN ?_ _ | refine blk_drew ?_ | refine blk_alloc ?_ _)); exact BK537.out)⟩; have n3_ : Aside0 (w42.heap[gb538]? = some (.cells #[.slice none 0 0, .slice Ao12 x539001_1.length co12, .int .i64 x539002_1] 60 (0, 0))) := ⟨by rw [← hq_]; exact (by (with_reducible repeat (first | refine blk_drewN ?_ _ | refine blk_drew ?_ | refine blk_alloc ?_ _)); exact BK538.out)⟩; have n4_ : Aside0 (Kept w w42 (fun k_ => P0_ k_)) := ⟨by rw [← hq_]; exact (by repeat (first | (with_reducible first | exact HK.out | apply Kept.alloc | apply Kept.drewN | apply Kept.drew | refine Kept.setCell ?_ (.inr GW537.out) _ | refine Kept.setCell ?_ (.inr GW538.out) _) | exact HK.out))⟩; have n5_ : Aside0 (Below w0.heap.size w0 w42) := ⟨by rw [← hq_]; exact (by repeat (first | (with_reducible first | exact HB.out | apply below_alloc | apply pw_below_drewN | apply below_drew1 | refine below_set ?_ GE537.out | refine below_set ?_ GE538.out) | exact HB.out))⟩; clear HO_0 HO_539001 BK537 BK538 HK HB hq_; have HO_0 := n0_; have HO_539001 := n1_; have BK537 := n2_; have BK538 := n3_; have HK := n4_; have HB := n5_; clear n0_ n1_ n2_ n3_ n4_ n5_))))
             go_meet
             case rel => exact ⟨_, (y548), (t549), H', ⟨by have := HK1.out; have := HJ8.out; first | omega | exact Nat.le_refl _⟩, ⟨by (with_reducible repeat (first | apply Kd.S_alloc | apply Kd.S_drewN | apply Kd.S_drew)); exact Kd.S_mono (Kd.S_far (p := ⟨gb538, 2, none⟩) (Kd.S_mono HO_0.out (fun k_ hk => (⟨hk, hk.2.2.2⟩ : _ ∧ k_ ≠ gb538))) (fun _ hk => hk.2) (.int .i64 t549)) (fun _ hk => ⟨hk.1.1, ⟨hk.1.2.1, ⟨hk.1.2.2.1, hk.1.2.2.2⟩⟩⟩)⟩, ⟨by (with_reducible repeat (first | apply Kd.R_alloc | apply Kd.R_drewN | apply Kd.R_drew)); exact Kd.R_mono (Kd.R_far (p := ⟨gb538, 2, none⟩) (Kd.R_types HO_539001.out BK538.out (by decide)) (fun _ hk => hk.2) (.int .i64 t549)) (fun _ hk => by first | exact hk.1 | exact hk.1.1 | exact hk.1.1.1)⟩, ⟨by (with_reducible repeat (first | refine blk_drewN ?_ _ | refine blk_drew ?_ | refine blk_alloc ?_ _)); refine blk_far ?_ NB537_538.out _; (with_reducible repeat (first | refine blk_drewN ?_ _ | refine blk_drew ?_ | refine blk_alloc ?_ _)); exact BK537.out⟩, ⟨by (with_reducible repeat (first | refine blk_drewN ?_ _ | refine blk_drew ?_ | refine blk_alloc ?_ _)); refine blk_put (cs := #[.slice none 0 0, .slice Ao12 x539001_1.length co12, .int .i64 x539002_1]) ?_ 2 _ rfl; (with_reducible repeat (first | refine blk_drewN ?_ _ | refine blk_drew ?_ | refine blk_alloc ?_ _)); exact BK538.out⟩, ⟨by repeat (first | (with_reducible first | exact HK.out | apply Kept.alloc | apply Kept.drewN | apply Kept.drew | refine Kept.setCell ?_ (.inr GW537.out) _ | refine Kept.setCell ?_ (.inr GW538.out) _) | exact HK.out)⟩, ⟨by repeat (first | (with_reducible first | exact HB.out | apply below_alloc | apply pw_below_drewN | apply below_drew1 | refine below_set ?_ GE537.out | refine below_set ?_ GE538.out) | exact HB.out)⟩⟩
            ·rw [if_neg c34] at H
             exact absurd H (by simp)
           ·rw [if_neg c33] at H
            exact absurd H (by simp)
          ·rw [if_neg c31] at H
           exact absurd H (by simp)
         ·rw [if_neg c30] at H
          exact absurd H (by simp)
       case rest =>
        clear HC25;(try clear c1);(try clear c2);(try clear p2);(try clear c3);(try clear p3);(try clear q3);(try clear hx3);(try clear hf3);(try clear c4);(try clear hx4);(try clear hf4);(try clear c5);(try clear p5);(try clear q5);(try clear hx5);(try clear c6);(try clear p6);(try clear c8);(try clear c8b0);(try clear c10);(try clear c12);(try clear c13);(try clear c13b0);(try clear c14);(try clear c14b0);(try clear c15);(try clear c15b0);(try clear c16);(try clear c16b0);(try clear c17);(try clear c17b0);(try clear c17b1);(try clear c21);(try clear c21b0);(try clear c21b1);(try clear c23);(try clear c27);(try clear c27b0);(try clear c27b1);(try clear c30);(try clear c30b0);(try clear c31);(try clear c31b0);(try clear c32);(try clear p32);(try clear q32);(try clear hx32);(try clear hf32);(try clear c33);(try clear c33b0);(try clear c33b1);(try clear c34);(try clear c34b0);(try clear c34b1);(try clear c35);(try clear p35);(try clear q35);(try clear hx35);(try clear hf35);(try clear c39);(try clear hx39);(try clear hf39);(try clear c41);(try clear hx41);(try clear hf41);(try clear c43);(try clear hcz11_0);(try clear hcz11_1);(try clear hcz11_2);(try clear hcz24_0);(try clear hcz24_1);(try clear hcz24_2);(try clear hcz44_0);(try clear hcz44_1);(try clear hcz44_2);(try clear hcz7_0);(try clear hcz7_1);(try clear hcz7_2);(try clear hfz11_0);(try clear hfz11_1);(try clear hfz11_2);(try clear hfz24_0);(try clear hfz24_1);(try clear hfz24_2);(try clear hfz44_0);(try clear hfz44_1);(try clear hfz44_2);(try clear hfz7_0);(try clear hfz7_1);(try clear hfz7_2);(try clear hx32_0);(try clear hx35_0);(try clear hx39_0);(try clear hx41_0);(try clear hx539_0);(try clear hx540_0);(try clear p2);(try clear p32);(try clear p35);(try clear p5);(try clear p539);(try clear p540);(try clear p6);(try clear q32);(try clear q35);(try clear q5);(try clear q539);(try clear q540)
        obtain ⟨kq, x0_24, x539002_24, HA, HJ24, HO_0, HO_539001, BK537, BK538, HK, HB⟩ := hcut
        have hl0_24 := (Kd.S_reads' HO_0.out).1
        rw [hl0_24] at HO_0
        (try simp only [hl0_24])
        (try simp only [hl0_24] at BK537)
        (try simp only [hl0_24] at BK538)
        (try simp only [hl0_24] at HO_539001)
        cases kq with
        | zero => exact absurd HA.out (by simp [impl_eliminate.j3])
        | succ kj24 =>
         have H := HA.out
         clear HA
         simp only [impl_eliminate.j3] at H
         by_cases c45 : 0 ≤ (x539001_1.length : Int)
         ·rw [if_pos c45] at H
          have c45b0 : decide (0 ≤ (x539001_1.length : Int)) = true := decide_eq_true c45
          (try simp only [hl0_24] at c45b0)
          have c45b1 : decide (0 ≤ x539001_1.length) = true := decide_eq_true (by omega)
          (try simp only [hl0_24] at c45b1)
          clear c45
          by_cases c46 : (x539001_1.length : Int) < (x0_24.length : Int)
          ·rw [if_pos c46] at H
           have c46b0 : decide ((x539001_1.length : Int) < (x0_24.length : Int)) = true := decide_eq_true c46
           (try simp only [hl0_24] at c46b0)
           have c46b1 : decide (x539001_1.length < x0_24.length) = true := decide_eq_true (Int.ofNat_lt.mp c46)
           (try simp only [hl0_24] at c46b1)
           clear c46
           by_cases c47 : 0 ≤ x14_1
           ·rw [if_pos c47] at H
            have c47b0 : decide (0 ≤ x14_1) = true := decide_eq_true c47
            clear c47
            by_cases c48 : x14_1 < ((rd_L1 x0_24 (x539001_1.length : Int)).length : Int)
            ·rw [if_pos c48] at H
             have c48b0 : decide (x14_1 < ((rd_L1 x0_24 (x539001_1.length : Int)).length : Int)) = true := decide_eq_true c48
             (try simp only [hl0_24] at c48b0)
             clear c48
             by_cases c49 : a2 = 0
             ·rw [if_pos c49] at H
              exact absurd H (by simp)
             ·rw [if_neg c49] at H
              have c49b0 : (a2 == 0) = false := beq_eq_false_iff_ne.mpr c49
              have c49b1 : (a2 != 0) = true := bne_iff_ne.mpr c49
              replace H := Option.bind_eq_some_iff.mp H
              obtain ⟨t555, A500, H⟩ := H
              replace H : ((impl_scaled.f kj24 (rd_L1 x0_24 (x539001_1.length : Int)) t555 a2).bind fun t556 => (impl_eliminate.l2 kj24 (x0_24.set ((x539001_1.length : Int) : Int).toNat t556) a2 x14_1 (x539001_1.length : Int) a1 x14_1 (x0_24.length : Int) 0 x539001_1 (Int.tmod (wrap64 (x539002_24 * (rd (rd_L1 x0_24 (x539001_1.length : Int)) x14_1))) a2))) = some (r1, r2, r3) := H
              have A50 := Aside0.mk A500
              clear A500
              replace H := Option.bind_eq_some_iff.mp H
              obtain ⟨t556, A510, H⟩ := H
              replace H : (impl_eliminate.l2 kj24 (x0_24.set ((x539001_1.length : Int) : Int).toNat t556) a2 x14_1 (x539001_1.length : Int) a1 x14_1 (x0_24.length : Int) 0 x539001_1 (Int.tmod (wrap64 (x539002_24 * (rd (rd_L1 x0_24 (x539001_1.length : Int)) x14_1))) a2)) = some (r1, r2, r3) := H
              have A51 := Aside0.mk A510
              clear A510
              obtain ⟨y559, hy559⟩ : ∃ y_ : List (List Int), y_ = (x0_24.set ((x539001_1.length : Int) : Int).toNat t556) := ⟨_, rfl⟩
              replace H : (impl_eliminate.l2 kj24 y559 a2 x14_1 (x539001_1.length : Int) a1 x14_1 (x0_24.length : Int) 0 x539001_1 (Int.tmod (wrap64 (x539002_24 * (rd (rd_L1 x0_24 (x539001_1.length : Int)) x14_1))) a2)) = some (r1, r2, r3) := by first | (rw [hy559]; with_reducible exact H) | (have H2_ := (Option.bind_some _ _).symm.trans H; rw [hy559]; with_reducible exact H2_) | (have H2_ := (Option.bind_some _ _).symm.trans H; with_reducible exact H2_) | with_reducible exact H | (rw [hy559]; exact H) | exact H
              have Ny559 := Aside0.mk hy559
              clear hy559
              have H' := Aside0.mk H
              clear H
              try go_wp2
              have n0_ := Aside0.mk (Kd.S_drew HO_0.out)
              have n1_ := Aside0.mk (Kd.R_drew HO_539001.out)
              have n2_ := Aside0.mk (blk_drew BK537.out)
              have n3_ := Aside0.mk (blk_drew BK538.out)
              have n4_ := Aside0.mk (Kept.drew HK.out)
              have n5_ := Aside0.mk (below_drew1 HB.out)
              clear HO_0;clear HO_539001;clear BK537;clear BK538;clear HK;clear HB
              have HO_0 := n0_
              have HO_539001 := n1_
              have BK537 := n2_
              have BK538 := n3_
              have HK := n4_
              have HB := n5_
              clear n0_ n1_ n2_ n3_ n4_ n5_
              have p550 : 0 ≤ ((x539001_1.length : Int) : Int) := of_decide_eq_true (by first | (with_reducible assumption) | assumption)
              have q550 : (x539001_1.length : Int) < (x0_24.length : Int) := of_decide_eq_true (by first | (with_reducible assumption) | assumption)
              obtain ⟨ad550, A550_0, c550_0, e550, hx550_0, hl550_0, hi550_0⟩ := at_L1 (Kd.S_reads' HO_0.out).2.2 (x539001_1.length : Int) p550 q550
              cases e550
              obtain ⟨ce550, hce550, hMe550, hcc550⟩ := Kd.S_get HO_0.out [] (x539001_1.length : Int) p550 (by first | exact q550 | exact of_decide_eq_true (by first | (with_reducible assumption) | assumption) | (have e_ := (Kd.S_reads' HO_0.out).1; omega))
              obtain ⟨ve550_0, rfl, ge550_0⟩ := hMe550
              have hv550_0 := hcc550 0 _ rfl
              rw [Nat.add_zero, show ((Kd.slice 3 (Kd.int .i64))).sz = 1 from rfl, Nat.mul_one] at hv550_0
              replace hv550_0 := Option.some.inj (hv550_0.symm.trans hx550_0)
              rw [hv550_0] at ge550_0
              have HL550_0 := Aside0.mk (show Kd.R (Kd.int .i64) 3 _ w0.heap.size _ _ (rd_L1 x0_24 (x539001_1.length : Int)) from ge550_0)
              clear hv550_0 ge550_0;clear hcc550 hce550
              have HR550_0 := Aside0.mk hi550_0
              have HC550_0 := Aside0.mk hl550_0
              clear hi550_0 hl550_0
              (try simp only [Go.IntWalk.toNatUp] at hx550_0)
              (try simp only [hl0_24] at p550)
              (try simp only [hl0_24] at q550)
              (try simp only [hl0_24] at hx550_0)
              replace p550 := eq_true p550
              replace q550 := eq_true q550
              have p551 : 0 ≤ (x14_1 : Int) := of_decide_eq_true (by first | (with_reducible assumption) | assumption)
              have q551 : x14_1 < ((rd_L1 x0_24 (x539001_1.length : Int)).length : Int) := of_decide_eq_true (by first | (with_reducible assumption) | assumption)
              obtain ⟨ad551, e551, hx551_0⟩ := Kd.at_int (by repeat (first | (with_reducible exact HR550_0.out) | (with_reducible refine Kd.C_alloc ?_ _) | (with_reducible refine Kd.C_drewN ?_ _) | (with_reducible refine Kd.C_drew ?_) | exact HR550_0.out)) x14_1 p551 q551
              cases e551
              replace p551 := eq_true p551
              replace q551 := eq_true q551
              refine start_ (n := 14) (S := fun w' => w'.cell? ⟨gb538, 0, none⟩ = some (.slice none 0 0) ∧ w'.cell? ⟨gb538, 1, none⟩ = some (.slice Ao12 x539001_1.length co12) ∧ w'.cell? ⟨gb538, 2, none⟩ = some (.int .i64 x539002_24) ∧ w'.cell? (ad550.add x539001_1.length) = some (.slice (some ad551) (rd_L1 x0_24 (x539001_1.length : Int)).length c550_0) ∧ w'.cell? (ad551.add (x14_1).toNat) = some (.int .i64 (rd (rd_L1 x0_24 (x539001_1.length : Int)) x14_1))) (ds := [13]) #[false, false, false, false, false, false, false, false, false, false, false, false, false, false] (by kernel_rfl) rfl rfl ⟨(blk_cell BK538.out 0).trans rfl, (blk_cell BK538.out 1).trans rfl, (blk_cell BK538.out 2).trans rfl, hx550_0, hx551_0⟩ (fun hHeld => ?_); refine with_tabW impl_eliminate.tab14 impl_eliminate.bits14 (fun HT_ HW_ => ?_)
              generalize wc.drew = w53 at HO_0 HO_539001 BK537 BK538 HK HB HL550_0 HR550_0 hx550_0 hx551_0 hHeld ⊢
              refine pure_ (i := 0) (N := some 65) (v := ?_) (a' := ?_) #[true, false, false, false, false, false, false, false, false, false, false, false, false, false] rfl rfl (any_of HT_.out (by kernel_rfl)) (fun _ _ _ h => h) (Or.inl ⟨by rfl, ?_⟩) ?_ ?_
              rotate_left
              ·intro w'
               go_simp
               with_reducible rfl
              rotate_left
              ·simp only [Act.put, List.setIfInBounds_toArray, List.set_cons_zero, List.set_cons_succ, i64_w, i32_w]
               rfl
              refine pure_ (i := 2) (N := some 67) (v := ?_) (a' := ?_) #[true, false, true, false, false, false, false, false, false, false, false, false, false, false] rfl rfl (any_of HT_.out (by kernel_rfl)) (fun _ _ _ h => h) (Or.inl ⟨by rfl, ?_⟩) ?_ ?_
              rotate_left
              ·intro w'
               go_simp
               with_reducible rfl
              rotate_left
              ·simp only [Act.put, List.setIfInBounds_toArray, List.set_cons_zero, List.set_cons_succ, i64_w, i32_w]
               rfl
              refine pure_ (i := 3) (N := some 68) (v := ?_) (a' := ?_) #[true, false, true, true, false, false, false, false, false, false, false, false, false, false] rfl rfl (any_of HT_.out (by kernel_rfl)) (fun _ _ _ h => h) (Or.inl ⟨by rfl, ?_⟩) ?_ ?_
              rotate_left
              ·intro w'
               go_simp
               with_reducible rfl
              rotate_left
              ·simp only [Act.put, List.setIfInBounds_toArray, List.set_cons_zero, List.set_cons_succ, i64_w, i32_w]
               rfl
              refine pure_ (i := 4) (N := some 69) (v := ?_) (a' := ?_) #[true, false, true, true, true, false, false, false, false, false, false, false, false, false] rfl rfl (any_of HT_.out (by kernel_rfl)) (fun _ _ _ h => h) (Or.inl ⟨by rfl, ?_⟩) ?_ ?_
              rotate_left
              ·intro w'
               go_simp
               with_reducible rfl
              rotate_left
              ·simp only [Act.put, List.setIfInBounds_toArray, List.set_cons_zero, List.set_cons_succ, i64_w, i32_w]
               rfl
              refine pure_ (i := 6) (N := some 71) (v := ?_) (a' := ?_) #[true, false, true, true, true, false, true, false, false, false, false, false, false, false] rfl rfl (any_of HT_.out (by kernel_rfl)) (fun _ _ _ h => h) (Or.inl ⟨by rfl, ?_⟩) ?_ ?_
              rotate_left
              ·intro w'
               go_simp
               with_reducible rfl
              rotate_left
              ·simp only [Act.put, List.setIfInBounds_toArray, List.set_cons_zero, List.set_cons_succ, i64_w, i32_w]
               rfl
              refine pure_ (i := 10) (N := some 75) (v := ?_) (a' := ?_) #[true, false, true, true, true, false, true, false, false, false, true, false, false, false] rfl rfl (any_of HT_.out (by kernel_rfl)) (fun _ _ _ h => h) (Or.inl ⟨by rfl, ?_⟩) ?_ ?_
              rotate_left
              ·intro w'
               go_simp
               with_reducible rfl
              rotate_left
              ·simp only [Act.put, List.setIfInBounds_toArray, List.set_cons_zero, List.set_cons_succ, i64_w, i32_w]
               rfl
              refine take_ (i := 1) (N := some 66) (v := ?_) (a' := ?_) #[true, true, true, true, true, false, true, false, false, false, true, false, false, false] rfl rfl (take_ofW HT_.out HW_.out (by kernel_rfl)) (fun _ _ _ h => h) (Or.inl ⟨by rfl, ?_⟩) hHeld ?_ ?_
              rotate_left
              ·rintro w' ⟨s0, s1, s2, s3, s4⟩
               go_simp
               with_reducible rfl
              rotate_left
              ·simp only [Act.put, List.setIfInBounds_toArray, List.set_cons_zero, List.set_cons_succ, i64_w, i32_w]
               rfl
              refine take_ (i := 5) (N := some 70) (v := ?_) (a' := ?_) #[true, true, true, true, true, true, true, false, false, false, true, false, false, false] rfl rfl (take_ofW HT_.out HW_.out (by kernel_rfl)) (fun _ _ _ h => h) (Or.inl ⟨by rfl, ?_⟩) hHeld ?_ ?_
              rotate_left
              ·rintro w' ⟨s0, s1, s2, s3, s4⟩
               go_simp
               with_reducible rfl
              rotate_left
              ·simp only [Act.put, List.setIfInBounds_toArray, List.set_cons_zero, List.set_cons_succ, i64_w, i32_w]
               rfl
              refine pure_ (i := 7) (N := some 72) (v := ?_) (a' := ?_) #[true, true, true, true, true, true, true, true, false, false, true, false, false, false] rfl rfl (any_of HT_.out (by kernel_rfl)) (fun _ _ _ h => h) (Or.inl ⟨by rfl, ?_⟩) ?_ ?_
              rotate_left
              ·intro w'
               go_simp
               with_reducible rfl
              rotate_left
              ·simp only [Act.put, List.setIfInBounds_toArray, List.set_cons_zero, List.set_cons_succ, i64_w, i32_w]
               rfl
              refine take_ (i := 8) (N := some 73) (v := ?_) (a' := ?_) #[true, true, true, true, true, true, true, true, true, false, true, false, false, false] rfl rfl (take_ofW HT_.out HW_.out (by kernel_rfl)) (fun _ _ _ h => h) (Or.inl ⟨by rfl, ?_⟩) hHeld ?_ ?_
              rotate_left
              ·rintro w' ⟨s0, s1, s2, s3, s4⟩
               go_simp
               with_reducible rfl
              rotate_left
              ·simp only [Act.put, List.setIfInBounds_toArray, List.set_cons_zero, List.set_cons_succ, i64_w, i32_w]
               rfl
              refine pure_ (i := 9) (N := some 74) (v := ?_) (a' := ?_) #[true, true, true, true, true, true, true, true, true, true, true, false, false, false] rfl rfl (any_of HT_.out (by kernel_rfl)) (fun _ _ _ h => h) (Or.inl ⟨by rfl, ?_⟩) ?_ ?_
              rotate_left
              ·intro w'
               go_simp
               with_reducible rfl
              rotate_left
              ·simp only [Act.put, List.setIfInBounds_toArray, List.set_cons_zero, List.set_cons_succ, i64_w, i32_w]
               rfl
              refine pure_ (i := 11) (N := some 76) (v := ?_) (a' := ?_) #[true, true, true, true, true, true, true, true, true, true, true, true, false, false] rfl rfl (any_of HT_.out (by kernel_rfl)) (fun _ _ _ h => h) (Or.inl ⟨by rfl, ?_⟩) ?_ ?_
              rotate_left
              ·intro w'
               go_simp
               with_reducible rfl
              rotate_left
              ·simp only [Act.put, List.setIfInBounds_toArray, List.set_cons_zero, List.set_cons_succ, i64_w, i32_w]
               rfl
              refine pure_ (i := 12) (N := some 77) (v := ?_) (a' := ?_) #[true, true, true, true, true, true, true, true, true, true, true, true, true, false] rfl rfl (any_of HT_.out (by kernel_rfl)) (fun _ _ _ h => h) (Or.inl ⟨by rfl, ?_⟩) ?_ ?_
              rotate_left
              ·intro w'
               go_simp
               with_reducible rfl
              rotate_left
              ·simp only [Act.put, List.setIfInBounds_toArray, List.set_cons_zero, List.set_cons_succ, i64_w, i32_w]
               rfl
              refine last_ (i := 13) (N := none) #[true, true, true, true, true, true, true, true, true, true, true, true, true, true] rfl rfl (one_of HT_.out (by kernel_rfl)) (by decide) (fun K hK => ?_)
              have hs54 : w53.cell? ⟨gb538, 2, none⟩ = some (.int .i64 x539002_24) := (blk_cell BK538.out 2).trans rfl
              have hfs54 := blk_frozen BK538.out 2
              have hns54_0 := NB537_538.out
              have hms54_0 := NB538_537.out
              refine skip_ (w1 := ?_) (by rfl) rfl ?_ ?_
              rotate_left
              ·go_simp
               rfl
              refine hK.out _ _ ?_
              clear hK K
              refine done_ (done_of HT_.out (by kernel_rfl)) ?_
              try go_wp2
              have n0_ : Aside0 (Kd.S (Kd.slice 3 (Kd.int .i64)) 22 (w53.setCell ⟨gb538, 2, none⟩ (.int .i64 (Int.tmod (wrap64 (x539002_24 * (rd (rd_L1 x0_24 (x539001_1.length : Int)) x14_1))) a2))) w0.heap.size (fun k_ => (P0_ k_ ∨ w.heap.size ≤ k_) ∧ some k_ ≠ (.slice Ao12 x539001_1.length co12 : Value).ownBlock ∧ k_ ≠ gb537 ∧ k_ ≠ gb538) (.slice (some ad550) x0_24.length co26) x0_24) := ⟨by (with_reducible repeat (first | apply Kd.S_alloc | apply Kd.S_drewN | apply Kd.S_drew)); exact Kd.S_mono (Kd.S_far (p := ⟨gb538, 2, none⟩) (Kd.S_mono HO_0.out (fun k_ hk => (⟨hk, hk.2.2.2⟩ : _ ∧ k_ ≠ gb538))) (fun _ hk => hk.2) (.int .i64 (Int.tmod (wrap64 (x539002_24 * (rd (rd_L1 x0_24 (x539001_1.length : Int)) x14_1))) a2))) (fun _ hk => ⟨hk.1.1, ⟨hk.1.2.1, ⟨hk.1.2.2.1, hk.1.2.2.2⟩⟩⟩)⟩
              have n1_ : Aside0 (Kd.R (Kd.int .i64) 3 (w53.setCell ⟨gb538, 2, none⟩ (.int .i64 (Int.tmod (wrap64 (x539002_24 * (rd (rd_L1 x0_24 (x539001_1.length : Int)) x14_1))) a2))) w0.heap.size (fun k_ => (P0_ k_ ∨ w.heap.size ≤ k_)) (.slice Ao12 x539001_1.length co12) x539001_1) := ⟨by (with_reducible repeat (first | apply Kd.R_alloc | apply Kd.R_drewN | apply Kd.R_drew)); exact Kd.R_mono (Kd.R_far (p := ⟨gb538, 2, none⟩) (Kd.R_types HO_539001.out BK538.out (by decide)) (fun _ hk => hk.2) (.int .i64 (Int.tmod (wrap64 (x539002_24 * (rd (rd_L1 x0_24 (x539001_1.length : Int)) x14_1))) a2))) (fun _ hk => hk.1)⟩
              have n2_ : Aside0 (Kd.R (Kd.int .i64) 3 (w53.setCell ⟨gb538, 2, none⟩ (.int .i64 (Int.tmod (wrap64 (x539002_24 * (rd (rd_L1 x0_24 (x539001_1.length : Int)) x14_1))) a2))) w0.heap.size (fun k_ => (P0_ k_ ∨ w.heap.size ≤ k_) ∧ some k_ ≠ (.slice (some ad550) x0_24.length co26 : Value).ownBlock ∧ some k_ ≠ (.slice Ao12 x539001_1.length co12 : Value).ownBlock ∧ k_ ≠ gb537 ∧ k_ ≠ gb538) (.slice (some ad551) (rd_L1 x0_24 (x539001_1.length : Int)).length c550_0) (rd_L1 x0_24 (x539001_1.length : Int))) := ⟨by (with_reducible repeat (first | apply Kd.R_alloc | apply Kd.R_drewN | apply Kd.R_drew)); exact Kd.R_mono (Kd.R_far (p := ⟨gb538, 2, none⟩) (Kd.R_mono HL550_0.out (fun k_ hk => (⟨hk, hk.1.2.2.2⟩ : _ ∧ k_ ≠ gb538))) (fun _ hk => hk.2) (.int .i64 (Int.tmod (wrap64 (x539002_24 * (rd (rd_L1 x0_24 (x539001_1.length : Int)) x14_1))) a2))) (fun _ hk => ⟨hk.1.1.1, ⟨hk.1.2, ⟨hk.1.1.2.1, ⟨hk.1.1.2.2.1, hk.1.1.2.2.2⟩⟩⟩⟩)⟩
              have n3_ : Aside0 ((w53.setCell ⟨gb538, 2, none⟩ (.int .i64 (Int.tmod (wrap64 (x539002_24 * (rd (rd_L1 x0_24 (x539001_1.length : Int)) x14_1))) a2))).heap[gb537]? = some (.cells #[.slice none 0 0, .slice none 0 0, .int .i64 0] 60 (0, 0))) := ⟨by (with_reducible repeat (first | refine blk_drewN ?_ _ | refine blk_drew ?_ | refine blk_alloc ?_ _)); refine blk_far ?_ NB537_538.out _; (with_reducible repeat (first | refine blk_drewN ?_ _ | refine blk_drew ?_ | refine blk_alloc ?_ _)); exact BK537.out⟩
              have n4_ : Aside0 ((w53.setCell ⟨gb538, 2, none⟩ (.int .i64 (Int.tmod (wrap64 (x539002_24 * (rd (rd_L1 x0_24 (x539001_1.length : Int)) x14_1))) a2))).heap[gb538]? = some (.cells #[.slice none 0 0, .slice Ao12 x539001_1.length co12, .int .i64 (Int.tmod (wrap64 (x539002_24 * (rd (rd_L1 x0_24 (x539001_1.length : Int)) x14_1))) a2)] 60 (0, 0))) := ⟨by (with_reducible repeat (first | refine blk_drewN ?_ _ | refine blk_drew ?_ | refine blk_alloc ?_ _)); refine blk_put (cs := #[.slice none 0 0, .slice Ao12 x539001_1.length co12, .int .i64 x539002_24]) ?_ 2 _ rfl; (with_reducible repeat (first | refine blk_drewN ?_ _ | refine blk_drew ?_ | refine blk_alloc ?_ _)); exact BK538.out⟩
              have n5_ : Aside0 (Kept w (w53.setCell ⟨gb538, 2, none⟩ (.int .i64 (Int.tmod (wrap64 (x539002_24 * (rd (rd_L1 x0_24 (x539001_1.length : Int)) x14_1))) a2))) (fun k_ => P0_ k_)) := ⟨by repeat (first | (with_reducible first | exact HK.out | apply Kept.alloc | apply Kept.drewN | apply Kept.drew | refine Kept.setCell ?_ (.inr GW537.out) _ | refine Kept.setCell ?_ (.inr GW538.out) _) | exact HK.out)⟩
              have n6_ : Aside0 (Below w0.heap.size w0 (w53.setCell ⟨gb538, 2, none⟩ (.int .i64 (Int.tmod (wrap64 (x539002_24 * (rd (rd_L1 x0_24 (x539001_1.length : Int)) x14_1))) a2)))) := ⟨by repeat (first | (with_reducible first | exact HB.out | apply below_alloc | apply pw_below_drewN | apply below_drew1 | refine below_set ?_ GE537.out | refine below_set ?_ GE538.out) | exact HB.out)⟩
              (try clear HO_0);(try clear HO_539001);(try clear HL550_0);(try clear BK537);(try clear BK538);(try clear HK);(try clear HB)
              generalize (w53.setCell ⟨gb538, 2, none⟩ (.int .i64 (Int.tmod (wrap64 (x539002_24 * (rd (rd_L1 x0_24 (x539001_1.length : Int)) x14_1))) a2))) = w55 at n0_ n1_ n2_ n3_ n4_ n5_ n6_ ⊢
              have HO_0 := n0_
              have HO_539001 := n1_
              have HL550_0 := n2_
              have BK537 := n3_
              have BK538 := n4_
              have HK := n5_
              have HB := n6_
              clear n0_ n1_ n2_ n3_ n4_ n5_ n6_
              have n0_ := Aside0.mk (Kd.S_drew HO_0.out)
              have n1_ := Aside0.mk (Kd.R_drew HO_539001.out)
              have n2_ := Aside0.mk (Kd.R_drew HL550_0.out)
              have n3_ := Aside0.mk (blk_drew BK537.out)
              have n4_ := Aside0.mk (blk_drew BK538.out)
              have n5_ := Aside0.mk (Kept.drew HK.out)
              have n6_ := Aside0.mk (below_drew1 HB.out)
              clear HO_0;clear HO_539001;clear HL550_0;clear BK537;clear BK538;clear HK;clear HB
              have HO_0 := n0_
              have HO_539001 := n1_
              have HL550_0 := n2_
              have BK537 := n3_
              have BK538 := n4_
              have HK := n5_
              have HB := n6_
              clear n0_ n1_ n2_ n3_ n4_ n5_ n6_
              have p552 : 0 ≤ ((x539001_1.length : Int) : Int) := of_decide_eq_true (by first | (with_reducible assumption) | assumption)
              have q552 : (x539001_1.length : Int) < (x0_24.length : Int) := of_decide_eq_true (by first | (with_reducible assumption) | assumption)
              obtain ⟨ad552, A552_0, c552_0, e552, hx552_0, hl552_0, hi552_0⟩ := at_L1 (Kd.S_reads' HO_0.out).2.2 (x539001_1.length : Int) p552 q552
              obtain rfl : ad550 = ad552 := (by injection e552)
              obtain ⟨ce552, hce552, hMe552, hcc552⟩ := Kd.S_get HO_0.out [] (x539001_1.length : Int) p552 (by first | exact q552 | exact of_decide_eq_true (by first | (with_reducible assumption) | assumption) | (have e_ := (Kd.S_reads' HO_0.out).1; omega))
              obtain ⟨ve552_0, rfl, ge552_0⟩ := hMe552
              have hv552_0 := hcc552 0 _ rfl
              rw [Nat.add_zero, show ((Kd.slice 3 (Kd.int .i64))).sz = 1 from rfl, Nat.mul_one] at hv552_0
              replace hv552_0 := Option.some.inj (hv552_0.symm.trans hx552_0)
              rw [hv552_0] at ge552_0
              have HL552_0 := Aside0.mk (show Kd.R (Kd.int .i64) 3 _ w0.heap.size _ _ (rd_L1 x0_24 (x539001_1.length : Int)) from ge552_0)
              clear hv552_0 ge552_0;clear hcc552 hce552
              have HR552_0 := Aside0.mk hi552_0
              have HC552_0 := Aside0.mk hl552_0
              clear hi552_0 hl552_0
              (try simp only [Go.IntWalk.toNatUp] at hx552_0)
              (try simp only [hl0_24] at p552)
              (try simp only [hl0_24] at q552)
              (try simp only [hl0_24] at hx552_0)
              replace p552 := eq_true p552
              replace q552 := eq_true q552
              have p553 : 0 ≤ ((x539001_1.length : Int) : Int) := of_decide_eq_true (by first | (with_reducible assumption) | assumption)
              have q553 : (x539001_1.length : Int) < (x0_24.length : Int) := of_decide_eq_true (by first | (with_reducible assumption) | assumption)
              obtain ⟨ad553, A553_0, c553_0, e553, hx553_0, hl553_0, hi553_0⟩ := at_L1 (Kd.S_reads' HO_0.out).2.2 (x539001_1.length : Int) p553 q553
              obtain rfl : ad550 = ad553 := (by injection e553)
              obtain ⟨ce553, hce553, hMe553, hcc553⟩ := Kd.S_get HO_0.out [] (x539001_1.length : Int) p553 (by first | exact q553 | exact of_decide_eq_true (by first | (with_reducible assumption) | assumption) | (have e_ := (Kd.S_reads' HO_0.out).1; omega))
              obtain ⟨ve553_0, rfl, ge553_0⟩ := hMe553
              have hv553_0 := hcc553 0 _ rfl
              rw [Nat.add_zero, show ((Kd.slice 3 (Kd.int .i64))).sz = 1 from rfl, Nat.mul_one] at hv553_0
              replace hv553_0 := Option.some.inj (hv553_0.symm.trans hx553_0)
              rw [hv553_0] at ge553_0
              have HL553_0 := Aside0.mk (show Kd.R (Kd.int .i64) 3 _ w0.heap.size _ _ (rd_L1 x0_24 (x539001_1.length : Int)) from ge553_0)
              clear hv553_0 ge553_0;clear hcc553 hce553
              have HR553_0 := Aside0.mk hi553_0
              have HC553_0 := Aside0.mk hl553_0
              clear hi553_0 hl553_0
              (try simp only [Go.IntWalk.toNatUp] at hx553_0)
              (try simp only [hl0_24] at p553)
              (try simp only [hl0_24] at q553)
              (try simp only [hl0_24] at hx553_0)
              replace p553 := eq_true p553
              replace q553 := eq_true q553
              have ea_ := Option.some.inj (hx552_0.symm.trans hx553_0)
              injection ea_ with ea_ en_ ec_
              subst ea_
              subst ec_
              clear en_
              have p554 : 0 ≤ (x14_1 : Int) := of_decide_eq_true (by first | (with_reducible assumption) | assumption)
              have q554 : x14_1 < ((rd_L1 x0_24 (x539001_1.length : Int)).length : Int) := of_decide_eq_true (by first | (with_reducible assumption) | assumption)
              obtain ⟨ad554, e554, hx554_0⟩ := Kd.at_int (by repeat (first | (with_reducible exact HR553_0.out) | (with_reducible refine Kd.C_alloc ?_ _) | (with_reducible refine Kd.C_drewN ?_ _) | (with_reducible refine Kd.C_drew ?_) | exact HR553_0.out)) x14_1 p554 q554
              cases e554
              replace p554 := eq_true p554
              replace q554 := eq_true q554
              refine start_ (n := 19) (S := fun w' => w'.cell? (ad550.add x539001_1.length) = some (.slice (some ad554) (rd_L1 x0_24 (x539001_1.length : Int)).length c552_0) ∧ w'.cell? (ad550.add x539001_1.length) = some (.slice (some ad554) (rd_L1 x0_24 (x539001_1.length : Int)).length c552_0) ∧ w'.cell? (ad554.add (x14_1).toNat) = some (.int .i64 (rd (rd_L1 x0_24 (x539001_1.length : Int)) x14_1))) (ds := [18]) #[false, false, false, false, false, false, false, false, false, false, false, false, false, false, false, false, false, false, false] (by kernel_rfl) rfl rfl ⟨hx552_0, hx553_0, hx554_0⟩ (fun hHeld => ?_); refine with_tabW impl_eliminate.tab15 impl_eliminate.bits15 (fun HT_ HW_ => ?_)
              generalize w55.drew = w56 at HO_0 HO_539001 HL550_0 BK537 BK538 HK HB HL552_0 HL553_0 HR552_0 HR553_0 hx552_0 hx553_0 hx554_0 hHeld ⊢
              refine pure_ (i := 0) (N := some 78) (v := ?_) (a' := ?_) #[true, false, false, false, false, false, false, false, false, false, false, false, false, false, false, false, false, false, false] rfl rfl (any_of HT_.out (by kernel_rfl)) (fun _ _ _ h => h) (Or.inl ⟨by rfl, ?_⟩) ?_ ?_
              rotate_left
              ·intro w'
               go_simp
               with_reducible rfl
              rotate_left
              ·simp only [Act.put, List.setIfInBounds_toArray, List.set_cons_zero, List.set_cons_succ, i64_w, i32_w]
               rfl
              refine pure_ (i := 1) (N := some 79) (v := ?_) (a' := ?_) #[true, true, false, false, false, false, false, false, false, false, false, false, false, false, false, false, false, false, false] rfl rfl (any_of HT_.out (by kernel_rfl)) (fun _ _ _ h => h) (Or.inl ⟨by rfl, ?_⟩) ?_ ?_
              rotate_left
              ·intro w'
               go_simp
               with_reducible rfl
              rotate_left
              ·simp only [Act.put, List.setIfInBounds_toArray, List.set_cons_zero, List.set_cons_succ, i64_w, i32_w]
               rfl
              refine pure_ (i := 2) (N := some 80) (v := ?_) (a' := ?_) #[true, true, true, false, false, false, false, false, false, false, false, false, false, false, false, false, false, false, false] rfl rfl (any_of HT_.out (by kernel_rfl)) (fun _ _ _ h => h) (Or.inl ⟨by rfl, ?_⟩) ?_ ?_
              rotate_left
              ·intro w'
               go_simp
               with_reducible rfl
              rotate_left
              ·simp only [Act.put, List.setIfInBounds_toArray, List.set_cons_zero, List.set_cons_succ, i64_w, i32_w]
               rfl
              refine pure_ (i := 3) (N := some 81) (v := ?_) (a' := ?_) #[true, true, true, true, false, false, false, false, false, false, false, false, false, false, false, false, false, false, false] rfl rfl (any_of HT_.out (by kernel_rfl)) (fun _ _ _ h => h) (Or.inl ⟨by rfl, ?_⟩) ?_ ?_
              rotate_left
              ·intro w'
               go_simp
               with_reducible rfl
              rotate_left
              ·simp only [Act.put, List.setIfInBounds_toArray, List.set_cons_zero, List.set_cons_succ, i64_w, i32_w]
               rfl
              refine pure_ (i := 4) (N := some 82) (v := ?_) (a' := ?_) #[true, true, true, true, true, false, false, false, false, false, false, false, false, false, false, false, false, false, false] rfl rfl (any_of HT_.out (by kernel_rfl)) (fun _ _ _ h => h) (Or.inl ⟨by rfl, ?_⟩) ?_ ?_
              rotate_left
              ·intro w'
               go_simp
               with_reducible rfl
              rotate_left
              ·simp only [Act.put, List.setIfInBounds_toArray, List.set_cons_zero, List.set_cons_succ, i64_w, i32_w]
               rfl
              refine pure_ (i := 6) (N := some 84) (v := ?_) (a' := ?_) #[true, true, true, true, true, false, true, false, false, false, false, false, false, false, false, false, false, false, false] rfl rfl (any_of HT_.out (by kernel_rfl)) (fun _ _ _ h => h) (Or.inl ⟨by rfl, ?_⟩) ?_ ?_
              rotate_left
              ·intro w'
               go_simp
               with_reducible rfl
              rotate_left
              ·simp only [Act.put, List.setIfInBounds_toArray, List.set_cons_zero, List.set_cons_succ, i64_w, i32_w]
               rfl
              refine pure_ (i := 7) (N := some 85) (v := ?_) (a' := ?_) #[true, true, true, true, true, false, true, true, false, false, false, false, false, false, false, false, false, false, false] rfl rfl (any_of HT_.out (by kernel_rfl)) (fun _ _ _ h => h) (Or.inl ⟨by rfl, ?_⟩) ?_ ?_
              rotate_left
              ·intro w'
               go_simp
               with_reducible rfl
              rotate_left
              ·simp only [Act.put, List.setIfInBounds_toArray, List.set_cons_zero, List.set_cons_succ, i64_w, i32_w]
               rfl
              refine pure_ (i := 8) (N := some 86) (v := ?_) (a' := ?_) #[true, true, true, true, true, false, true, true, true, false, false, false, false, false, false, false, false, false, false] rfl rfl (any_of HT_.out (by kernel_rfl)) (fun _ _ _ h => h) (Or.inl ⟨by rfl, ?_⟩) ?_ ?_
              rotate_left
              ·intro w'
               go_simp
               with_reducible rfl
              rotate_left
              ·simp only [Act.put, List.setIfInBounds_toArray, List.set_cons_zero, List.set_cons_succ, i64_w, i32_w]
               rfl
              refine pure_ (i := 10) (N := some 88) (v := ?_) (a' := ?_) #[true, true, true, true, true, false, true, true, true, false, true, false, false, false, false, false, false, false, false] rfl rfl (any_of HT_.out (by kernel_rfl)) (fun _ _ _ h => h) (Or.inl ⟨by rfl, ?_⟩) ?_ ?_
              rotate_left
              ·intro w'
               go_simp
               with_reducible rfl
              rotate_left
              ·simp only [Act.put, List.setIfInBounds_toArray, List.set_cons_zero, List.set_cons_succ, i64_w, i32_w]
               rfl
              refine pure_ (i := 13) (N := some 91) (v := ?_) (a' := ?_) #[true, true, true, true, true, false, true, true, true, false, true, false, false, true, false, false, false, false, false] rfl rfl (any_of HT_.out (by kernel_rfl)) (fun _ _ _ h => h) (Or.inl ⟨by rfl, ?_⟩) ?_ ?_
              rotate_left
              ·intro w'
               go_simp
               with_reducible rfl
              rotate_left
              ·simp only [Act.put, List.setIfInBounds_toArray, List.set_cons_zero, List.set_cons_succ, i64_w, i32_w]
               rfl
              refine pure_ (i := 15) (N := some 93) (v := ?_) (a' := ?_) #[true, true, true, true, true, false, true, true, true, false, true, false, false, true, false, true, false, false, false] rfl rfl (any_of HT_.out (by kernel_rfl)) (fun _ _ _ h => h) (Or.inl ⟨by rfl, ?_⟩) ?_ ?_
              rotate_left
              ·intro w'
               go_simp
               with_reducible rfl
              rotate_left
              ·simp only [Act.put, List.setIfInBounds_toArray, List.set_cons_zero, List.set_cons_succ, i64_w, i32_w]
               rfl
              refine take_ (i := 5) (N := some 83) (v := ?_) (a' := ?_) #[true, true, true, true, true, true, true, true, true, false, true, false, false, true, false, true, false, false, false] rfl rfl (take_ofW HT_.out HW_.out (by kernel_rfl)) (fun _ _ _ h => h) (Or.inl ⟨by rfl, ?_⟩) hHeld ?_ ?_
              rotate_left
              ·rintro w' ⟨s0, s1, s2⟩
               go_simp
               with_reducible rfl
              rotate_left
              ·simp only [Act.put, List.setIfInBounds_toArray, List.set_cons_zero, List.set_cons_succ, i64_w, i32_w]
               rfl
              refine take_ (i := 9) (N := some 87) (v := ?_) (a' := ?_) #[true, true, true, true, true, true, true, true, true, true, true, false, false, true, false, true, false, false, false] rfl rfl (take_ofW HT_.out HW_.out (by kernel_rfl)) (fun _ _ _ h => h) (Or.inl ⟨by rfl, ?_⟩) hHeld ?_ ?_
              rotate_left
              ·rintro w' ⟨s0, s1, s2⟩
               go_simp
               with_reducible rfl
              rotate_left
              ·simp only [Act.put, List.setIfInBounds_toArray, List.set_cons_zero, List.set_cons_succ, i64_w, i32_w]
               rfl
              refine pure_ (i := 11) (N := some 89) (v := ?_) (a' := ?_) #[true, true, true, true, true, true, true, true, true, true, true, true, false, true, false, true, false, false, false] rfl rfl (any_of HT_.out (by kernel_rfl)) (fun _ _ _ h => h) (Or.inl ⟨by rfl, ?_⟩) ?_ ?_
              rotate_left
              ·intro w'
               go_simp
               with_reducible rfl
              rotate_left
              ·simp only [Act.put, List.setIfInBounds_toArray, List.set_cons_zero, List.set_cons_succ, i64_w, i32_w]
               rfl
              refine take_ (i := 12) (N := some 90) (v := ?_) (a' := ?_) #[true, true, true, true, true, true, true, true, true, true, true, true, true, true, false, true, false, false, false] rfl rfl (take_ofW HT_.out HW_.out (by kernel_rfl)) (fun _ _ _ h => h) (Or.inl ⟨by rfl, ?_⟩) hHeld ?_ ?_
              rotate_left
              ·rintro w' ⟨s0, s1, s2⟩
               go_simp
               with_reducible rfl
              rotate_left
              ·simp only [Act.put, List.setIfInBounds_toArray, List.set_cons_zero, List.set_cons_succ, i64_w, i32_w]
               rfl
              refine one_ (i := 14) (N := some 92) #[true, true, true, true, true, true, true, true, true, true, true, true, true, true, true, true, false, false, false] rfl rfl (one_of HT_.out (by kernel_rfl)) (by decide) (fun K hK => ?_)
              refine goes_ Try.func98 (by kernel_rfl) rfl #[.int .i64 (rd (rd_L1 x0_24 (x539001_1.length : Int)) x14_1), .int .i64 a2] (by rfl) rfl rfl (by (try simp only [List.map_toArray, List.map_cons, List.map_nil]); first | done | rfl | (simp only [List.length_drop, List.length_take]; rfl)) ?_
              with_reducible refine (impl_inverse.calls kj24 (rd (rd_L1 x0_24 (x539001_1.length : Int)) x14_1) a2 t555 _ A50.out).mono ?_
              rintro e w' ⟨rfl, ⟨nd, rfl⟩⟩
              refine ⟨_, rfl, ?_⟩
              refine hK.out _ _ ⟨hHeld.1, hHeld.2.1, hHeld.2.2⟩ (fun hHeld => ?_)
              clear hK K
              refine norm_ (a' := ?_) ?_ ?_
              rotate_left
              ·show Act.put _ (some 92) _ = _
               simp only [Act.put, List.setIfInBounds_toArray, List.set_cons_zero, List.set_cons_succ, i64_w, i32_w]
               rfl
              refine one_ (i := 16) (N := some 94) #[true, true, true, true, true, true, true, true, true, true, true, true, true, true, true, true, true, false, false] rfl rfl (one_of HT_.out (by kernel_rfl)) (by decide) (fun K hK => ?_)
              refine goes_ Try.func90 (by kernel_rfl) rfl #[.slice (some ad554) (rd_L1 x0_24 (x539001_1.length : Int)).length c552_0, .int .i64 t555, .int .i64 a2] (by rfl) rfl rfl (by (try simp only [List.map_toArray, List.map_cons, List.map_nil]); first | done | rfl | (simp only [List.length_drop, List.length_take]; rfl)) ?_
              with_reducible refine (impl_scaled.calls kj24 _ _ (rd_L1 x0_24 (x539001_1.length : Int)) t555 a2 t556 _ ?side1 ?side2 A51.out).mono ?_
              (case side1 => repeat (first | exact (by repeat (first | (with_reducible exact HR552_0.out) | (with_reducible refine Kd.C_alloc ?_ _) | (with_reducible refine Kd.C_drewN ?_ _) | (with_reducible refine Kd.C_drew ?_) | exact HR552_0.out)) | (with_reducible refine Kd.C_alloc ?_ _) | (with_reducible refine Kd.C_drewN ?_ _) | (with_reducible refine Kd.C_drew ?_)))
              (case side2 => exact HC552_0.out)
              rintro e w57 ⟨v557, rfl, ho0, hb⟩
              obtain ⟨Av557, cv557, ev557⟩ := Kd.R_slice ho0
              subst ev557
              have HS0_ := (hb.cell (World.block_lt_of_cell? _ _ (hHeld.1))).trans (hHeld.1)
              have HS1_ := (hb.cell (World.block_lt_of_cell? _ _ (hHeld.2.1))).trans (hHeld.2.1)
              have HS2_ := (hb.cell (World.block_lt_of_cell? _ _ (hHeld.2.2))).trans (hHeld.2.2)
              refine ⟨_, rfl, ?_⟩
              have n0_ := Aside0.mk (Kd.S_elder' (by (with_reducible repeat (first | apply Kd.S_alloc | apply Kd.S_drewN | apply Kd.S_drew)); exact HO_0.out) (Kd.R_base ho0) hb)
              have n1_ := Aside0.mk (Kd.R_elder' (by (with_reducible repeat (first | apply Kd.R_alloc | apply Kd.R_drewN | apply Kd.R_drew)); exact HO_539001.out) (Kd.R_base ho0) hb)
              have n2_ := Aside0.mk (Kd.R_elder' (by (with_reducible repeat (first | apply Kd.R_alloc | apply Kd.R_drewN | apply Kd.R_drew)); exact HL550_0.out) (Kd.R_base ho0) hb)
              have n3_ := Aside0.mk (Kd.R_elder' (by (with_reducible repeat (first | apply Kd.R_alloc | apply Kd.R_drewN | apply Kd.R_drew)); exact HL552_0.out) (Kd.R_base ho0) hb)
              have n4_ := Aside0.mk (Kd.R_elder' (by (with_reducible repeat (first | apply Kd.R_alloc | apply Kd.R_drewN | apply Kd.R_drew)); exact HL553_0.out) (Kd.R_base ho0) hb)
              have n5_ := Aside0.mk (Kd.R_lower (Kd.R_new' (Kd.R_newM (M := fun k_ => (P0_ k_ ∨ w.heap.size ≤ k_)) ho0 (by first | exact HK.out.1 | exact (show Kept w _ (fun k_ => P0_ k_) from by repeat (first | (with_reducible first | exact HK.out | apply Kept.alloc | apply Kept.drewN | apply Kept.drew | refine Kept.setCell ?_ (.inr GW537.out) _ | refine Kept.setCell ?_ (.inr GW538.out) _) | exact HK.out)).1) (fun k_ h_ => .inr h_)) (Kd.R_lt (by (with_reducible repeat (first | apply Kd.R_alloc | apply Kd.R_drewN | apply Kd.R_drew)); exact HO_539001.out))) (below_size (by repeat (first | (with_reducible first | exact HB.out | apply below_alloc | apply pw_below_drewN | apply below_drew1 | refine below_set ?_ GE537.out | refine below_set ?_ GE538.out) | exact HB.out))))
              have n6_ := Aside0.mk (blk_below (g := gb537) (o := .cells #[.slice none 0 0, .slice none 0 0, .int .i64 0] 60 (0, 0)) (by (with_reducible repeat (first | refine blk_drewN ?_ _ | refine blk_drew ?_ | refine blk_alloc ?_ _)); exact BK537.out) hb)
              have n7_ := Aside0.mk (blk_below (g := gb538) (o := .cells #[.slice none 0 0, .slice Ao12 x539001_1.length co12, .int .i64 (Int.tmod (wrap64 (x539002_24 * (rd (rd_L1 x0_24 (x539001_1.length : Int)) x14_1))) a2)] 60 (0, 0)) (by (with_reducible repeat (first | refine blk_drewN ?_ _ | refine blk_drew ?_ | refine blk_alloc ?_ _)); exact BK538.out) hb)
              have n8_ := Aside0.mk (Kd.C_below (by repeat (first | (with_reducible exact HR552_0.out) | (with_reducible exact Kd.C_drewN HR552_0.out _) | (with_reducible refine Kd.C_alloc ?_ _) | (with_reducible refine Kd.C_drewN ?_ _) | (with_reducible refine Kd.C_drew ?_) | exact HR552_0.out)) hb)
              have n9_ := Aside0.mk (Kd.C_below (by repeat (first | (with_reducible exact HR553_0.out) | (with_reducible exact Kd.C_drewN HR553_0.out _) | (with_reducible refine Kd.C_alloc ?_ _) | (with_reducible refine Kd.C_drewN ?_ _) | (with_reducible refine Kd.C_drew ?_) | exact HR553_0.out)) hb)
              have n10_ := Aside0.mk (Kept.below (S := (fun k_ => P0_ k_)) (by repeat (first | (with_reducible first | exact HK.out | apply Kept.alloc | apply Kept.drewN | apply Kept.drew | refine Kept.setCell ?_ (.inr GW537.out) _ | refine Kept.setCell ?_ (.inr GW538.out) _) | exact HK.out)) hb)
              have n11_ := Aside0.mk (below_step (by repeat (first | (with_reducible first | exact HB.out | apply below_alloc | apply pw_below_drewN | apply below_drew1 | refine below_set ?_ GE537.out | refine below_set ?_ GE538.out) | exact HB.out)) hb)
              clear HO_0;clear HO_539001;clear HL550_0;clear HL552_0;clear HL553_0;clear BK537;clear BK538;clear HR552_0;clear HR553_0;clear HK;clear HB
              have HO_0 := n0_
              have HO_539001 := n1_
              have HL550_0 := n2_
              have HL552_0 := n3_
              have HL553_0 := n4_
              have HO558 := n5_
              have BK537 := n6_
              have BK538 := n7_
              have HR552_0 := n8_
              have HR553_0 := n9_
              have HK := n10_
              have HB := n11_
              clear n0_ n1_ n2_ n3_ n4_ n5_ n6_ n7_ n8_ n9_ n10_ n11_;(try clear hb);(try clear hb2);(try clear hk);(try clear hi);(try clear ho0)
              have p52 : 0 ≤ ((x539001_1.length : Int) : Int) := of_decide_eq_true (by first | (with_reducible assumption) | assumption)
              have q52 : ((x539001_1.length : Int) : Int) < ((x0_24.length : Int) : Int) := of_decide_eq_true (by first | (with_reducible assumption) | assumption)
              obtain ⟨go52, co52, eo52, gb52, gl52, cl52, HG52⟩ := Kd.S_form HO_0.out (by omega)
              (first | cases eo52 | (injection eo52 with ea_ en_ ec_; (first | subst ea_ | (injection ea_ with ea_; subst ea_)); subst ec_; clear en_))
              have GB52 := Aside0.mk gb52
              have GG52 := Aside0.mk HG52
              clear gb52 gl52 HG52
              have HMgo52 := Aside0.mk (show (P0_ go52 ∨ w.heap.size ≤ go52) from (by have h_ := (Kd.S_R HO_0.out).1 _ rfl; first | exact h_.1 | exact h_.1.1 | exact h_.1.1.1 | exact h_.1.1.1.1))
              (first | simp only [add_plain] at hx550_0 | skip)
              (first | simp only [add_plain] at hx552_0 | skip)
              (first | simp only [add_plain] at hx553_0 | skip)
              obtain ⟨ce52, hcl52, hM52, hcc52, hfr52⟩ := S_elemR HO_0.out [] ((x539001_1.length : Int) : Int) p52 q52
              obtain ⟨ve52_0, rfl, ge52_0⟩ := hM52
              obtain ⟨ua52_0, uc52_0, rfl⟩ := Kd.R_slice ge52_0
              have hx52_0 := hcc52 0 _ rfl
              have hf52_0 := hfr52 0
              (try simp only [Int.toNat_natCast] at hf52_0)
              (try simp only [Int.toNat_natCast] at hx52_0)
              (try simp only [show ((Kd.slice 3 (Kd.int .i64))).sz = 1 from rfl, Nat.mul_one, Nat.add_zero] at hx52_0)
              (try simp only [show ((Kd.slice 3 (Kd.int .i64))).sz = 1 from rfl, Nat.mul_one, Nat.add_zero] at hf52_0)
              clear hcl52 hcc52 hfr52
              replace p52 := eq_true p52
              replace q52 := eq_true q52
              have HX58 := Aside0.mk (show Kd.S (Kd.slice 3 (Kd.int .i64)) 22 _ w0.heap.size (fun k_ => (P0_ k_ ∨ w.heap.size ≤ k_) ∧ some k_ ≠ (.slice Ao12 x539001_1.length co12 : Value).ownBlock ∧ some k_ ≠ ((.slice Av557 t556.length cv557) : Value).ownBlock ∧ k_ ≠ gb537 ∧ k_ ≠ gb538) (.slice (some ⟨go52, 0, none⟩) x0_24.length co26) x0_24 from (Kd.S_mono (HO_0.out) (fun k_ hk => ⟨hk.1.1, ⟨hk.1.2.1, ⟨hk.2, ⟨hk.1.2.2.1, hk.1.2.2.2⟩⟩⟩⟩)))
              obtain ⟨ce58, hcl58, hM58, hcc58, hfr58⟩ := S_elemR HX58.out [] ((x539001_1.length : Int) : Int) (of_decide_eq_true (by first | (with_reducible assumption) | assumption)) (by have h_ : ((x539001_1.length : Int) : Int) < ((x0_24.length : Int) : Int) := of_decide_eq_true (by first | (with_reducible assumption) | assumption); first | exact h_ | (have e_ := (Kd.S_reads' HO_0.out).1; omega) | simpa using h_)
              obtain ⟨ve58_0, rfl, ge58_0⟩ := hM58
              obtain ⟨ua58_0, uc58_0, rfl⟩ := Kd.R_slice ge58_0
              have ht_HP58 := Kd.R_types (Kd.R_types (Kd.R_apart' (HO558.out) (Kd.S_typed HO_0.out) (by decide)) BK537.out (by decide)) BK538.out (by decide)
              have RR_ := (Kd.R_mono (ok' := (fun k_ => ((fun k_ => (P0_ k_ ∨ w.heap.size ≤ k_) ∧ some k_ ≠ (.slice Ao12 x539001_1.length co12 : Value).ownBlock ∧ k_ ≠ gb537 ∧ k_ ≠ gb538)) k_ ∧ k_ ≠ go52)) ht_HP58 (fun k_ hk => ⟨⟨hk.1.1.1.1.1, ⟨hk.1.1.1.2, ⟨hk.1.2, hk.2⟩⟩⟩, fun e_ => (hk.1.1.2) (by rw [e_]; rfl)⟩))
              have HP_ : True := trivial
              have HP58 := (S_put (ok := fun k_ => (P0_ k_ ∨ w.heap.size ≤ k_) ∧ some k_ ≠ (.slice Ao12 x539001_1.length co12 : Value).ownBlock ∧ k_ ≠ gb537 ∧ k_ ≠ gb538) (okg := fun k_ => some k_ = ((.slice Av557 t556.length cv557) : Value).ownBlock) (Kd.S_mono HX58.out (fun k_ hk => ⟨by obtain ⟨a1, a2, a3, a4⟩ := hk; first | exact ⟨a1, a2, a4⟩ | (obtain ⟨a4, a5⟩ := a4; exact ⟨a1, a2, a4, a5⟩), fun e_ => hk.2.2.1 e_⟩)) [] ((x539001_1.length : Int) : Int) (of_decide_eq_true (by first | (with_reducible assumption) | assumption)) (by have h_ : ((x539001_1.length : Int) : Int) < ((x0_24.length : Int) : Int) := of_decide_eq_true (by first | (with_reducible assumption) | assumption); first | exact h_ | (have e_ := (Kd.S_reads' HO_0.out).1; omega) | simpa using h_) (seg := [(.slice Av557 t556.length cv557)]) rfl (x' := t556) (Kd.M_row (Kd.R_tight rfl RR_)) (fun k_ e_ => RR_.1 k_ e_.symm)).1
              clear RR_ HP_
              (try simp only [show ((Kd.slice 3 (Kd.int .i64))).sz = 1 from rfl, Nat.mul_one, Nat.add_zero] at HP58)
              rw [← Ny559.out] at HP58
              (try simp only [Int.toNat_natCast] at HP58)
              have HQ58 := Aside0.mk HP58
              clear hcl58 hcc58 hfr58 HP58
              refine hK.out _ _ ⟨HS0_, HS1_, HS2_⟩ (fun hHeld => ?_)
              clear hK K
              refine norm_ (a' := ?_) ?_ ?_
              rotate_left
              ·show Act.put _ (some 94) _ = _
               simp only [Act.put, List.setIfInBounds_toArray, List.set_cons_zero, List.set_cons_succ, i64_w, i32_w]
               rfl
              refine pure_ (i := 17) (N := some 95) (v := ?_) (a' := ?_) #[true, true, true, true, true, true, true, true, true, true, true, true, true, true, true, true, true, true, false] rfl rfl (any_of HT_.out (by kernel_rfl)) (fun _ _ _ h => h) (Or.inl ⟨by rfl, ?_⟩) ?_ ?_
              rotate_left
              ·intro w'
               go_simp
               with_reducible rfl
              rotate_left
              ·simp only [Act.put, List.setIfInBounds_toArray, List.set_cons_zero, List.set_cons_succ, i64_w, i32_w]
               rfl
              refine last_ (i := 18) (N := none) #[true, true, true, true, true, true, true, true, true, true, true, true, true, true, true, true, true, true, true] rfl rfl (one_of HT_.out (by kernel_rfl)) (by decide) (fun K hK => ?_)
              refine skip_ (w1 := ?_) (by rfl) rfl ?_ ?_
              rotate_left
              ·go_simp
               rfl
              refine hK.out _ _ ?_
              clear hK K
              refine done_ (done_of HT_.out (by kernel_rfl)) ?_
              try go_wp2
              go_loopg [98] kj24 (fun kq v98 w' => ∃ (x0_4 : List (List Int)) (x98_4 : Int), v98 = .int .i64 x98_4 ∧ Aside0 (impl_eliminate.l2 kq x0_4 a2 x14_1 (x539001_1.length : Int) a1 x14_1 (x0_24.length : Int) x98_4 x539001_1 (Int.tmod (wrap64 (x539002_24 * (rd (rd_L1 x0_24 (x539001_1.length : Int)) x14_1))) a2) = some (r1, r2, r3)) ∧ Aside0 (kq ≤ kj24) ∧ Aside0 (Kd.S (Kd.slice 3 (Kd.int .i64)) 22 w' w0.heap.size (fun k_ => (P0_ k_ ∨ w.heap.size ≤ k_) ∧ some k_ ≠ ((.slice Ao12 x539001_1.length co12) : Value).ownBlock ∧ k_ ≠ gb537 ∧ k_ ≠ gb538) (.slice (some ⟨go52, 0, none⟩) x0_24.length co26) x0_4) ∧ Aside0 (Kd.R (Kd.int .i64) 3 w' w0.heap.size (fun k_ => (P0_ k_ ∨ w.heap.size ≤ k_)) (.slice Ao12 x539001_1.length co12) x539001_1) ∧ Aside0 (w'.heap[gb537]? = some (.cells #[(.slice none 0 0), (.slice none 0 0), .int .i64 0] 60 (0, 0))) ∧ Aside0 (w'.heap[gb538]? = some (.cells #[(.slice none 0 0), (.slice Ao12 x539001_1.length co12), .int .i64 (Int.tmod (wrap64 (x539002_24 * (rd (rd_L1 x0_24 (x539001_1.length : Int)) x14_1))) a2)] 60 (0, 0))) ∧ Aside0 (Kept w w' (fun k_ => P0_ k_)) ∧ Aside0 (Below w0.heap.size w0 w'))
              case atStart => exact ⟨(y559), (0), (by first | rfl | (simp; done) | (simp [*]; done)), H', ⟨Nat.le_refl _⟩, ⟨by (try simp only [hl0_24]); (with_reducible repeat (first | apply Kd.S_alloc | apply Kd.S_drewN | apply Kd.S_drew)); exact HQ58.out⟩, ⟨by (try simp only [hl0_24]); (with_reducible repeat (first | apply Kd.R_alloc | apply Kd.R_drewN | apply Kd.R_drew)); exact Kd.R_mono (Kd.R_far (p := ⟨go52, x539001_1.length, none⟩) (Kd.R_types HO_539001.out GG52.out (by decide)) (fun _ hk => hk.2) ((.slice Av557 t556.length cv557))) (fun _ hk => hk.1.1)⟩, ⟨by (try simp only [hl0_24]); (with_reducible repeat (first | refine blk_drewN ?_ _ | refine blk_drew ?_ | refine blk_alloc ?_ _)); exact blk_far BK537.out (by have h_ := (Kd.S_R HO_0.out).1 _ rfl; first | exact Ne.symm h_.2.2.1 | exact Ne.symm h_.2.2.2 | exact Ne.symm h_.2.2.2.1 | exact Ne.symm h_.2.2.2.2 | exact Ne.symm h_.1.2.2.1 | exact Ne.symm h_.1.2.2.2 | exact Ne.symm h_.1.1.2.2.1 | exact Ne.symm h_.1.1.2.2.2) _⟩, ⟨by (try simp only [hl0_24]); (with_reducible repeat (first | refine blk_drewN ?_ _ | refine blk_drew ?_ | refine blk_alloc ?_ _)); exact blk_far BK538.out (by have h_ := (Kd.S_R HO_0.out).1 _ rfl; first | exact Ne.symm h_.2.2.1 | exact Ne.symm h_.2.2.2 | exact Ne.symm h_.2.2.2.1 | exact Ne.symm h_.2.2.2.2 | exact Ne.symm h_.1.2.2.1 | exact Ne.symm h_.1.2.2.2 | exact Ne.symm h_.1.1.2.2.1 | exact Ne.symm h_.1.1.2.2.2) _⟩, ⟨by repeat (first | (with_reducible first | exact HK.out | apply Kept.alloc | apply Kept.drewN | apply Kept.drew | refine Kept.setCell ?_ HMgo52.out _ | refine Kept.setCell ?_ (.inr GW537.out) _ | refine Kept.setCell ?_ (.inr GW538.out) _) | exact HK.out)⟩, ⟨by repeat (first | (with_reducible first | exact HB.out | apply below_alloc | apply pw_below_drewN | apply below_drew1 | refine below_set ?_ GB52.out | refine below_set ?_ GE537.out | refine below_set ?_ GE538.out) | exact HB.out)⟩⟩
              case round =>
               clear H'
               (try clear p2);(try clear p3);(try clear q3);(try clear hx3);(try clear c4);(try clear hx4);(try clear c5);(try clear p5);(try clear q5);(try clear hx5);(try clear hf5);(try clear p6);(try clear c9);(try clear p32);(try clear q32);(try clear hx32);(try clear p35);(try clear q35);(try clear hx35);(try clear hx39);(try clear hx41);(try clear c45);(try clear c45b0);(try clear c45b1);(try clear c46);(try clear c46b0);(try clear c46b1);(try clear c47);(try clear c47b0);(try clear c48);(try clear c48b0);(try clear c49);(try clear c49b0);(try clear c49b1);(try clear c52);(try clear p52);(try clear q52);(try clear hx52);(try clear hf52);(try clear p53);(try clear q53);(try clear hx53);(try clear p54);(try clear q54);(try clear hx54);(try clear c55);(try clear p55);(try clear q55);(try clear hx55);(try clear c58);(try clear hcz7_1);(try clear hcz7_2);(try clear hfz11_0);(try clear hfz11_1);(try clear hfz11_2);(try clear hfz24_0);(try clear hfz24_1);(try clear hfz24_2);(try clear hfz44_0);(try clear hfz44_1);(try clear hfz44_2);(try clear hfz7_0);(try clear hfz7_1);(try clear hfz7_2);(try clear hx32_0);(try clear hx35_0);(try clear hx39_0);(try clear hx41_0);(try clear hx52_0);(try clear hx539_0);(try clear hx540_0);(try clear hx550_0);(try clear hx551_0);(try clear hx552_0);(try clear hx553_0);(try clear hx554_0);(try clear p2);(try clear p32);(try clear p35);(try clear p5);(try clear p52);(try clear p539);(try clear p540);(try clear p550);(try clear p551);(try clear p552);(try clear p553);(try clear p554);(try clear p6);(try clear q32);(try clear q35);(try clear q5);(try clear q52);(try clear q539);(try clear q540);(try clear q550);(try clear q551);(try clear q552);(try clear q553);(try clear q554)
               obtain ⟨x0_4, x98_4, rfl, HA, HK4, HO_0, HO_539001, BK537, BK538, HK, HB⟩ := hrel
               have hl0_4 := (Kd.S_reads' HO_0.out).1
               rw [hl0_4] at HO_0
               (try simp only [hl0_4])
               (try simp only [hl0_4] at BK537)
               (try simp only [hl0_4] at BK538)
               (try simp only [hl0_4] at HO_539001)
               cases gk with
               | zero => exact absurd HA.out (by simp [impl_eliminate.l2])
               | succ k4 =>
                have H := HA.out
                clear HA
                simp only [impl_eliminate.l2] at H
                by_cases c59 : x98_4 < (x0_24.length : Int)
                ·rw [if_pos c59] at H
                 have c59b0 : decide (x98_4 < (x0_24.length : Int)) = true := decide_eq_true c59
                 (try simp only [hl0_24] at c59b0)
                 (try simp only [hl0_4] at c59b0)
                 clear c59
                 by_cases c60 : x98_4 = (x539001_1.length : Int)
                 ·rw [if_pos c60] at H
                  have c60b0 : (x98_4 == (x539001_1.length : Int)) = true := beq_iff_eq.mpr c60
                  (try simp only [hl0_24] at c60b0)
                  (try simp only [hl0_4] at c60b0)
                  have c60b1 : (x98_4 != (x539001_1.length : Int)) = false := bne_eq_false_iff_eq.mpr c60
                  (try simp only [hl0_24] at c60b1)
                  (try simp only [hl0_4] at c60b1)
                  clear c60
                  have H' := Aside0.mk H
                  clear H
                  go_wp2
                  (try simp only [← hl0_4])
                  go_roundg k4
                  case measure => have := HK1.out; have := HJ8.out; have := HJ24.out; have := HK4.out; omega
                  case rel => exact ⟨(x0_4), (wrap64 (x98_4 + 1)), (by first | rfl | (simp; done) | (simp [*]; done)), H', ⟨by have := HK1.out; have := HJ8.out; have := HJ24.out; have := HK4.out; omega⟩, ⟨by (try simp only [hl0_24]); (try simp only [hl0_4]); (with_reducible repeat (first | apply Kd.S_alloc | apply Kd.S_drewN | apply Kd.S_drew)); exact HO_0.out⟩, ⟨by (try simp only [hl0_24]); (try simp only [hl0_4]); (with_reducible repeat (first | apply Kd.R_alloc | apply Kd.R_drewN | apply Kd.R_drew)); exact HO_539001.out⟩, ⟨by (try simp only [hl0_24]); (try simp only [hl0_4]); (with_reducible repeat (first | refine blk_drewN ?_ _ | refine blk_drew ?_ | refine blk_alloc ?_ _)); exact BK537.out⟩, ⟨by (try simp only [hl0_24]); (try simp only [hl0_4]); (with_reducible repeat (first | refine blk_drewN ?_ _ | refine blk_drew ?_ | refine blk_alloc ?_ _)); exact BK538.out⟩, ⟨by repeat (first | (with_reducible first | exact HK.out | apply Kept.alloc | apply Kept.drewN | apply Kept.drew | refine Kept.setCell ?_ (.inr GW537.out) _ | refine Kept.setCell ?_ (.inr GW538.out) _) | exact HK.out)⟩, ⟨by repeat (first | (with_reducible first | exact HB.out | apply below_alloc | apply pw_below_drewN | apply below_drew1 | refine below_set ?_ GE537.out | refine below_set ?_ GE538.out) | exact HB.out)⟩⟩
                 ·rw [if_neg c60] at H
                  have c60b0 : (x98_4 == (x539001_1.length : Int)) = false := beq_eq_false_iff_ne.mpr c60
                  (try simp only [hl0_24] at c60b0)
                  (try simp only [hl0_4] at c60b0)
                  have c60b1 : (x98_4 != (x539001_1.length : Int)) = true := bne_iff_ne.mpr c60
                  (try simp only [hl0_24] at c60b1)
                  (try simp only [hl0_4] at c60b1)
                  by_cases c61 : 0 ≤ x98_4
                  ·rw [if_pos c61] at H
                   have c61b0 : decide (0 ≤ x98_4) = true := decide_eq_true c61
                   clear c61
                   by_cases c62 : x98_4 < (x0_4.length : Int)
                   ·rw [if_pos c62] at H
                    have c62b0 : decide (x98_4 < (x0_4.length : Int)) = true := decide_eq_true c62
                    (try simp only [hl0_24] at c62b0)
                    (try simp only [hl0_4] at c62b0)
                    clear c62
                    by_cases c63 : 0 ≤ x14_1
                    ·rw [if_pos c63] at H
                     have c63b0 : decide (0 ≤ x14_1) = true := decide_eq_true c63
                     clear c63
                     by_cases c64 : x14_1 < ((rd_L1 x0_4 x98_4).length : Int)
                     ·rw [if_pos c64] at H
                      have c64b0 : decide (x14_1 < ((rd_L1 x0_4 x98_4).length : Int)) = true := decide_eq_true c64
                      (try simp only [hl0_24] at c64b0)
                      (try simp only [hl0_4] at c64b0)
                      clear c64
                      by_cases c65 : (rd (rd_L1 x0_4 x98_4) x14_1) = 0
                      ·rw [if_pos c65] at H
                       have c65b0 : ((rd (rd_L1 x0_4 x98_4) x14_1) == 0) = true := beq_iff_eq.mpr c65
                       have c65b1 : ((rd (rd_L1 x0_4 x98_4) x14_1) != 0) = false := bne_eq_false_iff_eq.mpr c65
                       clear c65
                       have H' := Aside0.mk H
                       clear H
                       have p560 : 0 ≤ (x98_4 : Int) := of_decide_eq_true (by first | (with_reducible assumption) | assumption)
                       have q560 : x98_4 < (x0_4.length : Int) := of_decide_eq_true (by first | (with_reducible assumption) | assumption)
                       obtain ⟨ad560, A560_0, c560_0, e560, hx560_0, hl560_0, hi560_0⟩ := at_L1 (Kd.S_reads' HO_0.out).2.2 x98_4 p560 q560
                       obtain rfl : (⟨go52, 0, none⟩ : Addr) = ad560 := (by injection e560)
                       obtain ⟨ce560, hce560, hMe560, hcc560⟩ := Kd.S_get HO_0.out [] x98_4 p560 (by first | exact q560 | exact of_decide_eq_true (by first | (with_reducible assumption) | assumption) | (have e_ := (Kd.S_reads' HO_0.out).1; omega))
                       obtain ⟨ve560_0, rfl, ge560_0⟩ := hMe560
                       have hv560_0 := hcc560 0 _ rfl
                       rw [Nat.add_zero, show ((Kd.slice 3 (Kd.int .i64))).sz = 1 from rfl, Nat.mul_one] at hv560_0
                       replace hv560_0 := Option.some.inj (hv560_0.symm.trans hx560_0)
                       rw [hv560_0] at ge560_0
                       have HL560_0 := Aside0.mk (show Kd.R (Kd.int .i64) 3 _ w0.heap.size _ _ (rd_L1 x0_4 x98_4) from ge560_0)
                       clear hv560_0 ge560_0;clear hcc560 hce560
                       (first | simp only [add_plain] at hx560_0 | simp only [add_at] at hx560_0 | simp only [Addr.add, Nat.zero_add] at hx560_0 | skip)
                       have HR560_0 := Aside0.mk hi560_0
                       have HC560_0 := Aside0.mk hl560_0
                       clear hi560_0 hl560_0
                       replace p560 := eq_true p560
                       replace q560 := eq_true q560
                       have p561 : 0 ≤ (x14_1 : Int) := of_decide_eq_true (by first | (with_reducible assumption) | assumption)
                       have q561 : x14_1 < ((rd_L1 x0_4 x98_4).length : Int) := of_decide_eq_true (by first | (with_reducible assumption) | assumption)
                       obtain ⟨ad561, e561, hx561_0⟩ := Kd.at_int (by repeat (first | (with_reducible exact HR560_0.out) | (with_reducible refine Kd.C_alloc ?_ _) | (with_reducible refine Kd.C_drewN ?_ _) | (with_reducible refine Kd.C_drew ?_) | exact HR560_0.out)) x14_1 p561 q561
                       cases e561
                       replace p561 := eq_true p561
                       replace q561 := eq_true q561
                       go_wp2
                       (try simp only [← hl0_4])
                       go_roundg k4
                       case measure => have := HK1.out; have := HJ8.out; have := HJ24.out; have := HK4.out; omega
                       case rel => exact ⟨(x0_4), (wrap64 (x98_4 + 1)), (by first | rfl | (simp; done) | (simp [*]; done)), H', ⟨by have := HK1.out; have := HJ8.out; have := HJ24.out; have := HK4.out; omega⟩, ⟨by (try simp only [hl0_24]); (try simp only [hl0_4]); (with_reducible repeat (first | apply Kd.S_alloc | apply Kd.S_drewN | apply Kd.S_drew)); exact HO_0.out⟩, ⟨by (try simp only [hl0_24]); (try simp only [hl0_4]); (with_reducible repeat (first | apply Kd.R_alloc | apply Kd.R_drewN | apply Kd.R_drew)); exact HO_539001.out⟩, ⟨by (try simp only [hl0_24]); (try simp only [hl0_4]); (with_reducible repeat (first | refine blk_drewN ?_ _ | refine blk_drew ?_ | refine blk_alloc ?_ _)); exact BK537.out⟩, ⟨by (try simp only [hl0_24]); (try simp only [hl0_4]); (with_reducible repeat (first | refine blk_drewN ?_ _ | refine blk_drew ?_ | refine blk_alloc ?_ _)); exact BK538.out⟩, ⟨by repeat (first | (with_reducible first | exact HK.out | apply Kept.alloc | apply Kept.drewN | apply Kept.drew | refine Kept.setCell ?_ (.inr GW537.out) _ | refine Kept.setCell ?_ (.inr GW538.out) _) | exact HK.out)⟩, ⟨by repeat (first | (with_reducible first | exact HB.out | apply below_alloc | apply pw_below_drewN | apply below_drew1 | refine below_set ?_ GE537.out | refine below_set ?_ GE538.out) | exact HB.out)⟩⟩
                      ·rw [if_neg c65] at H
                       have c65b0 : ((rd (rd_L1 x0_4 x98_4) x14_1) == 0) = false := beq_eq_false_iff_ne.mpr c65
                       have c65b1 : ((rd (rd_L1 x0_4 x98_4) x14_1) != 0) = true := bne_iff_ne.mpr c65
                       by_cases c66 : 0 ≤ (x539001_1.length : Int)
                       ·rw [if_pos c66] at H
                        have c66b0 : decide (0 ≤ (x539001_1.length : Int)) = true := decide_eq_true c66
                        (try simp only [hl0_24] at c66b0)
                        (try simp only [hl0_4] at c66b0)
                        have c66b1 : decide (0 ≤ x539001_1.length) = true := decide_eq_true (by omega)
                        (try simp only [hl0_24] at c66b1)
                        (try simp only [hl0_4] at c66b1)
                        clear c66
                        by_cases c67 : (x539001_1.length : Int) < (x0_4.length : Int)
                        ·rw [if_pos c67] at H
                         have c67b0 : decide ((x539001_1.length : Int) < (x0_4.length : Int)) = true := decide_eq_true c67
                         (try simp only [hl0_24] at c67b0)
                         (try simp only [hl0_4] at c67b0)
                         have c67b1 : decide (x539001_1.length < x0_4.length) = true := decide_eq_true (Int.ofNat_lt.mp c67)
                         (try simp only [hl0_24] at c67b1)
                         (try simp only [hl0_4] at c67b1)
                         clear c67
                         replace H := Option.bind_eq_some_iff.mp H
                         obtain ⟨t566, A680, H⟩ := H
                         replace H : (impl_eliminate.l2 k4 (x0_4.set (x98_4 : Int).toNat t566) a2 x14_1 (x539001_1.length : Int) a1 x14_1 (x0_24.length : Int) (wrap64 (x98_4 + 1)) x539001_1 (Int.tmod (wrap64 (x539002_24 * (rd (rd_L1 x0_24 (x539001_1.length : Int)) x14_1))) a2)) = some (r1, r2, r3) := H
                         have A68 := Aside0.mk A680
                         clear A680
                         obtain ⟨y569, hy569⟩ : ∃ y_ : List (List Int), y_ = (x0_4.set (x98_4 : Int).toNat t566) := ⟨_, rfl⟩
                         replace H : (impl_eliminate.l2 k4 y569 a2 x14_1 (x539001_1.length : Int) a1 x14_1 (x0_24.length : Int) (wrap64 (x98_4 + 1)) x539001_1 (Int.tmod (wrap64 (x539002_24 * (rd (rd_L1 x0_24 (x539001_1.length : Int)) x14_1))) a2)) = some (r1, r2, r3) := by first | (rw [hy569]; with_reducible exact H) | (have H2_ := (Option.bind_some _ _).symm.trans H; rw [hy569]; with_reducible exact H2_) | (have H2_ := (Option.bind_some _ _).symm.trans H; with_reducible exact H2_) | with_reducible exact H | (rw [hy569]; exact H) | exact H
                         have Ny569 := Aside0.mk hy569
                         clear hy569
                         have H' := Aside0.mk H
                         clear H
                         have p560 : 0 ≤ (x98_4 : Int) := of_decide_eq_true (by first | (with_reducible assumption) | assumption)
                         have q560 : x98_4 < (x0_4.length : Int) := of_decide_eq_true (by first | (with_reducible assumption) | assumption)
                         obtain ⟨ad560, A560_0, c560_0, e560, hx560_0, hl560_0, hi560_0⟩ := at_L1 (Kd.S_reads' HO_0.out).2.2 x98_4 p560 q560
                         obtain rfl : (⟨go52, 0, none⟩ : Addr) = ad560 := (by injection e560)
                         obtain ⟨ce560, hce560, hMe560, hcc560⟩ := Kd.S_get HO_0.out [] x98_4 p560 (by first | exact q560 | exact of_decide_eq_true (by first | (with_reducible assumption) | assumption) | (have e_ := (Kd.S_reads' HO_0.out).1; omega))
                         obtain ⟨ve560_0, rfl, ge560_0⟩ := hMe560
                         have hv560_0 := hcc560 0 _ rfl
                         rw [Nat.add_zero, show ((Kd.slice 3 (Kd.int .i64))).sz = 1 from rfl, Nat.mul_one] at hv560_0
                         replace hv560_0 := Option.some.inj (hv560_0.symm.trans hx560_0)
                         rw [hv560_0] at ge560_0
                         have HL560_0 := Aside0.mk (show Kd.R (Kd.int .i64) 3 _ w0.heap.size _ _ (rd_L1 x0_4 x98_4) from ge560_0)
                         clear hv560_0 ge560_0;clear hcc560 hce560
                         (first | simp only [add_plain] at hx560_0 | simp only [add_at] at hx560_0 | simp only [Addr.add, Nat.zero_add] at hx560_0 | skip)
                         have HR560_0 := Aside0.mk hi560_0
                         have HC560_0 := Aside0.mk hl560_0
                         clear hi560_0 hl560_0
                         replace p560 := eq_true p560
                         replace q560 := eq_true q560
                         have p561 : 0 ≤ (x14_1 : Int) := of_decide_eq_true (by first | (with_reducible assumption) | assumption)
                         have q561 : x14_1 < ((rd_L1 x0_4 x98_4).length : Int) := of_decide_eq_true (by first | (with_reducible assumption) | assumption)
                         obtain ⟨ad561, e561, hx561_0⟩ := Kd.at_int (by repeat (first | (with_reducible exact HR560_0.out) | (with_reducible refine Kd.C_alloc ?_ _) | (with_reducible refine Kd.C_drewN ?_ _) | (with_reducible refine Kd.C_drew ?_) | exact HR560_0.out)) x14_1 p561 q561
                         cases e561
                         replace p561 := eq_true p561
                         replace q561 := eq_true q561
                         try go_wp2
                         have n0_ := Aside0.mk (Kd.S_drew HO_0.out)
                         have n1_ := Aside0.mk (Kd.R_drew HO_539001.out)
                         have n2_ := Aside0.mk (Kd.R_drew HL560_0.out)
                         have n3_ := Aside0.mk (blk_drew BK537.out)
                         have n4_ := Aside0.mk (blk_drew BK538.out)
                         have n5_ := Aside0.mk (Kd.C_drew HR560_0.out)
                         have n6_ := Aside0.mk (Kept.drew HK.out)
                         have n7_ := Aside0.mk (below_drew1 HB.out)
                         clear HO_0;clear HO_539001;clear HL560_0;clear BK537;clear BK538;clear HR560_0;clear HK;clear HB
                         have HO_0 := n0_
                         have HO_539001 := n1_
                         have HL560_0 := n2_
                         have BK537 := n3_
                         have BK538 := n4_
                         have HR560_0 := n5_
                         have HK := n6_
                         have HB := n7_
                         clear n0_ n1_ n2_ n3_ n4_ n5_ n6_ n7_
                         have p562 : 0 ≤ (x98_4 : Int) := of_decide_eq_true (by first | (with_reducible assumption) | assumption)
                         have q562 : x98_4 < (x0_4.length : Int) := of_decide_eq_true (by first | (with_reducible assumption) | assumption)
                         obtain ⟨ad562, A562_0, c562_0, e562, hx562_0, hl562_0, hi562_0⟩ := at_L1 (Kd.S_reads' HO_0.out).2.2 x98_4 p562 q562
                         obtain rfl : (⟨go52, 0, none⟩ : Addr) = ad562 := (by injection e562)
                         obtain ⟨ce562, hce562, hMe562, hcc562⟩ := Kd.S_get HO_0.out [] x98_4 p562 (by first | exact q562 | exact of_decide_eq_true (by first | (with_reducible assumption) | assumption) | (have e_ := (Kd.S_reads' HO_0.out).1; omega))
                         obtain ⟨ve562_0, rfl, ge562_0⟩ := hMe562
                         have hv562_0 := hcc562 0 _ rfl
                         rw [Nat.add_zero, show ((Kd.slice 3 (Kd.int .i64))).sz = 1 from rfl, Nat.mul_one] at hv562_0
                         replace hv562_0 := Option.some.inj (hv562_0.symm.trans hx562_0)
                         rw [hv562_0] at ge562_0
                         have HL562_0 := Aside0.mk (show Kd.R (Kd.int .i64) 3 _ w0.heap.size _ _ (rd_L1 x0_4 x98_4) from ge562_0)
                         clear hv562_0 ge562_0;clear hcc562 hce562
                         (first | simp only [add_plain] at hx562_0 | simp only [add_at] at hx562_0 | simp only [Addr.add, Nat.zero_add] at hx562_0 | skip)
                         have HR562_0 := Aside0.mk hi562_0
                         have HC562_0 := Aside0.mk hl562_0
                         clear hi562_0 hl562_0
                         replace p562 := eq_true p562
                         replace q562 := eq_true q562
                         have p563 : 0 ≤ ((x539001_1.length : Int) : Int) := of_decide_eq_true (by first | (with_reducible assumption) | assumption)
                         have q563 : (x539001_1.length : Int) < (x0_4.length : Int) := of_decide_eq_true (by first | (with_reducible assumption) | assumption)
                         obtain ⟨ad563, A563_0, c563_0, e563, hx563_0, hl563_0, hi563_0⟩ := at_L1 (Kd.S_reads' HO_0.out).2.2 (x539001_1.length : Int) p563 q563
                         obtain rfl : (⟨go52, 0, none⟩ : Addr) = ad563 := (by injection e563)
                         obtain ⟨ce563, hce563, hMe563, hcc563⟩ := Kd.S_get HO_0.out [] (x539001_1.length : Int) p563 (by first | exact q563 | exact of_decide_eq_true (by first | (with_reducible assumption) | assumption) | (have e_ := (Kd.S_reads' HO_0.out).1; omega))
                         obtain ⟨ve563_0, rfl, ge563_0⟩ := hMe563
                         have hv563_0 := hcc563 0 _ rfl
                         rw [Nat.add_zero, show ((Kd.slice 3 (Kd.int .i64))).sz = 1 from rfl, Nat.mul_one] at hv563_0
                         replace hv563_0 := Option.some.inj (hv563_0.symm.trans hx563_0)
                         rw [hv563_0] at ge563_0
                         have HL563_0 := Aside0.mk (show Kd.R (Kd.int .i64) 3 _ w0.heap.size _ _ (rd_L1 x0_4 (x539001_1.length : Int)) from ge563_0)
                         clear hv563_0 ge563_0;clear hcc563 hce563
                         (first | simp only [add_plain] at hx563_0 | simp only [add_at] at hx563_0 | simp only [Addr.add, Nat.zero_add] at hx563_0 | skip)
                         have HR563_0 := Aside0.mk hi563_0
                         have HC563_0 := Aside0.mk hl563_0
                         clear hi563_0 hl563_0
                         (try simp only [Go.IntWalk.toNatUp] at hx563_0)
                         (try simp only [hl0_24, hl0_4] at p563)
                         (try simp only [hl0_24, hl0_4] at q563)
                         (try simp only [hl0_24, hl0_4] at hx563_0)
                         replace p563 := eq_true p563
                         replace q563 := eq_true q563
                         have p564 : 0 ≤ (x98_4 : Int) := of_decide_eq_true (by first | (with_reducible assumption) | assumption)
                         have q564 : x98_4 < (x0_4.length : Int) := of_decide_eq_true (by first | (with_reducible assumption) | assumption)
                         obtain ⟨ad564, A564_0, c564_0, e564, hx564_0, hl564_0, hi564_0⟩ := at_L1 (Kd.S_reads' HO_0.out).2.2 x98_4 p564 q564
                         obtain rfl : (⟨go52, 0, none⟩ : Addr) = ad564 := (by injection e564)
                         obtain ⟨ce564, hce564, hMe564, hcc564⟩ := Kd.S_get HO_0.out [] x98_4 p564 (by first | exact q564 | exact of_decide_eq_true (by first | (with_reducible assumption) | assumption) | (have e_ := (Kd.S_reads' HO_0.out).1; omega))
                         obtain ⟨ve564_0, rfl, ge564_0⟩ := hMe564
                         have hv564_0 := hcc564 0 _ rfl
                         rw [Nat.add_zero, show ((Kd.slice 3 (Kd.int .i64))).sz = 1 from rfl, Nat.mul_one] at hv564_0
                         replace hv564_0 := Option.some.inj (hv564_0.symm.trans hx564_0)
                         rw [hv564_0] at ge564_0
                         have HL564_0 := Aside0.mk (show Kd.R (Kd.int .i64) 3 _ w0.heap.size _ _ (rd_L1 x0_4 x98_4) from ge564_0)
                         clear hv564_0 ge564_0;clear hcc564 hce564
                         (first | simp only [add_plain] at hx564_0 | simp only [add_at] at hx564_0 | simp only [Addr.add, Nat.zero_add] at hx564_0 | skip)
                         have HR564_0 := Aside0.mk hi564_0
                         have HC564_0 := Aside0.mk hl564_0
                         clear hi564_0 hl564_0
                         replace p564 := eq_true p564
                         replace q564 := eq_true q564
                         have ea_ := Option.some.inj (hx562_0.symm.trans hx564_0)
                         injection ea_ with ea_ en_ ec_
                         subst ea_
                         subst ec_
                         clear en_
                         have p565 : 0 ≤ (x14_1 : Int) := of_decide_eq_true (by first | (with_reducible assumption) | assumption)
                         have q565 : x14_1 < ((rd_L1 x0_4 x98_4).length : Int) := of_decide_eq_true (by first | (with_reducible assumption) | assumption)
                         obtain ⟨ad565, e565, hx565_0⟩ := Kd.at_int (by repeat (first | (with_reducible exact HR564_0.out) | (with_reducible refine Kd.C_alloc ?_ _) | (with_reducible refine Kd.C_drewN ?_ _) | (with_reducible refine Kd.C_drew ?_) | exact HR564_0.out)) x14_1 p565 q565
                         cases e565
                         replace p565 := eq_true p565
                         replace q565 := eq_true q565
                         refine start_ (n := 22) (S := fun w' => w'.cell? ⟨go52, (x98_4).toNat, none⟩ = some (.slice (some ad565) (rd_L1 x0_4 x98_4).length c562_0) ∧ w'.cell? ⟨go52, x539001_1.length, none⟩ = some (.slice A563_0 (rd_L1 x0_4 (x539001_1.length : Int)).length c563_0) ∧ w'.cell? ⟨go52, (x98_4).toNat, none⟩ = some (.slice (some ad565) (rd_L1 x0_4 x98_4).length c562_0) ∧ w'.cell? (ad565.add (x14_1).toNat) = some (.int .i64 (rd (rd_L1 x0_4 x98_4) x14_1))) (ds := [21]) #[false, false, false, false, false, false, false, false, false, false, false, false, false, false, false, false, false, false, false, false, false, false] (by kernel_rfl) rfl rfl ⟨hx562_0, hx563_0, hx564_0, hx565_0⟩ (fun hHeld => ?_); refine with_tabW impl_eliminate.tab20 impl_eliminate.bits20 (fun HT_ HW_ => ?_)
                         generalize wr.drew = w70 at HO_0 HO_539001 HL560_0 BK537 BK538 HR560_0 HK HB HL562_0 HL563_0 HL564_0 HR562_0 HR563_0 HR564_0 hx562_0 hx563_0 hx564_0 hx565_0 hHeld ⊢
                         refine pure_ (i := 0) (N := some 114) (v := ?_) (a' := ?_) #[true, false, false, false, false, false, false, false, false, false, false, false, false, false, false, false, false, false, false, false, false, false] rfl rfl (any_of HT_.out (by kernel_rfl)) (fun _ _ _ h => h) (Or.inl ⟨by rfl, ?_⟩) ?_ ?_
                         rotate_left
                         ·intro w'
                          go_simp
                          with_reducible rfl
                         rotate_left
                         ·simp only [Act.put, List.setIfInBounds_toArray, List.set_cons_zero, List.set_cons_succ, i64_w, i32_w]
                          rfl
                         refine pure_ (i := 1) (N := some 115) (v := ?_) (a' := ?_) #[true, true, false, false, false, false, false, false, false, false, false, false, false, false, false, false, false, false, false, false, false, false] rfl rfl (any_of HT_.out (by kernel_rfl)) (fun _ _ _ h => h) (Or.inl ⟨by rfl, ?_⟩) ?_ ?_
                         rotate_left
                         ·intro w'
                          go_simp
                          with_reducible rfl
                         rotate_left
                         ·simp only [Act.put, List.setIfInBounds_toArray, List.set_cons_zero, List.set_cons_succ, i64_w, i32_w]
                          rfl
                         refine pure_ (i := 2) (N := some 116) (v := ?_) (a' := ?_) #[true, true, true, false, false, false, false, false, false, false, false, false, false, false, false, false, false, false, false, false, false, false] rfl rfl (any_of HT_.out (by kernel_rfl)) (fun _ _ _ h => h) (Or.inl ⟨by rfl, ?_⟩) ?_ ?_
                         rotate_left
                         ·intro w'
                          go_simp
                          with_reducible rfl
                         rotate_left
                         ·simp only [Act.put, List.setIfInBounds_toArray, List.set_cons_zero, List.set_cons_succ, i64_w, i32_w]
                          rfl
                         refine pure_ (i := 3) (N := some 117) (v := ?_) (a' := ?_) #[true, true, true, true, false, false, false, false, false, false, false, false, false, false, false, false, false, false, false, false, false, false] rfl rfl (any_of HT_.out (by kernel_rfl)) (fun _ _ _ h => h) (Or.inl ⟨by rfl, ?_⟩) ?_ ?_
                         rotate_left
                         ·intro w'
                          go_simp
                          with_reducible rfl
                         rotate_left
                         ·simp only [Act.put, List.setIfInBounds_toArray, List.set_cons_zero, List.set_cons_succ, i64_w, i32_w]
                          rfl
                         refine pure_ (i := 4) (N := some 118) (v := ?_) (a' := ?_) #[true, true, true, true, true, false, false, false, false, false, false, false, false, false, false, false, false, false, false, false, false, false] rfl rfl (any_of HT_.out (by kernel_rfl)) (fun _ _ _ h => h) (Or.inl ⟨by rfl, ?_⟩) ?_ ?_
                         rotate_left
                         ·intro w'
                          go_simp
                          with_reducible rfl
                         rotate_left
                         ·simp only [Act.put, List.setIfInBounds_toArray, List.set_cons_zero, List.set_cons_succ, i64_w, i32_w]
                          rfl
                         refine pure_ (i := 6) (N := some 120) (v := ?_) (a' := ?_) #[true, true, true, true, true, false, true, false, false, false, false, false, false, false, false, false, false, false, false, false, false, false] rfl rfl (any_of HT_.out (by kernel_rfl)) (fun _ _ _ h => h) (Or.inl ⟨by rfl, ?_⟩) ?_ ?_
                         rotate_left
                         ·intro w'
                          go_simp
                          with_reducible rfl
                         rotate_left
                         ·simp only [Act.put, List.setIfInBounds_toArray, List.set_cons_zero, List.set_cons_succ, i64_w, i32_w]
                          rfl
                         refine pure_ (i := 7) (N := some 121) (v := ?_) (a' := ?_) #[true, true, true, true, true, false, true, true, false, false, false, false, false, false, false, false, false, false, false, false, false, false] rfl rfl (any_of HT_.out (by kernel_rfl)) (fun _ _ _ h => h) (Or.inl ⟨by rfl, ?_⟩) ?_ ?_
                         rotate_left
                         ·intro w'
                          go_simp
                          with_reducible rfl
                         rotate_left
                         ·simp only [Act.put, List.setIfInBounds_toArray, List.set_cons_zero, List.set_cons_succ, i64_w, i32_w]
                          rfl
                         refine pure_ (i := 8) (N := some 122) (v := ?_) (a' := ?_) #[true, true, true, true, true, false, true, true, true, false, false, false, false, false, false, false, false, false, false, false, false, false] rfl rfl (any_of HT_.out (by kernel_rfl)) (fun _ _ _ h => h) (Or.inl ⟨by rfl, ?_⟩) ?_ ?_
                         rotate_left
                         ·intro w'
                          go_simp
                          with_reducible rfl
                         rotate_left
                         ·simp only [Act.put, List.setIfInBounds_toArray, List.set_cons_zero, List.set_cons_succ, i64_w, i32_w]
                          rfl
                         refine pure_ (i := 10) (N := some 124) (v := ?_) (a' := ?_) #[true, true, true, true, true, false, true, true, true, false, true, false, false, false, false, false, false, false, false, false, false, false] rfl rfl (any_of HT_.out (by kernel_rfl)) (fun _ _ _ h => h) (Or.inl ⟨by rfl, ?_⟩) ?_ ?_
                         rotate_left
                         ·intro w'
                          go_simp
                          with_reducible rfl
                         rotate_left
                         ·simp only [Act.put, List.setIfInBounds_toArray, List.set_cons_zero, List.set_cons_succ, i64_w, i32_w]
                          rfl
                         refine pure_ (i := 11) (N := some 125) (v := ?_) (a' := ?_) #[true, true, true, true, true, false, true, true, true, false, true, true, false, false, false, false, false, false, false, false, false, false] rfl rfl (any_of HT_.out (by kernel_rfl)) (fun _ _ _ h => h) (Or.inl ⟨by rfl, ?_⟩) ?_ ?_
                         rotate_left
                         ·intro w'
                          go_simp
                          with_reducible rfl
                         rotate_left
                         ·simp only [Act.put, List.setIfInBounds_toArray, List.set_cons_zero, List.set_cons_succ, i64_w, i32_w]
                          rfl
                         refine pure_ (i := 12) (N := some 126) (v := ?_) (a' := ?_) #[true, true, true, true, true, false, true, true, true, false, true, true, true, false, false, false, false, false, false, false, false, false] rfl rfl (any_of HT_.out (by kernel_rfl)) (fun _ _ _ h => h) (Or.inl ⟨by rfl, ?_⟩) ?_ ?_
                         rotate_left
                         ·intro w'
                          go_simp
                          with_reducible rfl
                         rotate_left
                         ·simp only [Act.put, List.setIfInBounds_toArray, List.set_cons_zero, List.set_cons_succ, i64_w, i32_w]
                          rfl
                         refine pure_ (i := 14) (N := some 128) (v := ?_) (a' := ?_) #[true, true, true, true, true, false, true, true, true, false, true, true, true, false, true, false, false, false, false, false, false, false] rfl rfl (any_of HT_.out (by kernel_rfl)) (fun _ _ _ h => h) (Or.inl ⟨by rfl, ?_⟩) ?_ ?_
                         rotate_left
                         ·intro w'
                          go_simp
                          with_reducible rfl
                         rotate_left
                         ·simp only [Act.put, List.setIfInBounds_toArray, List.set_cons_zero, List.set_cons_succ, i64_w, i32_w]
                          rfl
                         refine pure_ (i := 18) (N := some 132) (v := ?_) (a' := ?_) #[true, true, true, true, true, false, true, true, true, false, true, true, true, false, true, false, false, false, true, false, false, false] rfl rfl (any_of HT_.out (by kernel_rfl)) (fun _ _ _ h => h) (Or.inl ⟨by rfl, ?_⟩) ?_ ?_
                         rotate_left
                         ·intro w'
                          go_simp
                          with_reducible rfl
                         rotate_left
                         ·simp only [Act.put, List.setIfInBounds_toArray, List.set_cons_zero, List.set_cons_succ, i64_w, i32_w]
                          rfl
                         refine take_ (i := 5) (N := some 119) (v := ?_) (a' := ?_) #[true, true, true, true, true, true, true, true, true, false, true, true, true, false, true, false, false, false, true, false, false, false] rfl rfl (take_ofW HT_.out HW_.out (by kernel_rfl)) (fun _ _ _ h => h) (Or.inl ⟨by rfl, ?_⟩) hHeld ?_ ?_
                         rotate_left
                         ·rintro w' ⟨s0, s1, s2, s3⟩
                          go_simp
                          with_reducible rfl
                         rotate_left
                         ·simp only [Act.put, List.setIfInBounds_toArray, List.set_cons_zero, List.set_cons_succ, i64_w, i32_w]
                          rfl
                         refine take_ (i := 9) (N := some 123) (v := ?_) (a' := ?_) #[true, true, true, true, true, true, true, true, true, true, true, true, true, false, true, false, false, false, true, false, false, false] rfl rfl (take_ofW HT_.out HW_.out (by kernel_rfl)) (fun _ _ _ h => h) (Or.inl ⟨by rfl, ?_⟩) hHeld ?_ ?_
                         rotate_left
                         ·rintro w' ⟨s0, s1, s2, s3⟩
                          go_simp
                          with_reducible rfl
                         rotate_left
                         ·simp only [Act.put, List.setIfInBounds_toArray, List.set_cons_zero, List.set_cons_succ, i64_w, i32_w]
                          rfl
                         refine take_ (i := 13) (N := some 127) (v := ?_) (a' := ?_) #[true, true, true, true, true, true, true, true, true, true, true, true, true, true, true, false, false, false, true, false, false, false] rfl rfl (take_ofW HT_.out HW_.out (by kernel_rfl)) (fun _ _ _ h => h) (Or.inl ⟨by rfl, ?_⟩) hHeld ?_ ?_
                         rotate_left
                         ·rintro w' ⟨s0, s1, s2, s3⟩
                          go_simp
                          with_reducible rfl
                         rotate_left
                         ·simp only [Act.put, List.setIfInBounds_toArray, List.set_cons_zero, List.set_cons_succ, i64_w, i32_w]
                          rfl
                         refine pure_ (i := 15) (N := some 129) (v := ?_) (a' := ?_) #[true, true, true, true, true, true, true, true, true, true, true, true, true, true, true, true, false, false, true, false, false, false] rfl rfl (any_of HT_.out (by kernel_rfl)) (fun _ _ _ h => h) (Or.inl ⟨by rfl, ?_⟩) ?_ ?_
                         rotate_left
                         ·intro w'
                          go_simp
                          with_reducible rfl
                         rotate_left
                         ·simp only [Act.put, List.setIfInBounds_toArray, List.set_cons_zero, List.set_cons_succ, i64_w, i32_w]
                          rfl
                         refine take_ (i := 16) (N := some 130) (v := ?_) (a' := ?_) #[true, true, true, true, true, true, true, true, true, true, true, true, true, true, true, true, true, false, true, false, false, false] rfl rfl (take_ofW HT_.out HW_.out (by kernel_rfl)) (fun _ _ _ h => h) (Or.inl ⟨by rfl, ?_⟩) hHeld ?_ ?_
                         rotate_left
                         ·rintro w' ⟨s0, s1, s2, s3⟩
                          go_simp
                          with_reducible rfl
                         rotate_left
                         ·simp only [Act.put, List.setIfInBounds_toArray, List.set_cons_zero, List.set_cons_succ, i64_w, i32_w]
                          rfl
                         refine pure_ (i := 17) (N := some 131) (v := ?_) (a' := ?_) #[true, true, true, true, true, true, true, true, true, true, true, true, true, true, true, true, true, true, true, false, false, false] rfl rfl (any_of HT_.out (by kernel_rfl)) (fun _ _ _ h => h) (Or.inl ⟨by rfl, ?_⟩) ?_ ?_
                         rotate_left
                         ·intro w'
                          go_simp
                          with_reducible rfl
                         rotate_left
                         ·simp only [Act.put, List.setIfInBounds_toArray, List.set_cons_zero, List.set_cons_succ, i64_w, i32_w]
                          rfl
                         refine one_ (i := 19) (N := some 133) #[true, true, true, true, true, true, true, true, true, true, true, true, true, true, true, true, true, true, true, true, false, false] rfl rfl (one_of HT_.out (by kernel_rfl)) (by decide) (fun K hK => ?_)
                         refine goes_ Try.func92 (by kernel_rfl) rfl #[.slice (some ad565) (rd_L1 x0_4 x98_4).length c562_0, .slice A563_0 (rd_L1 x0_4 (x539001_1.length : Int)).length c563_0, .int .i64 (wrap64 (-(rd (rd_L1 x0_4 x98_4) x14_1))), .int .i64 a2] (by rfl) rfl rfl (by (try simp only [List.map_toArray, List.map_cons, List.map_nil]); first | done | rfl | (simp only [List.length_drop, List.length_take]; rfl)) ?_
                         with_reducible refine (impl_added.calls k4 _ _ (rd_L1 x0_4 x98_4) _ _ (rd_L1 x0_4 (x539001_1.length : Int)) (wrap64 (-(rd (rd_L1 x0_4 x98_4) x14_1))) a2 t566 _ ?side1 ?side2 ?side3 ?side4 A68.out).mono ?_
                         (case side1 => repeat (first | exact (by repeat (first | (with_reducible exact HR562_0.out) | (with_reducible refine Kd.C_alloc ?_ _) | (with_reducible refine Kd.C_drewN ?_ _) | (with_reducible refine Kd.C_drew ?_) | exact HR562_0.out)) | (with_reducible refine Kd.C_alloc ?_ _) | (with_reducible refine Kd.C_drewN ?_ _) | (with_reducible refine Kd.C_drew ?_)))
                         (case side2 => exact HC562_0.out)
                         (case side3 => repeat (first | exact (by repeat (first | (with_reducible exact HR563_0.out) | (with_reducible refine Kd.C_alloc ?_ _) | (with_reducible refine Kd.C_drewN ?_ _) | (with_reducible refine Kd.C_drew ?_) | exact HR563_0.out)) | (with_reducible refine Kd.C_alloc ?_ _) | (with_reducible refine Kd.C_drewN ?_ _) | (with_reducible refine Kd.C_drew ?_)))
                         (case side4 => exact HC563_0.out)
                         rintro e w71 ⟨v567, rfl, ho0, hb⟩
                         obtain ⟨Av567, cv567, ev567⟩ := Kd.R_slice ho0
                         subst ev567
                         have HS0_ := (hb.cell (World.block_lt_of_cell? _ _ (hHeld.1))).trans (hHeld.1)
                         have HS1_ := (hb.cell (World.block_lt_of_cell? _ _ (hHeld.2.1))).trans (hHeld.2.1)
                         have HS2_ := (hb.cell (World.block_lt_of_cell? _ _ (hHeld.2.2.1))).trans (hHeld.2.2.1)
                         have HS3_ := (hb.cell (World.block_lt_of_cell? _ _ (hHeld.2.2.2))).trans (hHeld.2.2.2)
                         refine ⟨_, rfl, ?_⟩
                         have n0_ := Aside0.mk (Kd.S_elder' (by (with_reducible repeat (first | apply Kd.S_alloc | apply Kd.S_drewN | apply Kd.S_drew)); exact HO_0.out) (Kd.R_base ho0) hb)
                         have n1_ := Aside0.mk (Kd.R_elder' (by (with_reducible repeat (first | apply Kd.R_alloc | apply Kd.R_drewN | apply Kd.R_drew)); exact HO_539001.out) (Kd.R_base ho0) hb)
                         have n2_ := Aside0.mk (Kd.R_elder' (by (with_reducible repeat (first | apply Kd.R_alloc | apply Kd.R_drewN | apply Kd.R_drew)); exact HL560_0.out) (Kd.R_base ho0) hb)
                         have n3_ := Aside0.mk (Kd.R_elder' (by (with_reducible repeat (first | apply Kd.R_alloc | apply Kd.R_drewN | apply Kd.R_drew)); exact HL562_0.out) (Kd.R_base ho0) hb)
                         have n4_ := Aside0.mk (Kd.R_elder' (by (with_reducible repeat (first | apply Kd.R_alloc | apply Kd.R_drewN | apply Kd.R_drew)); exact HL563_0.out) (Kd.R_base ho0) hb)
                         have n5_ := Aside0.mk (Kd.R_elder' (by (with_reducible repeat (first | apply Kd.R_alloc | apply Kd.R_drewN | apply Kd.R_drew)); exact HL564_0.out) (Kd.R_base ho0) hb)
                         have n6_ := Aside0.mk (Kd.R_lower (Kd.R_new' (Kd.R_newM (M := fun k_ => (P0_ k_ ∨ w.heap.size ≤ k_)) ho0 (by first | exact HK.out.1 | exact (show Kept w _ (fun k_ => P0_ k_) from by repeat (first | (with_reducible first | exact HK.out | apply Kept.alloc | apply Kept.drewN | apply Kept.drew | refine Kept.setCell ?_ (.inr GW537.out) _ | refine Kept.setCell ?_ (.inr GW538.out) _) | exact HK.out)).1) (fun k_ h_ => .inr h_)) (Kd.R_lt (by (with_reducible repeat (first | apply Kd.R_alloc | apply Kd.R_drewN | apply Kd.R_drew)); exact HO_539001.out))) (below_size (by repeat (first | (with_reducible first | exact HB.out | apply below_alloc | apply pw_below_drewN | apply below_drew1 | refine below_set ?_ GE537.out | refine below_set ?_ GE538.out) | exact HB.out))))
                         have n7_ := Aside0.mk (blk_below (g := gb537) (o := .cells #[.slice none 0 0, .slice none 0 0, .int .i64 0] 60 (0, 0)) (by (with_reducible repeat (first | refine blk_drewN ?_ _ | refine blk_drew ?_ | refine blk_alloc ?_ _)); exact BK537.out) hb)
                         have n8_ := Aside0.mk (blk_below (g := gb538) (o := .cells #[.slice none 0 0, .slice Ao12 x539001_1.length co12, .int .i64 (Int.tmod (wrap64 (x539002_24 * (rd (rd_L1 x0_24 (x539001_1.length : Int)) x14_1))) a2)] 60 (0, 0)) (by (with_reducible repeat (first | refine blk_drewN ?_ _ | refine blk_drew ?_ | refine blk_alloc ?_ _)); exact BK538.out) hb)
                         have n9_ := Aside0.mk (Kd.C_below (by repeat (first | (with_reducible exact HR560_0.out) | (with_reducible exact Kd.C_drewN HR560_0.out _) | (with_reducible refine Kd.C_alloc ?_ _) | (with_reducible refine Kd.C_drewN ?_ _) | (with_reducible refine Kd.C_drew ?_) | exact HR560_0.out)) hb)
                         have n10_ := Aside0.mk (Kd.C_below (by repeat (first | (with_reducible exact HR562_0.out) | (with_reducible exact Kd.C_drewN HR562_0.out _) | (with_reducible refine Kd.C_alloc ?_ _) | (with_reducible refine Kd.C_drewN ?_ _) | (with_reducible refine Kd.C_drew ?_) | exact HR562_0.out)) hb)
                         have n11_ := Aside0.mk (Kd.C_below (by repeat (first | (with_reducible exact HR563_0.out) | (with_reducible exact Kd.C_drewN HR563_0.out _) | (with_reducible refine Kd.C_alloc ?_ _) | (with_reducible refine Kd.C_drewN ?_ _) | (with_reducible refine Kd.C_drew ?_) | exact HR563_0.out)) hb)
                         have n12_ := Aside0.mk (Kd.C_below (by repeat (first | (with_reducible exact HR564_0.out) | (with_reducible exact Kd.C_drewN HR564_0.out _) | (with_reducible refine Kd.C_alloc ?_ _) | (with_reducible refine Kd.C_drewN ?_ _) | (with_reducible refine Kd.C_drew ?_) | exact HR564_0.out)) hb)
                         have n13_ := Aside0.mk (Kept.below (S := (fun k_ => P0_ k_)) (by repeat (first | (with_reducible first | exact HK.out | apply Kept.alloc | apply Kept.drewN | apply Kept.drew | refine Kept.setCell ?_ (.inr GW537.out) _ | refine Kept.setCell ?_ (.inr GW538.out) _) | exact HK.out)) hb)
                         have n14_ := Aside0.mk (below_step (by repeat (first | (with_reducible first | exact HB.out | apply below_alloc | apply pw_below_drewN | apply below_drew1 | refine below_set ?_ GE537.out | refine below_set ?_ GE538.out) | exact HB.out)) hb)
                         clear HO_0;clear HO_539001;clear HL560_0;clear HL562_0;clear HL563_0;clear HL564_0;clear BK537;clear BK538;clear HR560_0;clear HR562_0;clear HR563_0;clear HR564_0;clear HK;clear HB
                         have HO_0 := n0_
                         have HO_539001 := n1_
                         have HL560_0 := n2_
                         have HL562_0 := n3_
                         have HL563_0 := n4_
                         have HL564_0 := n5_
                         have HO568 := n6_
                         have BK537 := n7_
                         have BK538 := n8_
                         have HR560_0 := n9_
                         have HR562_0 := n10_
                         have HR563_0 := n11_
                         have HR564_0 := n12_
                         have HK := n13_
                         have HB := n14_
                         clear n0_ n1_ n2_ n3_ n4_ n5_ n6_ n7_ n8_ n9_ n10_ n11_ n12_ n13_ n14_;(try clear hb);(try clear hb2);(try clear hk);(try clear hi);(try clear ho0)
                         have p69 : 0 ≤ (x98_4 : Int) := of_decide_eq_true (by first | (with_reducible assumption) | assumption)
                         have q69 : (x98_4 : Int) < ((x0_4.length : Int) : Int) := of_decide_eq_true (by first | (with_reducible assumption) | assumption)
                         obtain ⟨ce69, hcl69, hM69, hcc69, hfr69⟩ := S_elemR HO_0.out [] (x98_4 : Int) p69 q69
                         obtain ⟨ve69_0, rfl, ge69_0⟩ := hM69
                         obtain ⟨ua69_0, uc69_0, rfl⟩ := Kd.R_slice ge69_0
                         have hx69_0 := hcc69 0 _ rfl
                         have hf69_0 := hfr69 0
                         (try simp only [Int.toNat_natCast] at hf69_0)
                         (try simp only [Int.toNat_natCast] at hx69_0)
                         (try simp only [show ((Kd.slice 3 (Kd.int .i64))).sz = 1 from rfl, Nat.mul_one, Nat.add_zero] at hx69_0)
                         (try simp only [show ((Kd.slice 3 (Kd.int .i64))).sz = 1 from rfl, Nat.mul_one, Nat.add_zero] at hf69_0)
                         clear hcl69 hcc69 hfr69
                         replace p69 := eq_true p69
                         replace q69 := eq_true q69
                         have HX72 := Aside0.mk (show Kd.S (Kd.slice 3 (Kd.int .i64)) 22 _ w0.heap.size (fun k_ => (P0_ k_ ∨ w.heap.size ≤ k_) ∧ some k_ ≠ (.slice Ao12 x539001_1.length co12 : Value).ownBlock ∧ some k_ ≠ ((.slice Av567 t566.length cv567) : Value).ownBlock ∧ k_ ≠ gb537 ∧ k_ ≠ gb538) (.slice (some ⟨go52, 0, none⟩) x0_4.length co26) x0_4 from (Kd.S_mono (HO_0.out) (fun k_ hk => ⟨hk.1.1, ⟨hk.1.2.1, ⟨hk.2, ⟨hk.1.2.2.1, hk.1.2.2.2⟩⟩⟩⟩)))
                         obtain ⟨ce72, hcl72, hM72, hcc72, hfr72⟩ := S_elemR HX72.out [] (x98_4 : Int) (of_decide_eq_true (by first | (with_reducible assumption) | assumption)) (by have h_ : (x98_4 : Int) < ((x0_4.length : Int) : Int) := of_decide_eq_true (by first | (with_reducible assumption) | assumption); first | exact h_ | (have e_ := (Kd.S_reads' HO_0.out).1; omega) | simpa using h_)
                         obtain ⟨ve72_0, rfl, ge72_0⟩ := hM72
                         obtain ⟨ua72_0, uc72_0, rfl⟩ := Kd.R_slice ge72_0
                         have ht_HP72 := Kd.R_types (Kd.R_types (Kd.R_apart' (HO568.out) (Kd.S_typed HO_0.out) (by decide)) BK537.out (by decide)) BK538.out (by decide)
                         have RR_ := (Kd.R_mono (ok' := (fun k_ => ((fun k_ => (P0_ k_ ∨ w.heap.size ≤ k_) ∧ some k_ ≠ (.slice Ao12 x539001_1.length co12 : Value).ownBlock ∧ k_ ≠ gb537 ∧ k_ ≠ gb538)) k_ ∧ k_ ≠ go52)) ht_HP72 (fun k_ hk => ⟨⟨hk.1.1.1.1.1, ⟨hk.1.1.1.2, ⟨hk.1.2, hk.2⟩⟩⟩, fun e_ => (hk.1.1.2) (by rw [e_]; rfl)⟩))
                         have HP_ : True := trivial
                         have HP72 := (S_put (ok := fun k_ => (P0_ k_ ∨ w.heap.size ≤ k_) ∧ some k_ ≠ (.slice Ao12 x539001_1.length co12 : Value).ownBlock ∧ k_ ≠ gb537 ∧ k_ ≠ gb538) (okg := fun k_ => some k_ = ((.slice Av567 t566.length cv567) : Value).ownBlock) (Kd.S_mono HX72.out (fun k_ hk => ⟨by obtain ⟨a1, a2, a3, a4⟩ := hk; first | exact ⟨a1, a2, a4⟩ | (obtain ⟨a4, a5⟩ := a4; exact ⟨a1, a2, a4, a5⟩), fun e_ => hk.2.2.1 e_⟩)) [] (x98_4 : Int) (of_decide_eq_true (by first | (with_reducible assumption) | assumption)) (by have h_ : (x98_4 : Int) < ((x0_4.length : Int) : Int) := of_decide_eq_true (by first | (with_reducible assumption) | assumption); first | exact h_ | (have e_ := (Kd.S_reads' HO_0.out).1; omega) | simpa using h_) (seg := [(.slice Av567 t566.length cv567)]) rfl (x' := t566) (Kd.M_row (Kd.R_tight rfl RR_)) (fun k_ e_ => RR_.1 k_ e_.symm)).1
                         clear RR_ HP_
                         (try simp only [show ((Kd.slice 3 (Kd.int .i64))).sz = 1 from rfl, Nat.mul_one, Nat.add_zero] at HP72)
                         rw [← Ny569.out] at HP72
                         (try simp only [Int.toNat_natCast] at HP72)
                         have HQ72 := Aside0.mk HP72
                         clear hcl72 hcc72 hfr72 HP72
                         refine hK.out _ _ ⟨HS0_, HS1_, HS2_, HS3_⟩ (fun hHeld => ?_)
                         clear hK K
                         refine norm_ (a' := ?_) ?_ ?_
                         rotate_left
                         ·show Act.put _ (some 133) _ = _
                          simp only [Act.put, List.setIfInBounds_toArray, List.set_cons_zero, List.set_cons_succ, i64_w, i32_w]
                          rfl
                         refine pure_ (i := 20) (N := some 134) (v := ?_) (a' := ?_) #[true, true, true, true, true, true, true, true, true, true, true, true, true, true, true, true, true, true, true, true, true, false] rfl rfl (any_of HT_.out (by kernel_rfl)) (fun _ _ _ h => h) (Or.inl ⟨by rfl, ?_⟩) ?_ ?_
                         rotate_left
                         ·intro w'
                          go_simp
                          with_reducible rfl
                         rotate_left
                         ·simp only [Act.put, List.setIfInBounds_toArray, List.set_cons_zero, List.set_cons_succ, i64_w, i32_w]
                          rfl
                         refine last_ (i := 21) (N := none) #[true, true, true, true, true, true, true, true, true, true, true, true, true, true, true, true, true, true, true, true, true, true] rfl rfl (one_of HT_.out (by kernel_rfl)) (by decide) (fun K hK => ?_)
                         refine skip_ (w1 := ?_) (by rfl) rfl ?_ ?_
                         rotate_left
                         ·go_simp
                          rfl
                         refine hK.out _ _ ?_
                         clear hK K
                         refine done_ (done_of HT_.out (by kernel_rfl)) ?_
                         try go_wp2
                         (try simp only [← hl0_4])
                         go_roundg k4
                         case measure => have := HK1.out; have := HJ8.out; have := HJ24.out; have := HK4.out; omega
                         case rel => exact ⟨(y569), (wrap64 (x98_4 + 1)), (by first | rfl | (simp; done) | (simp [*]; done)), H', ⟨by have := HK1.out; have := HJ8.out; have := HJ24.out; have := HK4.out; omega⟩, ⟨by (try simp only [hl0_24]); (try simp only [hl0_4]); (with_reducible repeat (first | apply Kd.S_alloc | apply Kd.S_drewN | apply Kd.S_drew)); exact HQ72.out⟩, ⟨by (try simp only [hl0_24]); (try simp only [hl0_4]); (with_reducible repeat (first | apply Kd.R_alloc | apply Kd.R_drewN | apply Kd.R_drew)); exact Kd.R_mono (Kd.R_far (p := ⟨go52, (x98_4 : Int).toNat, none⟩) (Kd.R_apart' HO_539001.out (Kd.S_typed HO_0.out) (by decide)) (fun _ hk e_ => hk.2 (by subst e_; rfl)) ((.slice Av567 t566.length cv567))) (fun _ hk => hk.1.1)⟩, ⟨by (try simp only [hl0_24]); (try simp only [hl0_4]); (with_reducible repeat (first | refine blk_drewN ?_ _ | refine blk_drew ?_ | refine blk_alloc ?_ _)); exact blk_far BK537.out (by have h_ := (Kd.S_R HO_0.out).1 _ rfl; first | exact Ne.symm h_.2.2.1 | exact Ne.symm h_.2.2.2 | exact Ne.symm h_.2.2.2.1 | exact Ne.symm h_.2.2.2.2 | exact Ne.symm h_.1.2.2.1 | exact Ne.symm h_.1.2.2.2 | exact Ne.symm h_.1.1.2.2.1 | exact Ne.symm h_.1.1.2.2.2) _⟩, ⟨by (try simp only [hl0_24]); (try simp only [hl0_4]); (with_reducible repeat (first | refine blk_drewN ?_ _ | refine blk_drew ?_ | refine blk_alloc ?_ _)); exact blk_far BK538.out (by have h_ := (Kd.S_R HO_0.out).1 _ rfl; first | exact Ne.symm h_.2.2.1 | exact Ne.symm h_.2.2.2 | exact Ne.symm h_.2.2.2.1 | exact Ne.symm h_.2.2.2.2 | exact Ne.symm h_.1.2.2.1 | exact Ne.symm h_.1.2.2.2 | exact Ne.symm h_.1.1.2.2.1 | exact Ne.symm h_.1.1.2.2.2) _⟩, ⟨by repeat (first | (with_reducible first | exact HK.out | apply Kept.alloc | apply Kept.drewN | apply Kept.drew | refine Kept.setCell ?_ HMgo52.out _ | refine Kept.setCell ?_ (.inr GW537.out) _ | refine Kept.setCell ?_ (.inr GW538.out) _) | exact HK.out)⟩, ⟨by repeat (first | (with_reducible first | exact HB.out | apply below_alloc | apply pw_below_drewN | apply below_drew1 | refine below_set ?_ GB52.out | refine below_set ?_ GE537.out | refine below_set ?_ GE538.out) | exact HB.out)⟩⟩
                        ·rw [if_neg c67] at H
                         exact absurd H (by simp)
                       ·rw [if_neg c66] at H
                        exact absurd H (by simp)
                     ·rw [if_neg c64] at H
                      exact absurd H (by simp)
                    ·rw [if_neg c63] at H
                     exact absurd H (by simp)
                   ·rw [if_neg c62] at H
                    exact absurd H (by simp)
                  ·rw [if_neg c61] at H
                   exact absurd H (by simp)
                ·rw [if_neg c59] at H
                 have c59b0 : decide (x98_4 < (x0_24.length : Int)) = false := decide_eq_false c59
                 (try simp only [hl0_24] at c59b0)
                 (try simp only [hl0_4] at c59b0)
                 clear c59
                 by_cases c73 : x539001_1.length < 17592186044416
                 ·rw [if_pos c73] at H
                  have LMc73 := Aside0.mk c73
                  clear c73
                  obtain ⟨y570, hy570⟩ : ∃ y_ : List Int, y_ = (x539001_1 ++ [x14_1]) := ⟨_, rfl⟩
                  replace H : (impl_eliminate.l0 k4 x0_4 a2 a1 (wrap64 (x14_1 + 1)) y570 (Int.tmod (wrap64 (x539002_24 * (rd (rd_L1 x0_24 (x539001_1.length : Int)) x14_1))) a2)) = some (r1, r2, r3) := by first | (rw [hy570]; with_reducible exact H) | (have H2_ := (Option.bind_some _ _).symm.trans H; rw [hy570]; with_reducible exact H2_) | (have H2_ := (Option.bind_some _ _).symm.trans H; with_reducible exact H2_) | with_reducible exact H | (rw [hy570]; exact H) | exact H
                  have Ny570 := Aside0.mk hy570
                  clear hy570
                  have H' := Aside0.mk H
                  clear H
                  have hnb74 := NB538_537.out
                  have hnc74 := NB537_538.out
                  have hcz75_0 : wr.cell? ⟨gb538, 0, none⟩ = some (.slice none 0 0) := (blk_cell BK538.out 0).trans rfl
                  have hcz75_1 : wr.cell? ⟨gb538, 1, none⟩ = some (.slice Ao12 x539001_1.length co12) := (blk_cell BK538.out 1).trans rfl
                  have hcz75_2 : wr.cell? ⟨gb538, 2, none⟩ = some (.int .i64 (Int.tmod (wrap64 (x539002_24 * (rd (rd_L1 x0_24 (x539001_1.length : Int)) x14_1))) a2)) := (blk_cell BK538.out 2).trans rfl
                  have hfz75_0 := blk_frozen BK538.out 0
                  have hfz75_1 := blk_frozen BK538.out 1
                  have hfz75_2 := blk_frozen BK538.out 2
                  go_wp2_with (first | ((with_reducible refine gate_builtin (b := .append) (xs := #[.tmp 137, .tmp 139]) rfl ?_); at_builtin; refine Kd.R_append (Kd.int .i64) (w0 := w0) w0.heap.size rfl (.tmp 137) (.tmp 139) 22 3 (.int .i64 0) 8 rfl Try.underlying22 info3 rfl (by decide) (by omega) (.slice Ao12 x539001_1.length co12) x539001_1 x14_1 [.int .i64 x14_1] (fun k_ => (P0_ k_ ∨ w.heap.size ≤ k_)) (fun _ => False) rfl rfl ?aP (fun _ hk => hk.elim) ?aF ?aO ?aB ?aS ?aL ?_; (case aP => exact rfl); (case aB => exact (by repeat (first | (with_reducible first | exact HB.out | apply below_alloc | apply pw_below_drewN | apply below_drew1 | refine below_set ?_ GE537.out | refine below_set ?_ GE538.out) | exact HB.out))); (case aF => exact (fun k_ hk => (.inr (Nat.le_trans (by first | exact HK.out.1 | exact (show Kept w _ (fun k_ => P0_ k_) from by repeat (first | (with_reducible first | exact HK.out | apply Kept.alloc | apply Kept.drewN | apply Kept.drew | refine Kept.setCell ?_ (.inr GW537.out) _ | refine Kept.setCell ?_ (.inr GW538.out) _) | exact HK.out)).1) hk)))); (case aO => exact (by (with_reducible repeat (first | apply Kd.R_alloc | apply Kd.R_drewN | apply Kd.R_drew)); exact HO_539001.out)); (case aS => exact (below_size (by repeat (first | (with_reducible first | exact HB.out | apply below_alloc | apply pw_below_drewN | apply below_drew1 | refine below_set ?_ GE537.out | refine below_set ?_ GE538.out) | exact HB.out)))); (case aL => have := LMc73.out; omega); intro v571 w76 ho hb hg hat; rw [← Ny570.out] at ho; have n0_ := Aside0.mk (Kd.S_after (ok := (fun k_ => (P0_ k_ ∨ w.heap.size ≤ k_) ∧ k_ ≠ gb537 ∧ k_ ≠ gb538)) (by (with_reducible repeat (first | apply Kd.S_alloc | apply Kd.S_drewN | apply Kd.S_drew)); exact Kd.S_mono HO_0.out (fun _ hk => ⟨⟨hk.1, ⟨hk.2.2.1, hk.2.2.2⟩⟩, hk.2.1⟩)) hg hat); have n1_ := Aside0.mk (blk_grown (g := gb537) (o := .cells #[.slice none 0 0, .slice none 0 0, .int .i64 0] 60 (0, 0)) (by (with_reducible repeat (first | refine blk_drewN ?_ _ | refine blk_drew ?_ | refine blk_alloc ?_ _)); exact BK537.out) hg (Kd.R_ne HO_539001.out BK537.out (by decide))); have n2_ := Aside0.mk (blk_grown (g := gb538) (o := .cells #[.slice none 0 0, .slice Ao12 x539001_1.length co12, .int .i64 (Int.tmod (wrap64 (x539002_24 * (rd (rd_L1 x0_24 (x539001_1.length : Int)) x14_1))) a2)] 60 (0, 0)) (by (with_reducible repeat (first | refine blk_drewN ?_ _ | refine blk_drew ?_ | refine blk_alloc ?_ _)); exact BK538.out) hg (Kd.R_ne HO_539001.out BK538.out (by decide))); have n3_ := Aside0.mk (hb); have n4_ := Aside0.mk (Kept.of_grown (S := (fun k_ => P0_ k_)) hg (by repeat (first | (with_reducible first | exact HK.out | apply Kept.alloc | apply Kept.drewN | apply Kept.drew | refine Kept.setCell ?_ (.inr GW537.out) _ | refine Kept.setCell ?_ (.inr GW538.out) _) | exact HK.out)) (fun k_ e_ => (HO_539001.out.1 k_ e_))); have n5_ := Aside0.mk (ho); clear HO_0; clear BK537; clear BK538; clear HB; clear HK; clear HO_539001; have HO_0 := n0_; have BK537 := n1_; have BK538 := n2_; have HB := n3_; have HK := n4_; have HO572 := n5_; clear n0_ n1_ n2_ n3_ n4_ n5_; clear ho hb hg hat; obtain ⟨Ao77, co77, eo77⟩ := Kd.R_slice HO572.out; subst eo77; have hcz78_0 : w76.cell? ⟨gb538, 0, none⟩ = some (.slice none 0 0) := (blk_cell BK538.out 0).trans rfl; have hcz78_1 : w76.cell? ⟨gb538, 1, none⟩ = some (.slice Ao12 x539001_1.length co12) := (blk_cell BK538.out 1).trans rfl; have hcz78_2 : w76.cell? ⟨gb538, 2, none⟩ = some (.int .i64 (Int.tmod (wrap64 (x539002_24 * (rd (rd_L1 x0_24 (x539001_1.length : Int)) x14_1))) a2)) := (blk_cell BK538.out 2).trans rfl; have hfz78_0 := blk_frozen BK538.out 0; have hfz78_1 := blk_frozen BK538.out 1; have hfz78_2 := blk_frozen BK538.out 2))
                  (try simp only [← hl0_24, ← hl0_4])
                  go_roundg k4
                  case measure => have := HK1.out; have := HJ8.out; have := HJ24.out; have := HK4.out; omega
                  case rel => exact ⟨(x0_4), (wrap64 (x14_1 + 1)), (y570), ((Int.tmod (wrap64 (x539002_24 * (rd (rd_L1 x0_24 (x539001_1.length : Int)) x14_1))) a2)), (.slice Ao77 y570.length co77), (by first | rfl | (simp; done) | (simp [*]; done)), H', ⟨by have := HK1.out; have := HJ8.out; have := HJ24.out; have := HK4.out; omega⟩, ⟨by (try simp only [hl0_24]); (try simp only [hl0_4]); (with_reducible repeat (first | apply Kd.S_alloc | apply Kd.S_drewN | apply Kd.S_drew)); exact Kd.S_mono (Kd.S_far (p := ⟨gb538, 1, none⟩) (Kd.S_mono HO_0.out (fun k_ hk => (⟨hk, hk.1.2.2⟩ : _ ∧ k_ ≠ gb538))) (fun _ hk => hk.2) (.slice Ao77 y570.length co77)) (fun _ hk => ⟨hk.1.1.1, ⟨hk.1.2, ⟨hk.1.1.2.1, hk.1.1.2.2⟩⟩⟩)⟩, ⟨by (try simp only [hl0_24]); (try simp only [hl0_4]); (with_reducible repeat (first | apply Kd.R_alloc | apply Kd.R_drewN | apply Kd.R_drew)); exact Kd.R_mono (Kd.R_far (p := ⟨gb538, 1, none⟩) (Kd.R_types HO572.out BK538.out (by decide)) (fun _ hk => hk.2) (.slice Ao77 y570.length co77)) (fun _ hk => hk.1)⟩, ⟨by (try simp only [hl0_24]); (try simp only [hl0_4]); (with_reducible repeat (first | refine blk_drewN ?_ _ | refine blk_drew ?_ | refine blk_alloc ?_ _)); refine blk_far ?_ NB537_538.out _; (with_reducible repeat (first | refine blk_drewN ?_ _ | refine blk_drew ?_ | refine blk_alloc ?_ _)); exact BK537.out⟩, ⟨by (try simp only [hl0_24]); (try simp only [hl0_4]); (with_reducible repeat (first | refine blk_drewN ?_ _ | refine blk_drew ?_ | refine blk_alloc ?_ _)); refine blk_put (cs := #[.slice none 0 0, .slice Ao12 x539001_1.length co12, .int .i64 (Int.tmod (wrap64 (x539002_24 * (rd (rd_L1 x0_24 (x539001_1.length : Int)) x14_1))) a2)]) ?_ 1 _ rfl; (with_reducible repeat (first | refine blk_drewN ?_ _ | refine blk_drew ?_ | refine blk_alloc ?_ _)); exact BK538.out⟩, ⟨by repeat (first | (with_reducible first | exact HK.out | apply Kept.alloc | apply Kept.drewN | apply Kept.drew | refine Kept.setCell ?_ (.inr GW537.out) _ | refine Kept.setCell ?_ (.inr GW538.out) _) | exact HK.out)⟩, ⟨by repeat (first | (with_reducible first | exact HB.out | apply below_alloc | apply pw_below_drewN | apply below_drew1 | refine below_set ?_ GE537.out | refine below_set ?_ GE538.out) | exact HB.out)⟩⟩
                 ·rw [if_neg c73] at H
                  exact absurd H (by simp)
            ·rw [if_neg c48] at H
             exact absurd H (by simp)
           ·rw [if_neg c47] at H
            exact absurd H (by simp)
          ·rw [if_neg c46] at H
           exact absurd H (by simp)
         ·rw [if_neg c45] at H
          exact absurd H (by simp)
   ·rw [if_neg c8] at H
    have c8b0 : decide (x14_1 < a1) = false := decide_eq_false c8
    clear c8
    simp only [Option.some.injEq, Prod.mk.injEq] at H
    obtain ⟨rfl, rfl, rfl⟩ := H
    obtain ⟨Ao79, co79, eo79⟩ := Kd.S_slice HO_0.out
    subst eo79
    have hnb80 := NB538_537.out
    have hnc80 := NB537_538.out
    have hcz81_0 : wr.cell? ⟨gb538, 0, none⟩ = some (.slice none 0 0) := (blk_cell BK538.out 0).trans rfl
    have hcz81_1 : wr.cell? ⟨gb538, 1, none⟩ = some (u539001) := (blk_cell BK538.out 1).trans rfl
    have hcz81_2 : wr.cell? ⟨gb538, 2, none⟩ = some (.int .i64 x539002_1) := (blk_cell BK538.out 2).trans rfl
    have hfz81_0 := blk_frozen BK538.out 0
    have hfz81_1 := blk_frozen BK538.out 1
    have hfz81_2 := blk_frozen BK538.out 2
    have hcz82_0 : wr.cell? ⟨gb537, 0, none⟩ = some (.slice none 0 0) := (blk_cell BK537.out 0).trans rfl
    have hcz82_1 : wr.cell? ⟨gb537, 1, none⟩ = some (.slice none 0 0) := (blk_cell BK537.out 1).trans rfl
    have hcz82_2 : wr.cell? ⟨gb537, 2, none⟩ = some (.int .i64 0) := (blk_cell BK537.out 2).trans rfl
    have hfz82_0 := blk_frozen BK537.out 0
    have hfz82_1 := blk_frozen BK537.out 1
    have hfz82_2 := blk_frozen BK537.out 2
    obtain ⟨Ao83, co83, eo83⟩ := Kd.R_slice HO_539001.out
    subst eo83
    go_wp2
    refine bodyPost_ret (results_cell_row rfl _ _ gb537 60 #[.slice Ao79 x0_1.length co79, .slice Ao83 x539001_1.length co83, .int .i64 x539002_1] (0, 0) _ rfl (by (with_reducible repeat (first | refine blk_drewN ?_ _ | refine blk_drew ?_ | refine blk_alloc ?_ _)); refine blk_put (cs := #[.slice Ao79 x0_1.length co79, .slice Ao83 x539001_1.length co83, .int .i64 0]) ?_ 2 _ rfl; (with_reducible repeat (first | refine blk_drewN ?_ _ | refine blk_drew ?_ | refine blk_alloc ?_ _)); refine blk_put (cs := #[.slice Ao79 x0_1.length co79, .slice none 0 0, .int .i64 0]) ?_ 1 _ rfl; (with_reducible repeat (first | refine blk_drewN ?_ _ | refine blk_drew ?_ | refine blk_alloc ?_ _)); refine blk_put (cs := #[.slice none 0 0, .slice none 0 0, .int .i64 0]) ?_ 0 _ rfl; (with_reducible repeat (first | refine blk_drewN ?_ _ | refine blk_drew ?_ | refine blk_alloc ?_ _)); refine blk_far ?_ NB537_538.out _; (with_reducible repeat (first | refine blk_drewN ?_ _ | refine blk_drew ?_ | refine blk_alloc ?_ _)); exact BK537.out) Try.underlying60 rfl (by kernel_rfl)) rfl ?_
    exact ⟨_, _, by first | rfl | (simp [errW_none, errW_some] <;> rfl) | (simp [*, errW_none, errW_some] <;> rfl), by (with_reducible repeat (first | apply Kd.S_alloc | apply Kd.S_drewN | apply Kd.S_drew)); exact Kd.S_mono (Kd.S_far (p := ⟨gb537, 2, none⟩) (Kd.S_far (p := ⟨gb537, 1, none⟩) (Kd.S_far (p := ⟨gb537, 0, none⟩) (Kd.S_far (p := ⟨gb538, 0, none⟩) (Kd.S_mono (Kd.S_mono HO_0.out (fun k_ hk => (⟨hk, hk.2.2.2⟩ : _ ∧ k_ ≠ gb538))) (fun k_ hk => (⟨hk, hk.1.2.2.1⟩ : _ ∧ k_ ≠ gb537))) (fun _ hk => hk.1.2) (.slice Ao79 x0_1.length co79)) (fun _ hk => hk.2) (.slice Ao79 x0_1.length co79)) (fun _ hk => hk.2) (.slice Ao83 x539001_1.length co83)) (fun _ hk => hk.2) (.int .i64 x539002_1)) (fun _ hk => ⟨hk.1.1.1, hk.1.1.2.1⟩), by (with_reducible repeat (first | apply Kd.R_alloc | apply Kd.R_drewN | apply Kd.R_drew)); exact Kd.R_mono (Kd.R_far (p := ⟨gb537, 2, none⟩) (Kd.R_far (p := ⟨gb537, 1, none⟩) (Kd.R_far (p := ⟨gb537, 0, none⟩) (Kd.R_far (p := ⟨gb538, 0, none⟩) (Kd.R_types (Kd.R_types HO_539001.out BK538.out (by decide)) BK537.out (by decide)) (fun _ hk => hk.1.2) (.slice Ao79 x0_1.length co79)) (fun _ hk => hk.2) (.slice Ao79 x0_1.length co79)) (fun _ hk => hk.2) (.slice Ao83 x539001_1.length co83)) (fun _ hk => hk.2) (.int .i64 x539002_1)) (fun _ hk => hk.1.1), by repeat (first | (with_reducible first | exact HB.out | apply below_alloc | apply pw_below_drewN | apply below_drew1 | refine below_set ?_ GE537.out | refine below_set ?_ GE538.out) | exact HB.out), by repeat (first | (with_reducible first | exact HK.out | apply Kept.alloc | apply Kept.drewN | apply Kept.drew | refine Kept.setCell ?_ (.inr GW537.out) _ | refine Kept.setCell ?_ (.inr GW538.out) _) | exact HK.out)⟩
end Go.Proofs.Ytbbdjoahdbjljaa.P
