-- Written by a program of this session (wip/mp.py), which runs the kit's print with contracts of the session's own.
import Derived.Test.YtdpdmhjmmpncoaaPx0
import Derived.Test.YtdpdmhjmmpncoaaPx7
import Derived.Test.YtdpdmhjmmpncoaaPx40
namespace Go.Proofs.Ytdpdmhjmmpncoaa.P
open Go.RowKit Go.Proofs.YtdpdmhjmmpncoaaW.PrintWords Go.Proofs.YtdpdmhjmmpncoaaW.PrintLast Go.Proofs.YtdpdmhjmmpncoaaW.PrintMore
attribute [local go_sem] max2_int min2_int max_two min_two max_three min_three max_four min_four   -- for this text's walks alone
set_option linter.unusedVariables false
set_option linter.unusedSimpArgs false

/-! ### impl_MatchingOf: function 50 -/
-- BY HAND
def impl_MatchingOf.f (k : Nat) (l0_0 : List Int) (a0_1 : Bool) : Option (List (List Int) × Bool) :=
  (impl_isForest.f k l0_0 a0_1).bind fun t => if t = true then (impl_Graph_matching.f k l0_0 a0_1).bind fun m => some (m, true) else some ([], false)
theorem impl_MatchingOf.mono : ∀ l0_0 a0_1 k, LeO (impl_MatchingOf.f k l0_0 a0_1) (impl_MatchingOf.f (k + 1) l0_0 a0_1) := fun l0_0 a0_1 k => LeO.bind (impl_isForest.mono l0_0 a0_1 k) (fun t => LeO.ite (LeO.bind (impl_Graph_matching.mono l0_0 a0_1 k) (fun _ => LeO.refl _)) (LeO.refl _))
set_option maxHeartbeats 8000000 in
set_option maxRecDepth 100000 in
theorem impl_MatchingOf.calls (k : Nat) (A0_0 : Option Addr) (c0_0 : Nat) (l0_0 : List Int) (a0_1 : Bool) (r1 : List (List Int)) (r2 : Bool) (w : World) (hr0_0 : Kd.C (Kd.int .i64) w A0_0 l0_0.length l0_0) (hc0_0 : l0_0.length ≤ c0_0) (h : impl_MatchingOf.f k l0_0 a0_1 = some (r1, r2)) :
    Calls Try.prog 50 #[.agg #[.slice A0_0 l0_0.length c0_0, .bool a0_1]] w fun e w' => ∃ v0_ : Value, e = .returned (.tuple #[v0_, .bool r2]) ∧ Kd.S (Kd.slice 3 (Kd.int .i64)) 22 w' w.heap.size (fun _ => True) v0_ r1 ∧ Below w.heap.size w w' := by
  have hu28 := Try.underlying28
  unfold impl_MatchingOf.f at h
  obtain ⟨t, hg, h⟩ := Option.bind_eq_some_iff.mp h
  have HGG := Aside0.mk (fun (W : World) (hB : Below w.heap.size w W) => impl_isForest.calls k A0_0 c0_0 l0_0 a0_1 t W (Kd.C_below hr0_0 hB) hc0_0 hg)
  have hbx := blk_new w (.cells #[.slice A0_0 l0_0.length c0_0, .bool a0_1] 28)
  have HB := Aside0.mk (below_alloc (Below.refl w.heap.size w) (.cells #[.slice A0_0 l0_0.length c0_0, .bool a0_1] 28))
  have HBX := Aside0.mk (fun (W : World) (hB : Below (w.alloc (.cells #[.slice A0_0 l0_0.length c0_0, .bool a0_1] 28)).heap.size (w.alloc (.cells #[.slice A0_0 l0_0.length c0_0, .bool a0_1] 28)) W) => blk_below hbx hB)
  clear hg
  have hz0 : (w.alloc (.cells #[.slice A0_0 l0_0.length c0_0, .bool a0_1] 28)).cell? ⟨w.heap.size, 0, none⟩ = some (.slice A0_0 l0_0.length c0_0) := (blk_cell hbx 0).trans rfl
  have hz1 : (w.alloc (.cells #[.slice A0_0 l0_0.length c0_0, .bool a0_1] 28)).cell? ⟨w.heap.size, 1, none⟩ = some (.bool a0_1) := (blk_cell hbx 1).trans rfl
  clear hbx
  cases t with
  | false =>
    rw [if_neg (by simp)] at h
    injection h with h
    injection h with e1 e2
    subst e1 e2
    go_enter Try.func50, Try.ntmps50
    go_wp2_with (go_at_call 58; refine (HGG.out _ HB.out).mono ?_; rintro e w2 ⟨rfl, hb2⟩; have HB2 := Aside0.mk (below_step HB.out hb2); clear hb2 hz0 hz1)
    go_ret2
    exact ⟨_, by first | rfl | (simp; done), Kd.S_nil _ _ _ _ _, HB2.out⟩
  | true =>
    rw [if_pos rfl] at h
    obtain ⟨m, h1, h⟩ := Option.bind_eq_some_iff.mp h
    have HC1 := Aside0.mk (fun (W : World) (hB : Below w.heap.size w W) => impl_Graph_matching.calls k A0_0 c0_0 l0_0 a0_1 m W (Kd.C_below hr0_0 hB) hc0_0 h1)
    injection h with h
    injection h with e1 e2
    subst e1 e2
    clear h1
    go_enter Try.func50, Try.ntmps50
    go_wp2_with (first
      | (go_at_call 58; refine (HGG.out _ HB.out).mono ?_; rintro e w2 ⟨rfl, hb2⟩; have HB2 := Aside0.mk (below_step HB.out hb2); have HBK2 := Aside0.mk (HBX.out w2 hb2); clear hz0 hz1; have hz0 : w2.cell? ⟨w.heap.size, 0, none⟩ = some (.slice A0_0 l0_0.length c0_0) := (blk_cell HBK2.out 0).trans rfl; have hz1 : w2.cell? ⟨w.heap.size, 1, none⟩ = some (.bool a0_1) := (blk_cell HBK2.out 1).trans rfl; clear hb2)
      | (go_at_call 76; refine (HC1.out _ HB2.out).mono ?_; rintro e w3 ⟨v3, rfl, hS3, hb3⟩; obtain ⟨A3, c3, rfl⟩ := Kd.S_slice hS3; have HS3 := Aside0.mk (Kd.S_lower hS3 HB2.out.size); have HB3 := Aside0.mk (below_step HB2.out hb3); clear hb3 hS3 HB2 hz0 hz1))
    go_ret2
    exact ⟨_, by first | rfl | (simp; done), HS3.out, HB3.out⟩

end Go.Proofs.Ytdpdmhjmmpncoaa.P
