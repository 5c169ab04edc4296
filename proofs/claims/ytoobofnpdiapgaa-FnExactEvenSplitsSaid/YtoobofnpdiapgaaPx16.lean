-- Written by a program of this session (wip/mp.py), which runs the kit's print with contracts of the session's own.
import Derived.Test.YtoobofnpdiapgaaPx0
import Derived.Test.YtoobofnpdiapgaaPx1
import Derived.Test.YtoobofnpdiapgaaPx10
import Derived.Test.YtoobofnpdiapgaaPx12
import Derived.Test.YtoobofnpdiapgaaPx13
import Derived.Test.YtoobofnpdiapgaaPx14
import Derived.Test.YtoobofnpdiapgaaPx15
namespace Go.Proofs.Ytoobofnpdiapgaa.P
open Go.RowKit Go.Proofs.YtoobofnpdiapgaaW.PrintWords Go.Proofs.YtoobofnpdiapgaaW.PrintLast Go.Proofs.YtoobofnpdiapgaaW.PrintMore
attribute [local go_sem] max2_int min2_int max_two min_two max_three min_three max_four min_four   -- for this text's walks alone
set_option linter.unusedVariables false
set_option linter.unusedSimpArgs false

/-! ### impl_split: function 48 -/
-- BY HAND
section
open Go.Proofs.Ytoobofnpdiapgaa.Bk Go.Shelf
def impl_split.fk (k j : Nat) (l0_0 : List Int) (a0_1 : Bool) (a1 : Int) : Option (Int × Bool) :=
  (impl_isGraph.f j l0_0 a0_1).bind fun t => if t = true then (splF a1 l0_0 0 [] 0).bind fun ED => (solF k ED.1 0 [] [] []).bind fun s => (reachL s.1 k ED.2 0).bind fun lr => (impl_reduced.f s.2.1 lr.2).bind fun r => impl_told.f r (lr.1 == 0) else some (0, false)
set_option maxHeartbeats 8000000 in
set_option maxRecDepth 100000 in
theorem impl_split.callsk (k j : Nat) (A0_0 : Option Addr) (c0_0 : Nat) (l0_0 : List Int) (a0_1 : Bool) (a1 : Int) (r1 : Int) (r2 : Bool) (w : World) (hr0_0 : Kd.C (Kd.int .i64) w A0_0 l0_0.length l0_0) (hc0_0 : l0_0.length ≤ c0_0) (h : impl_split.fk k j l0_0 a0_1 a1 = some (r1, r2)) :
    Calls Try.prog 48 #[.agg #[.slice A0_0 l0_0.length c0_0, .bool a0_1], .int .i64 a1] w fun e w' => e = .returned (.tuple #[.int .i64 r1, .bool r2]) ∧ Below w.heap.size w w' := by
  have hu28 := Try.underlying28
  unfold impl_split.fk at h
  obtain ⟨t, hg, h⟩ := Option.bind_eq_some_iff.mp h
  have HG := Aside0.mk (fun (W : World) (hB : Below w.heap.size w W) => impl_isGraph.calls j A0_0 c0_0 l0_0 a0_1 t W (Kd.C_below hr0_0 hB) hc0_0 hg)
  have hbx := blk_new w (.cells #[.slice A0_0 l0_0.length c0_0, .bool a0_1] 28)
  have HB := Aside0.mk (below_alloc (Below.refl w.heap.size w) (.cells #[.slice A0_0 l0_0.length c0_0, .bool a0_1] 28))
  have HBX := Aside0.mk (fun (W : World) (hB : Below (w.alloc (.cells #[.slice A0_0 l0_0.length c0_0, .bool a0_1] 28)).heap.size (w.alloc (.cells #[.slice A0_0 l0_0.length c0_0, .bool a0_1] 28)) W) => blk_below hbx hB)
  clear hg hbx
  cases t with
  | false =>
    rw [if_neg (by simp)] at h
    injection h with h
    injection h with e1 e2
    subst e1 e2
    go_enter Try.func48, Try.ntmps48
    go_wp2_with (go_at_call 74; refine (HG.out _ HB.out).mono ?_; rintro e w2 ⟨rfl, hb2⟩; have HB2 := Aside0.mk (below_step HB.out hb2); clear hb2)
    go_ret2
    exact ⟨by first | rfl | (simp; done), HB2.out⟩
  | true =>
    rw [if_pos rfl] at h
    obtain ⟨⟨E, D⟩, h1, h⟩ := Option.bind_eq_some_iff.mp h
    obtain ⟨⟨ps, qs, is⟩, h2, h⟩ := Option.bind_eq_some_iff.mp h
    obtain ⟨⟨rl, rp⟩, h3, h⟩ := Option.bind_eq_some_iff.mp h
    obtain ⟨r, h4, h⟩ := Option.bind_eq_some_iff.mp h
    have HC1 := Aside0.mk (fun (W : World) (hB : Below w.heap.size w W) => impl_Graph_splits.calls k A0_0 c0_0 l0_0 a0_1 a1 E D ps qs is W (Kd.C_below hr0_0 hB) h1 h2)
    have HC2 := Aside0.mk (fun (W : World) (base g : Nat) (hS : SVx base g ps qs is W) => impl_solver_solve.calls k base g ps qs is D rl rp r W hS h3 h4)
    have HC3 := Aside0.mk (fun (W : World) => impl_told.calls r (rl == 0) r1 r2 W h)
    clear h1 h2 h3 h4 h
    go_enter Try.func48, Try.ntmps48
    go_wp2_with (first
      | (go_at_call 74; refine (HG.out _ HB.out).mono ?_; rintro e w2 ⟨rfl, hb2⟩; have HB2 := Aside0.mk (below_step HB.out hb2); have hbx2 := HBX.out w2 hb2; have hz0 := (blk_cell hbx2 0).trans rfl; have hz1 := (blk_cell hbx2 1).trans rfl; clear hb2 hbx2)
      | (go_at_call 50; refine (HC1.out _ HB2.out).mono ?_; rintro e w3 ⟨g, rfl, hS3, hb3⟩; have HS3 := Aside0.mk hS3; have HB3 := Aside0.mk (below_step HB2.out hb3); clear hb3 hS3 HB2 hz0 hz1)
      | (go_at_call 76; refine (HC2.out _ _ g HS3.out).mono ?_; rintro e w4 ⟨rfl, hb4⟩; have HB4 := Aside0.mk (below_step HB3.out hb4); clear hb4 HS3 HB3)
      | (go_at_call 75; refine (HC3.out _).mono ?_; rintro e w' ⟨rfl, ⟨nd, rfl⟩⟩))
    go_ret2
    exact ⟨by first | rfl | (simp; done), by first | exact HB4.out | exact pw_below_drewN HB4.out _⟩
def impl_split.f (k : Nat) (l0_0 : List Int) (a0_1 : Bool) (a1 : Int) : Option (Int × Bool) := impl_split.fk 1000 k l0_0 a0_1 a1
theorem impl_split.mono : ∀ l0_0 a0_1 a1 k, LeO (impl_split.f k l0_0 a0_1 a1) (impl_split.f (k + 1) l0_0 a0_1 a1) := fun l0_0 a0_1 a1 k => LeO.bind (impl_isGraph.mono l0_0 a0_1 k) (fun _ => LeO.refl _)
theorem impl_split.calls (k : Nat) (A0_0 : Option Addr) (c0_0 : Nat) (l0_0 : List Int) (a0_1 : Bool) (a1 : Int) (r1 : Int) (r2 : Bool) (w : World) (hr0_0 : Kd.C (Kd.int .i64) w A0_0 l0_0.length l0_0) (hc0_0 : l0_0.length ≤ c0_0) (h : impl_split.f k l0_0 a0_1 a1 = some (r1, r2)) :
    Calls Try.prog 48 #[.agg #[.slice A0_0 l0_0.length c0_0, .bool a0_1], .int .i64 a1] w fun e w' => e = .returned (.tuple #[.int .i64 r1, .bool r2]) ∧ Below w.heap.size w w' := impl_split.callsk 1000 k A0_0 c0_0 l0_0 a0_1 a1 r1 r2 w hr0_0 hc0_0 h
end

end Go.Proofs.Ytoobofnpdiapgaa.P
