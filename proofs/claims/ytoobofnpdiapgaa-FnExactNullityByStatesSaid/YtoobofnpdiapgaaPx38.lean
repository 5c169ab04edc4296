-- Written by a program of this session (wip/mp.py), which runs the kit's print with contracts of the session's own.
import Derived.Test.YtoobofnpdiapgaaPx0
import Derived.Test.YtoobofnpdiapgaaPx1
import Derived.Test.YtoobofnpdiapgaaPx12
import Derived.Test.YtoobofnpdiapgaaPx33
namespace Go.Proofs.Ytoobofnpdiapgaa.P
open Go.RowKit Go.Proofs.YtoobofnpdiapgaaW.PrintWords Go.Proofs.YtoobofnpdiapgaaW.PrintLast Go.Proofs.YtoobofnpdiapgaaW.PrintMore
attribute [local go_sem] max2_int min2_int max_two min_two max_three min_three max_four min_four   -- for this text's walks alone
set_option linter.unusedVariables false
set_option linter.unusedSimpArgs false
/-! ### impl_NullityOf: function 60 -/
-- BY HAND
section
open Go.Proofs.Ytoobofnpdiapgaa.Bk Go.Shelf
def impl_NullityOf.fk (k j : Nat) (l0_0 : List Int) (a0_1 : Bool) : Option (Int × Bool) :=
  (impl_isGraph.f j l0_0 a0_1).bind fun t => if t = true then (tgF l0_0 a0_1 l0_0.length 0 []).bind fun E => (solF k E 0 [] [] []).bind fun s => some ((s.2.1.length : Int), true) else some (0, false)
set_option maxHeartbeats 8000000 in
set_option maxRecDepth 100000 in
theorem impl_NullityOf.callsk (k j : Nat) (A0_0 : Option Addr) (c0_0 : Nat) (l0_0 : List Int) (a0_1 : Bool) (r1 : Int) (r2 : Bool) (w : World) (hr0_0 : Kd.C (Kd.int .i64) w A0_0 l0_0.length l0_0) (hc0_0 : l0_0.length ≤ c0_0) (h : impl_NullityOf.fk k j l0_0 a0_1 = some (r1, r2)) :
    Calls Try.prog 60 #[.agg #[.slice A0_0 l0_0.length c0_0, .bool a0_1]] w fun e w' => e = .returned (.tuple #[.int .i64 r1, .bool r2]) ∧ Below w.heap.size w w' := by
  have hu28 := Try.underlying28
  unfold impl_NullityOf.fk at h
  obtain ⟨t, hg, h⟩ := Option.bind_eq_some_iff.mp h
  have HGG := Aside0.mk (fun (W : World) (hB : Below w.heap.size w W) => impl_isGraph.calls j A0_0 c0_0 l0_0 a0_1 t W (Kd.C_below hr0_0 hB) hc0_0 hg)
  have hbx := blk_new w (.cells #[.slice A0_0 l0_0.length c0_0, .bool a0_1] 28)
  have HB := Aside0.mk (below_alloc (Below.refl w.heap.size w) (.cells #[.slice A0_0 l0_0.length c0_0, .bool a0_1] 28))
  have HBX := Aside0.mk (fun (W : World) (hB : Below (w.alloc (.cells #[.slice A0_0 l0_0.length c0_0, .bool a0_1] 28)).heap.size (w.alloc (.cells #[.slice A0_0 l0_0.length c0_0, .bool a0_1] 28)) W) => blk_below hbx hB)
  clear hg
  cases t with
  | false =>
    rw [if_neg (by simp)] at h
    injection h with h
    injection h with e1 e2
    subst e1 e2
    clear hbx
    go_enter Try.func60, Try.ntmps60
    go_wp2_with (go_at_call 74; refine (HGG.out _ HB.out).mono ?_; rintro e w2 ⟨rfl, hb2⟩; have HB2 := Aside0.mk (below_step HB.out hb2); clear hb2)
    go_ret2
    exact ⟨by first | rfl | (simp; done), HB2.out⟩
  | true =>
    rw [if_pos rfl] at h
    obtain ⟨E, h1, h⟩ := Option.bind_eq_some_iff.mp h
    obtain ⟨⟨ps, qs, is⟩, h2, h⟩ := Option.bind_eq_some_iff.mp h
    have HC1 := Aside0.mk (fun (W : World) (hB : Below w.heap.size w W) => impl_solverOf.calls k A0_0 c0_0 l0_0 a0_1 E ps qs is W (Kd.C_below hr0_0 hB) hc0_0 h1 h2)
    injection h with h
    injection h with e1 e2
    subst e1 e2
    clear h1 h2 hbx
    dsimp only
    go_enter Try.func60, Try.ntmps60
    go_wp2_with (first
      | (go_at_call 74; refine (HGG.out _ HB.out).mono ?_; rintro e w2 ⟨rfl, hb2⟩; have HB2 := Aside0.mk (below_step HB.out hb2); have HBK2 := Aside0.mk (HBX.out w2 hb2); have hz0 : w2.cell? ⟨w.heap.size, 0, none⟩ = some (.slice A0_0 l0_0.length c0_0) := (blk_cell HBK2.out 0).trans rfl; have hz1 : w2.cell? ⟨w.heap.size, 1, none⟩ = some (.bool a0_1) := (blk_cell HBK2.out 1).trans rfl; clear hb2)
      | (go_at_call 87; refine (HC1.out _ HB2.out).mono ?_; rintro e w3 ⟨g, rfl, hS3, hb3⟩; have HS3 := Aside0.mk hS3; have HB3 := Aside0.mk (below_step HB2.out hb3); have HQ3 : ∃ Aq cq, w3.cell? ⟨g, 1, none⟩ = some (.slice Aq qs.length cq) := (by obtain ⟨vp, vq, vi, hS⟩ := hS3; obtain ⟨Aq, cq, rfl⟩ := Kd.R_slice hS.Q; exact ⟨Aq, cq, (blk_cell hS.b 1).trans rfl⟩); obtain ⟨Aq, cq, hzq⟩ := HQ3; clear hb3 hS3 HB2 hz0 hz1))
    go_ret2
    exact ⟨by first | rfl | (simp; done), HB3.out⟩
def impl_NullityOf.f (k : Nat) (l0_0 : List Int) (a0_1 : Bool) : Option (Int × Bool) := impl_NullityOf.fk 1000 k l0_0 a0_1
theorem impl_NullityOf.calls (k : Nat) (A0_0 : Option Addr) (c0_0 : Nat) (l0_0 : List Int) (a0_1 : Bool) (r1 : Int) (r2 : Bool) (w : World) (hr0_0 : Kd.C (Kd.int .i64) w A0_0 l0_0.length l0_0) (hc0_0 : l0_0.length ≤ c0_0) (h : impl_NullityOf.f k l0_0 a0_1 = some (r1, r2)) :
    Calls Try.prog 60 #[.agg #[.slice A0_0 l0_0.length c0_0, .bool a0_1]] w fun e w' => e = .returned (.tuple #[.int .i64 r1, .bool r2]) ∧ Below w.heap.size w w' := impl_NullityOf.callsk 1000 k A0_0 c0_0 l0_0 a0_1 r1 r2 w hr0_0 hc0_0 h
end
end Go.Proofs.Ytoobofnpdiapgaa.P
