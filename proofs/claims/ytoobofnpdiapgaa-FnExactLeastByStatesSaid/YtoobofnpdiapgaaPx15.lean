-- Written by a program of this session (wip/mp.py), which runs the kit's print with contracts of the session's own.
import Derived.Test.YtoobofnpdiapgaaPx0
import Derived.Test.YtoobofnpdiapgaaPx10
namespace Go.Proofs.Ytoobofnpdiapgaa.P
open Go.RowKit Go.Proofs.YtoobofnpdiapgaaW.PrintWords Go.Proofs.YtoobofnpdiapgaaW.PrintLast Go.Proofs.YtoobofnpdiapgaaW.PrintMore
attribute [local go_sem] max2_int min2_int max_two min_two max_three min_three max_four min_four   -- for this text's walks alone
set_option linter.unusedVariables false
set_option linter.unusedSimpArgs false
/-! ### impl_solver_solve: function 76 -/
-- BY HAND
section
open Go.Proofs.Ytoobofnpdiapgaa.Bk Go.Shelf
set_option maxHeartbeats 8000000 in
set_option maxRecDepth 100000 in
theorem impl_solver_solve.calls (k base g : Nat) (ps : List (Int × Int)) (qs is : List Int) (l rl rp r : Int) (w : World) (hs : SVx base g ps qs is w) (h1 : reachL ps k l 0 = some (rl, rp)) (h2 : impl_reduced.f qs rp = some r) :
    Calls Try.prog 76 #[.pointer (some ⟨g, 0, none⟩), .int .i64 l] w fun e w' => e = .returned (.tuple #[.int .i64 r, .bool (rl == 0)]) ∧ Below w.heap.size w w' := by
  obtain ⟨vp, vq, vi, hS⟩ := hs
  obtain ⟨Ap, cp, rfl⟩ := Kd.R_slice hS.P
  obtain ⟨Aq, cq, rfl⟩ := Kd.R_slice hS.Q
  have hc1 := impl_reach.calls k g _ vi Ap cp ps l rl rp w hS.b (Kd.R_reads' hS.P).2.2 h1
  have hc2 := fun (w2 : World) (hb : Below w.heap.size w w2) => impl_reduced.calls Aq cq qs rp r w2 (Kd.R_reads' (hS.below hb).Q).2.2 (Kd.R_reads' (hS.below hb).Q).2.1 h2
  have HS := Aside0.mk hS
  have HC2 := Aside0.mk hc2
  have HC1 := Aside0.mk hc1
  clear hS hc1 hc2 h1 h2
  go_enter Try.func76, Try.ntmps76
  go_wp2_with (first
    | (go_at_call 97; refine HC1.out.mono ?_; rintro e w2 ⟨rfl, hb2⟩; have HB2 := Aside0.mk hb2; have hzq : w2.cell? ⟨g, 1, none⟩ = some (.slice Aq qs.length cq) := (blk_cell (HS.out.below hb2).b 1).trans rfl; clear hb2)
    | (go_at_call 98; refine (HC2.out _ HB2.out).mono ?_; rintro e w3 ⟨rfl, hb3⟩; have HB3 := Aside0.mk (below_step HB2.out hb3); clear hb3 HB2 hzq))
  go_ret2
  exact ⟨by first | rfl | (simp; done), HB3.out⟩
end
end Go.Proofs.Ytoobofnpdiapgaa.P
