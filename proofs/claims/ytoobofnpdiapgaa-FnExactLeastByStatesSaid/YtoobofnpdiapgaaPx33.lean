-- Written by a program of this session (wip/mp.py), which runs the kit's print with contracts of the session's own.
import Derived.Test.YtoobofnpdiapgaaPx0
import Derived.Test.YtoobofnpdiapgaaPx10
import Derived.Test.YtoobofnpdiapgaaPx12
import Derived.Test.YtoobofnpdiapgaaPx32
namespace Go.Proofs.Ytoobofnpdiapgaa.P
open Go.RowKit Go.Proofs.YtoobofnpdiapgaaW.PrintWords Go.Proofs.YtoobofnpdiapgaaW.PrintLast Go.Proofs.YtoobofnpdiapgaaW.PrintMore
attribute [local go_sem] max2_int min2_int max_two min_two max_three min_three max_four min_four   -- for this text's walks alone
set_option linter.unusedVariables false
set_option linter.unusedSimpArgs false
/-! ### impl_solverOf: function 87 -/
-- BY HAND
section
open Go.Proofs.Ytoobofnpdiapgaa.Bk Go.Shelf
/-- The effects of the buttons of a graph, d of them from i on. -/
def tgF (l0 : List Int) (b : Bool) : Nat → Nat → List Int → Option (List Int)
  | 0, _, eff => some eff
  | d + 1, i, eff => (impl_Graph_toggles.f l0 b (i : Int)).bind fun e => if eff.length < 1000000 then tgF l0 b d (i + 1) (eff ++ [e]) else none
set_option maxHeartbeats 8000000 in
set_option maxRecDepth 100000 in
theorem impl_solverOf.calls (k : Nat) (A0 : Option Addr) (c0 : Nat) (l0 : List Int) (b : Bool) (E : List Int) (ps : List (Int × Int)) (qs is : List Int) (w : World) (hr0 : Kd.C (Kd.int .i64) w A0 l0.length l0) (hc0 : l0.length ≤ c0) (h1 : tgF l0 b l0.length 0 [] = some E) (h2 : solF k E 0 [] [] [] = some (ps, qs, is)) :
    Calls Try.prog 87 #[.agg #[.slice A0 l0.length c0, .bool b]] w fun e w' => ∃ g : Nat, e = .returned (.pointer (some ⟨g, 0, none⟩)) ∧ SVx w.heap.size g ps qs is w' ∧ Below w.heap.size w w' := by
  have hm := Kd.C_max hr0
  have HR0 := Aside0.mk hr0
  have HC0 := Aside0.mk hc0
  have H1 := Aside0.mk h1
  have H2 := Aside0.mk h2
  have hu28 := Try.underlying28
  have HB := Aside0.mk (below_alloc (Below.refl w.heap.size w) (.cells #[.slice A0 l0.length c0, .bool b] 28))
  clear hr0 hc0 h1 h2
  go_enter Try.func87, Try.ntmps87
  go_wp2_with ((with_reducible refine gate_dst (N := 5) rfl ?_); refine Kd.R_lit (Kd.int .i64) _ 3 ?hg (N := 5) ?hd (xs := ([] : List Int)) (inner := []) (ok := fun _ => True) (okp := fun _ => True) ?hr ?hp (fun _ hk => hk) trivial (Below.refl _ _) (Nat.le_refl _) (by simp) ?_; (case hd => rfl); (case hg => rfl); (case hr => first | (go_simp; done) | (go_simp; rfl)); (case hp => exact (Reps.none _ _)); intro v1 w1 ho hb hg_ hnew_; clear hg_ hnew_; have HO := Aside0.mk (Kd.R_lower ho HB.out.size); have HB1 := Aside0.mk (below_step HB.out hb); have HBK := Aside0.mk (blk_below (blk_new w (.cells #[.slice A0 l0.length c0, .bool b] 28)) hb); have hcz : w1.cell? ⟨w.heap.size, 0, none⟩ = some (.slice A0 l0.length c0) := (blk_cell HBK.out 0).trans rfl; clear ho hb HB)
  go_loopg [3, 9] l0.length (fun kq v3 v9 w' => ∃ (kk : Nat) (eff : List Int), kk ≤ l0.length ∧ l0.length - kk ≤ kq ∧ v9 = .int .i64 kk ∧ Aside0 (tgF l0 b (l0.length - kk) kk eff = some E) ∧ Aside0 (Kd.R (Kd.int .i64) 3 w' w.heap.size (fun _ => True) v3 eff) ∧ Aside0 (Below w.heap.size w w') ∧ Aside0 (w'.heap[w.heap.size]? = some (.cells #[.slice A0 l0.length c0, .bool b] 28 (0, 0))))
  case atStart => exact ⟨0, [], Nat.zero_le _, by omega, rfl, H1, HO, HB1, HBK⟩
  case round =>
    clear HBK
    obtain ⟨kk, eff, hkk, hg, rfl, HA, HO, HB, HBK⟩ := hrel
    by_cases hlt : kk < l0.length
    · have hltz : (kk : Int) < (l0.length : Int) := by omega
      have H := HA.out
      rw [show l0.length - kk = (l0.length - (kk + 1)) + 1 by omega, tgF] at H
      clear HA H1
      replace H := Option.bind_eq_some_iff.mp H
      obtain ⟨ef, A1, H⟩ := H
      have HTG := Aside0.mk (fun (W : World) (hB : Below w.heap.size w W) => impl_Graph_toggles.calls A0 c0 l0 b (kk : Int) ef W (Kd.C_below HR0.out hB) HC0.out A1)
      have hz0 : wr.cell? ⟨w.heap.size, 0, none⟩ = some (.slice A0 l0.length c0) := (blk_cell HBK.out 0).trans rfl
      have hz1 : wr.cell? ⟨w.heap.size, 1, none⟩ = some (.bool b) := (blk_cell HBK.out 1).trans rfl
      by_cases c0_ : eff.length < 1000000
      · rw [if_pos c0_] at H
        replace H := Aside0.mk H
        clear A1
        go_wp2_with (first
          | (go_at_call 114; refine (HTG.out _ HB.out).mono ?_; rintro e w2 ⟨rfl, hb2⟩; have HO2 := Aside0.mk (Kd.R_below HO.out hb2); have HBK2 := Aside0.mk (blk_below HBK.out hb2); have HB2 := Aside0.mk (below_step HB.out hb2); clear hb2 HO HB HBK hz0 hz1)
          | ((with_reducible refine gate_builtin (b := .append) (xs := #[.tmp 12, .tmp 16]) rfl ?_); at_builtin; refine Kd.R_append (Kd.int .i64) (w0 := w) w.heap.size rfl (.tmp 12) (.tmp 16) 22 3 (.int .i64 0) 8 rfl Try.underlying22 info3 rfl (by decide) (by omega) u3 eff ef [.int .i64 ef] (fun _ => True) (fun _ => False) rfl rfl ?aP (fun _ hk => hk.elim) (fun _ _ => trivial) ?aO ?aB ?aS ?aL ?_; (case aP => exact rfl); (case aB => exact HB2.out); (case aO => exact HO2.out); (case aS => exact HB2.out.size); (case aL => omega); intro v3 w3 ho hb hgr hat; have HBK3 := Aside0.mk (blk_grown HBK2.out hgr (fun e_ => by obtain ⟨cs_, hc_⟩ := Kd.R_typed HO2.out _ e_.symm; exact blk_ne HBK2.out hc_ (by decide) rfl)); have HO3 := Aside0.mk ho; have HB3 := Aside0.mk hb; clear ho hb hgr hat HO2 HB2 HBK2))
        go_roundg (l0.length - (kk + 1))
        case measure => omega
        case rel => exact ⟨kk + 1, _, by omega, by omega, by go_num, H, HO3, HB3, HBK3⟩
      · rw [if_neg c0_] at H
        cases H
    · have hltz : ¬ (kk : Int) < (l0.length : Int) := by omega
      obtain rfl : kk = l0.length := by omega
      have H := HA.out
      rw [Nat.sub_self, tgF] at H
      injection H with h1
      subst h1
      obtain ⟨Ae, ce, rfl⟩ := Kd.R_slice HO.out
      clear HA H1
      have hcall := impl_solverFor.calls k Ae ce _ ps qs is _ (Kd.R_reads' HO.out).2.2 H2.out
      replace hcall := hcall.mono (R' := fun e w2 => ∃ g : Nat, e = .returned (.pointer (some ⟨g, 0, none⟩)) ∧ Aside0 (SVx w.heap.size g ps qs is w2 ∧ Below w.heap.size w w2)) (fun e w2 h => by
        obtain ⟨g, e1, ⟨vp, vq, vi, hS⟩, hB⟩ := h
        exact ⟨g, e1, ⟨⟨_, _, _, hS.lower HB.out.size⟩, below_step HB.out hB⟩⟩)
      go_wp2_with (go_at_call 77; refine hcall.mono ?_; rintro e w2 ⟨g, rfl, HS2⟩)
      go_ret
      exact ⟨_, rfl, HS2.out.1, HS2.out.2⟩
end
end Go.Proofs.Ytoobofnpdiapgaa.P
