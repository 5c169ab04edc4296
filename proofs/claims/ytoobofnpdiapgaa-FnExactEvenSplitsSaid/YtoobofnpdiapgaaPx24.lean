-- Written by a program of this session (wip/mp.py), which runs the kit's print with contracts of the session's own.
import Derived.Test.YtoobofnpdiapgaaPx0
import Derived.Test.YtoobofnpdiapgaaPx12
import Derived.Test.YtoobofnpdiapgaaPx13
import Derived.Test.YtoobofnpdiapgaaPx16
import Derived.Test.YtoobofnpdiapgaaPx17
import Derived.Test.YtoobofnpdiapgaaPx23
namespace Go.Proofs.Ytoobofnpdiapgaa.P
open Go.RowKit Go.Proofs.YtoobofnpdiapgaaW.PrintWords Go.Proofs.YtoobofnpdiapgaaW.PrintLast Go.Proofs.YtoobofnpdiapgaaW.PrintMore
attribute [local go_sem] max2_int min2_int max_two min_two max_three min_three max_four min_four   -- for this text's walks alone
set_option linter.unusedVariables false
set_option linter.unusedSimpArgs false

/-! ### impl_EvenSplits: function 17 -/
-- BY HAND
section
open Go.Proofs.Ytoobofnpdiapgaa.Bk Go.Shelf
/-- One and each of a row, added. -/
def oneI (b : Int) : List Int → List Int → Option (List Int)
  | [], out => some out
  | s :: ss, out => if out.length < 1000000 then oneI b ss (out ++ [Go.bits .xor .i64 b s]) else none
def impl_EvenSplits.fk (k j : Nat) (l0_0 : List Int) (a0_1 : Bool) : Option (List Int × Bool) :=
  (impl_split.fk k j l0_0 a0_1 0).bind fun s => (impl_countSplits.fk k j l0_0 a0_1 0).bind fun m => if s.2 = true ∧ m.1 ≤ 300 then (splF 0 l0_0 0 [] 0).bind fun ED => (solF k ED.1 0 [] [] []).bind fun S => (patL S.2.1 [0]).bind fun o => (slices_Sort_int_int.f o).bind fun q => (oneI s.1 q []).bind fun u => (slices_Sort_int_int.f u).bind fun r => some (r, true) else some ([], false)
set_option maxHeartbeats 8000000 in
set_option maxRecDepth 100000 in
theorem impl_EvenSplits.callsk (k j : Nat) (A0_0 : Option Addr) (c0_0 : Nat) (l0_0 : List Int) (a0_1 : Bool) (r1 : List Int) (r2 : Bool) (w : World) (hr0_0 : Kd.C (Kd.int .i64) w A0_0 l0_0.length l0_0) (hc0_0 : l0_0.length ≤ c0_0) (h : impl_EvenSplits.fk k j l0_0 a0_1 = some (r1, r2)) :
    Calls Try.prog 17 #[.agg #[.slice A0_0 l0_0.length c0_0, .bool a0_1]] w fun e w' => ∃ v0_ : Value, e = .returned (.tuple #[v0_, .bool r2]) ∧ Kd.R (Kd.int .i64) 3 w' w.heap.size (fun _ => True) v0_ r1 ∧ Below w.heap.size w w' := by
  have hu28 := Try.underlying28
  unfold impl_EvenSplits.fk at h
  replace h := Option.bind_eq_some_iff.mp h
  obtain ⟨⟨one, ok⟩, h1, h⟩ := h
  replace h := Option.bind_eq_some_iff.mp h
  obtain ⟨⟨many, ok2⟩, h2, h⟩ := h
  dsimp only at h
  have HC1 := Aside0.mk (fun (W : World) (hB : Below w.heap.size w W) => impl_split.callsk k j A0_0 c0_0 l0_0 a0_1 0 one ok W (Kd.C_below hr0_0 hB) hc0_0 h1)
  have HC2 := Aside0.mk (fun (W : World) (hB : Below w.heap.size w W) => impl_countSplits.callsk k j A0_0 c0_0 l0_0 a0_1 0 many ok2 W (Kd.C_below hr0_0 hB) hc0_0 h2)
  have HR0 := Aside0.mk hr0_0
  have hbx := blk_new w (.cells #[.slice A0_0 l0_0.length c0_0, .bool a0_1] 28)
  have HB := Aside0.mk (below_alloc (Below.refl w.heap.size w) (.cells #[.slice A0_0 l0_0.length c0_0, .bool a0_1] 28))
  have HBX := Aside0.mk (fun (W : World) (hB : Below (w.alloc (.cells #[.slice A0_0 l0_0.length c0_0, .bool a0_1] 28)).heap.size (w.alloc (.cells #[.slice A0_0 l0_0.length c0_0, .bool a0_1] 28)) W) => blk_below hbx hB)
  clear h1 h2 hbx hr0_0 hc0_0
  by_cases c : ok = true ∧ many ≤ 300
  · rw [if_pos c] at h
    obtain ⟨rfl, c⟩ := c
    have d1 : decide (300 < many) = false := decide_eq_false (by omega)
    have d2 : decide (many > 300) = false := decide_eq_false (by omega)
    replace h := Option.bind_eq_some_iff.mp h
    obtain ⟨⟨E, D⟩, h1, h⟩ := h
    replace h := Option.bind_eq_some_iff.mp h
    obtain ⟨⟨ps, qs, is⟩, h2, h⟩ := h
    replace h := Option.bind_eq_some_iff.mp h
    obtain ⟨o, h3, h⟩ := h
    replace h := Option.bind_eq_some_iff.mp h
    obtain ⟨q, h4, h⟩ := h
    replace h := Option.bind_eq_some_iff.mp h
    obtain ⟨u, h5, h⟩ := h
    replace h := Option.bind_eq_some_iff.mp h
    obtain ⟨r, h6, h⟩ := h
    dsimp only at h2 h3
    injection h with h
    injection h with e1 e2
    subst e1 e2
    have HC3 := Aside0.mk (fun (W : World) (hB : Below w.heap.size w W) => impl_Graph_splits.calls k A0_0 c0_0 l0_0 a0_1 0 E D ps qs is W (Kd.C_below HR0.out hB) h1 h2)
    have HC4 := Aside0.mk (fun (A : Option Addr) (cc : Nat) (W : World) (hC : Kd.C (Kd.int .i64) W A qs.length qs) => impl_patterns.calls A cc qs o q W hC h3 h4)
    have H5 := Aside0.mk h5
    have H6 := Aside0.mk h6
    clear h1 h2 h3 h4 h5 h6
    go_enter Try.func17, Try.ntmps17
    go_wp2_with (first
      | (go_at_call 48; refine (HC1.out _ HB.out).mono ?_; rintro e w2 ⟨rfl, hb2⟩; have HB2 := Aside0.mk (below_step HB.out hb2); have HBX2 := Aside0.mk (fun (W : World) (hB : Below w2.heap.size w2 W) => blk_below (HBX.out w2 hb2) hB); have hbx2 := HBX.out w2 hb2; have hz0 := (blk_cell hbx2 0).trans rfl; have hz1 := (blk_cell hbx2 1).trans rfl; clear hb2 hbx2 HB HBX)
      | (go_at_call 49; refine (HC2.out _ HB2.out).mono ?_; rintro e w3 ⟨rfl, hb3⟩; have HB3 := Aside0.mk (below_step HB2.out hb3); have hbx3 := HBX2.out w3 hb3; have hz0 := (blk_cell hbx3 0).trans rfl; have hz1 := (blk_cell hbx3 1).trans rfl; clear hb3 hbx3 HB2 HBX2)
      | (go_at_call 50; refine (HC3.out _ HB3.out).mono ?_; rintro e w4 ⟨g, rfl, ⟨vp, vq, vi, hS⟩, hb4⟩; obtain ⟨Aq, cq, rfl⟩ := Kd.R_slice hS.Q; have HB4 := Aside0.mk (below_step HB3.out hb4); have HS := Aside0.mk hS; have hzq : w4.cell? ⟨g, 1, none⟩ = some (.slice Aq qs.length cq) := (blk_cell hS.b 1).trans rfl; clear hb4 hS HB3 hz0 hz1)
      | ((with_reducible refine gate_dst (N := 34) rfl ?_); refine Kd.R_lit (Kd.int .i64) _ 3 ?hg (N := 34) ?hd (xs := ([] : List Int)) (inner := []) (ok := fun _ => True) (okp := fun _ => True) ?hr ?hp (fun _ hk => hk) trivial (Below.refl _ _) (Nat.le_refl _) (by simp) ?_; (case hd => rfl); (case hg => rfl); (case hr => first | (go_simp; done) | (go_simp; rfl)); (case hp => exact (Reps.none _ _)); intro v5 w5 ho hb5 hg_ hnew_; clear hg_ hnew_; have HO5 := Aside0.mk (Kd.R_lower ho HB4.out.size); have HB5 := Aside0.mk (below_step HB4.out hb5); have HS5 := Aside0.mk (HS.out.below hb5); have hzq5 : w5.cell? ⟨g, 1, none⟩ = some (.slice Aq qs.length cq) := (blk_cell HS5.out.b 1).trans rfl; have HC4 := Aside0.mk (HC4.out Aq cq w5 (Kd.R_reads' HS5.out.Q).2.2); clear ho hb5 HB4 HS hzq)
      | (go_at_call 51; refine HC4.out.mono ?_; rintro e w6 ⟨v39, rfl, hR6, hb6⟩; obtain ⟨A39, c39, rfl⟩ := Kd.R_slice hR6; have HN6 : Aside0 (∀ k, some k = Value.ownBlock (.slice A39 q.length c39) → v5.ownBlock = some k → False) := ⟨fun k e e2 => absurd (Kd.R_lt HO5.out k e2) (by have := Kd.R_base hR6 k e.symm; omega)⟩; have HR6 := Aside0.mk (Kd.R_lower (Kd.R_tight rfl hR6) HB5.out.size); have HO6 := Aside0.mk (Kd.R_below HO5.out hb6); have HB6 := Aside0.mk (below_step HB5.out hb6); clear hR6 hb6 HO5 HB5 HS5 hzq5))
    have hmq := Kd.C_max (Kd.R_reads' HR6.out).2.2
    go_loopg [10, 41] q.length (fun kq v10 v41 w' => ∃ (jj : Nat) (out3 : List Int), jj ≤ q.length ∧ q.length - jj ≤ kq ∧ v41 = .int .i64 jj ∧ Aside0 (oneI one (q.drop jj) out3 = some u) ∧ Aside0 (Kd.R (Kd.int .i64) 3 w' w.heap.size (fun _ => True) v10 out3) ∧ Aside0 (Kd.R (Kd.int .i64) 3 w' w.heap.size (fun k => some k = Value.ownBlock (.slice A39 q.length c39)) (.slice A39 q.length c39) q) ∧ Aside0 (∀ k, some k = Value.ownBlock (.slice A39 q.length c39) → v10.ownBlock = some k → False) ∧ Aside0 (Below w.heap.size w w'))
    case atStart => exact ⟨0, [], Nat.zero_le _, by omega, rfl, H5, HO6, HR6, HN6, HB6⟩
    case round =>
      obtain ⟨jj, out3, hjj, hg2, rfl, HA, HO, HR, HN, HB⟩ := hrel
      by_cases hlt2 : jj < q.length
      · have hltz2 : (jj : Int) < (q.length : Int) := by omega
        have p2 : 0 ≤ (jj : Int) := by omega
        obtain ⟨ad2, e2, hx2⟩ := Kd.at_int (Kd.R_reads' HR.out).2.2 jj p2 hltz2
        cases e2
        rw [Int.toNat_natCast] at hx2
        obtain ⟨s, hs⟩ : ∃ z, z = rd q jj := ⟨_, rfl⟩
        have H3 := HA.out
        rw [List.drop_eq_getElem_cons hlt2, show q[jj] = s by rw [hs]; simp [rd, List.getElem?_eq_getElem hlt2], oneI] at H3
        rw [← hs] at hx2
        clear HA hs
        by_cases c1 : out3.length < 1000000
        · rw [if_pos c1] at H3
          replace H3 := Aside0.mk H3
          go_wp2_with ((with_reducible refine gate_builtin (b := .append) (xs := #[.tmp 45, .tmp 49]) rfl ?_); at_builtin; refine Kd.R_append (Kd.int .i64) (w0 := w) w.heap.size rfl (.tmp 45) (.tmp 49) 22 3 (.int .i64 0) 8 rfl Try.underlying22 info3 rfl (by decide) (by omega) u10 out3 (Go.bits .xor .i64 one s) [.int .i64 (Go.bits .xor .i64 one s)] (fun _ => True) (fun _ => False) rfl rfl ?aP (fun _ hk => hk.elim) (fun _ _ => trivial) ?aO ?aB ?aS ?aL ?_; (case aP => exact rfl); (case aB => exact HB.out); (case aO => exact HO.out); (case aS => exact HB.out.size); (case aL => omega); intro v5 w5 ho hb hgr hat; have HR5 := Aside0.mk (Kd.R_grown HR.out hgr (fun k e e2 => HN.out k e e2.symm)); have HN5 : Aside0 (∀ k, some k = Value.ownBlock (.slice (some ad2) q.length c39) → v5.ownBlock = some k → False) := (⟨fun k e e2 => hat.elim (fun h => HN.out k e (h ▸ e2)) (fun ⟨b_, h1, h2⟩ => absurd (Kd.R_lt HR.out k e.symm) (by rw [h1] at e2; injection e2 with e2; omega))⟩); have HO5 := Aside0.mk ho; have HB5 := Aside0.mk hb; clear ho hb hgr hat)
          go_roundg (q.length - (jj + 1))
          case measure => omega
          case rel => exact ⟨jj + 1, _, by omega, by omega, by go_num, H3, HO5, HR5, HN5, HB5⟩
        · rw [if_neg c1] at H3
          cases H3
      · have hltz2 : ¬ (jj : Int) < (q.length : Int) := by omega
        obtain rfl : jj = q.length := by omega
        have H3 := HA.out
        rw [List.drop_length, oneI] at H3
        injection H3 with H3
        subst H3
        clear HA
        go_wp2_with (go_at_call 52; refine (slices_Sort_int_int.calls (fun _ => True) _ _ r w _ HB.out HO.out H6.out).mono ?_; rintro e w3 ⟨rfl, hR, hb3, -⟩; have HR3 := Aside0.mk (Kd.R_mono hR (fun _ _ => trivial)); have HB3 := Aside0.mk hb3; clear hR hb3 HB HO)
        go_ret2
        exact ⟨_, by first | rfl | (simp; done), HR3.out, HB3.out⟩
  · rw [if_neg c] at h
    injection h with h
    injection h with e1 e2
    subst e1 e2
    cases ok with
    | false =>
      clear c
      go_enter Try.func17, Try.ntmps17
      go_wp2_with (first
        | (go_at_call 48; refine (HC1.out _ HB.out).mono ?_; rintro e w2 ⟨rfl, hb2⟩; have HB2 := Aside0.mk (below_step HB.out hb2); have HBX2 := Aside0.mk (fun (W : World) (hB : Below w2.heap.size w2 W) => blk_below (HBX.out w2 hb2) hB); have hbx2 := HBX.out w2 hb2; have hz0 := (blk_cell hbx2 0).trans rfl; have hz1 := (blk_cell hbx2 1).trans rfl; clear hb2 hbx2 HB HBX)
        | (go_at_call 49; refine (HC2.out _ HB2.out).mono ?_; rintro e w3 ⟨rfl, hb3⟩; have HB3 := Aside0.mk (below_step HB2.out hb3); clear hb3 HB2 HBX2))
      go_ret2
      exact ⟨_, by first | rfl | (simp; done), Kd.R_nil _ _ _ _ _, HB3.out⟩
    | true =>
      have c1 : 300 < many := by
        by_cases q : many ≤ 300
        · exact absurd ⟨rfl, q⟩ c
        · omega
      have d1 : decide (300 < many) = true := decide_eq_true c1
      have d2 : decide (many > 300) = true := decide_eq_true c1
      clear c c1
      go_enter Try.func17, Try.ntmps17
      go_wp2_with (first
        | (go_at_call 48; refine (HC1.out _ HB.out).mono ?_; rintro e w2 ⟨rfl, hb2⟩; have HB2 := Aside0.mk (below_step HB.out hb2); have HBX2 := Aside0.mk (fun (W : World) (hB : Below w2.heap.size w2 W) => blk_below (HBX.out w2 hb2) hB); have hbx2 := HBX.out w2 hb2; have hz0 := (blk_cell hbx2 0).trans rfl; have hz1 := (blk_cell hbx2 1).trans rfl; clear hb2 hbx2 HB HBX)
        | (go_at_call 49; refine (HC2.out _ HB2.out).mono ?_; rintro e w3 ⟨rfl, hb3⟩; have HB3 := Aside0.mk (below_step HB2.out hb3); clear hb3 HB2 HBX2))
      go_ret2
      exact ⟨_, by first | rfl | (simp; done), Kd.R_nil _ _ _ _ _, HB3.out⟩
def impl_EvenSplits.f (k : Nat) (l0_0 : List Int) (a0_1 : Bool) : Option (List Int × Bool) := impl_EvenSplits.fk 1000 k l0_0 a0_1
theorem impl_EvenSplits.mono : ∀ l0_0 a0_1 k, LeO (impl_EvenSplits.f k l0_0 a0_1) (impl_EvenSplits.f (k + 1) l0_0 a0_1) := fun l0_0 a0_1 k => LeO.bind (impl_split.mono l0_0 a0_1 0 k) (fun _ => LeO.bind (impl_countSplits.mono l0_0 a0_1 0 k) (fun _ => LeO.refl _))
theorem impl_EvenSplits.calls (k : Nat) (A0_0 : Option Addr) (c0_0 : Nat) (l0_0 : List Int) (a0_1 : Bool) (r1 : List Int) (r2 : Bool) (w : World) (hr0_0 : Kd.C (Kd.int .i64) w A0_0 l0_0.length l0_0) (hc0_0 : l0_0.length ≤ c0_0) (h : impl_EvenSplits.f k l0_0 a0_1 = some (r1, r2)) :
    Calls Try.prog 17 #[.agg #[.slice A0_0 l0_0.length c0_0, .bool a0_1]] w fun e w' => ∃ v0_ : Value, e = .returned (.tuple #[v0_, .bool r2]) ∧ Kd.R (Kd.int .i64) 3 w' w.heap.size (fun _ => True) v0_ r1 ∧ Below w.heap.size w w' := impl_EvenSplits.callsk 1000 k A0_0 c0_0 l0_0 a0_1 r1 r2 w hr0_0 hc0_0 h
end

end Go.Proofs.Ytoobofnpdiapgaa.P
