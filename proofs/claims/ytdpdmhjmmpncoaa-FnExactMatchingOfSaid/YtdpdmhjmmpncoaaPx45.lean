-- Written by a program of this session (wip/mp.py), which runs the kit's print with contracts of the session's own.
import Derived.Test.YtdpdmhjmmpncoaaPx0
import Derived.Test.YtdpdmhjmmpncoaaPx1
import Derived.Test.YtdpdmhjmmpncoaaPx2
import Derived.Test.YtdpdmhjmmpncoaaPx6
import Derived.Test.YtdpdmhjmmpncoaaPx15
import Derived.Test.YtdpdmhjmmpncoaaPx26
import Derived.Test.YtdpdmhjmmpncoaaPx27
import Derived.Test.YtdpdmhjmmpncoaaPx43
import Derived.Test.YtdpdmhjmmpncoaaPx44
namespace Go.Proofs.Ytdpdmhjmmpncoaa.P
open Go.RowKit Go.Proofs.YtdpdmhjmmpncoaaW.PrintWords Go.Proofs.YtdpdmhjmmpncoaaW.PrintLast Go.Proofs.YtdpdmhjmmpncoaaW.PrintMore
attribute [local go_sem] max2_int min2_int max_two min_two max_three min_three max_four min_four   -- for this text's walks alone
set_option linter.unusedVariables false
set_option linter.unusedSimpArgs false

/-! ### laws_FnExactMatchingOf: function 14 -/
-- BY HAND
def laws_FnExactMatchingOf.f (k : Nat) (l0_0 : List Int) (a0_1 : Bool) : Option Bool :=
  (laws_szGraph.f l0_0 a0_1 1048576).bind fun t => if t < 0 then some true else (laws_toGraph.f k l0_0 a0_1).bind fun g => (spec_MatchingOf.f k g.1 g.2).bind fun s => (impl_MatchingOf.f k g.1 g.2).bind fun i => (laws_eqIntSS.f k i.1 s.1).bind fun e1 => (laws_eqGraph.f k g.1 g.2 g.1 g.2).bind fun e2 => (laws_markGraph.f k g.1 g.2 1).bind fun mg => (mkSS k i.1 1).bind fun mk => (laws_heldIntSS.f k mk.2 1).bind fun h => if e1 = true ∧ i.2 = s.2 ∧ e2 = true ∧ 0 ≤ mg.1 ∧ 0 ≤ h ∧ h = mk.1 then some true else none
set_option maxHeartbeats 16000000 in
set_option maxRecDepth 100000 in
theorem laws_FnExactMatchingOf.calls (k : Nat) (A0_0 : Option Addr) (c0_0 : Nat) (l0_0 : List Int) (a0_1 : Bool) (r : Bool) (w : World) (hr0_0 : Kd.C (Kd.int .i64) w A0_0 l0_0.length l0_0) (hc0_0 : l0_0.length ≤ c0_0) (h : laws_FnExactMatchingOf.f k l0_0 a0_1 = some r) :
    Calls Try.prog 14 #[.agg #[.slice A0_0 l0_0.length c0_0, .bool a0_1]] w fun e w' => e = .returned (.bool r) ∧ Below w.heap.size w w' := by
  have hu24 := Try.underlying24
  have hu28 := Try.underlying28
  have hu39 := Try.underlying39
  unfold laws_FnExactMatchingOf.f at h
  obtain ⟨t, h1, h⟩ := Option.bind_eq_some_iff.mp h
  have HC1 := Aside0.mk (fun (W : World) (hB : Below w.heap.size w W) => laws_szGraph.calls A0_0 c0_0 l0_0 a0_1 1048576 t W (Kd.C_below hr0_0 hB) hc0_0 h1)
  have ST0 := Aside0.mk trivial
  have HB := Aside0.mk (Below.refl w.heap.size w)
  clear h1
  by_cases c0 : t < 0
  · rw [if_pos c0] at h
    obtain rfl := Option.some.inj h
    have d0 : decide (t < 0) = true := decide_eq_true c0
    clear h c0 hr0_0 hc0_0
    go_enter Try.func14, Try.ntmps14
    go_wp2_with (first | ((with_reducible refine gate_dst (N := 1) rfl ?_); refine box_event ?hg (N := 1) ?hd (cs := #[.slice A0_0 l0_0.length c0_0, .bool a0_1]) (t := 24) ?hr ?_; (case hd => rfl); (case hg => rfl); (case hr => first | (go_simp; done) | (go_simp; rfl)); intro g2 hg w1 hbox hb; have ST1 := ST0; clear ST0; replace HB := Aside0.mk (below_step HB.out hb); have BK2 := Aside0.mk hbox; have G2 := Aside0.mk (show w.heap.size ≤ g2 by rw [hg]; exact Nat.le_refl _); have hz0 : w1.cell? ⟨g2, 0, none⟩ = some (.slice A0_0 l0_0.length c0_0) := (blk_cell BK2.out 0).trans rfl; have hz1 : w1.cell? ⟨g2, 1, none⟩ = some (.bool a0_1) := (blk_cell BK2.out 1).trans rfl; clear hb hbox hg) | (have _ := ST1; go_at_call 15; refine (HC1.out _ HB.out).mono ?_; rintro e w2 ⟨rfl, hb⟩; have ST2 := ST1; clear ST1; replace HB := Aside0.mk (below_step HB.out hb); replace BK2 := Aside0.mk (blk_below BK2.out hb); clear hz0 hz1; have hz0 : w2.cell? ⟨g2, 0, none⟩ = some (.slice A0_0 l0_0.length c0_0) := (blk_cell BK2.out 0).trans rfl; have hz1 : w2.cell? ⟨g2, 1, none⟩ = some (.bool a0_1) := (blk_cell BK2.out 1).trans rfl; clear hb))
    go_ret
    exact ⟨by first | rfl | (simp; done), HB.out⟩
  · rw [if_neg c0] at h
    have d0 : decide (t < 0) = false := decide_eq_false c0
    obtain ⟨⟨gl, gb⟩, h2, h⟩ := Option.bind_eq_some_iff.mp h
    obtain ⟨⟨sl, sb⟩, h3, h⟩ := Option.bind_eq_some_iff.mp h
    obtain ⟨⟨il, ib⟩, h4, h⟩ := Option.bind_eq_some_iff.mp h
    obtain ⟨e1, h5, h⟩ := Option.bind_eq_some_iff.mp h
    obtain ⟨e2, h6, h⟩ := Option.bind_eq_some_iff.mp h
    obtain ⟨⟨mg, ml⟩, h7, h⟩ := Option.bind_eq_some_iff.mp h
    obtain ⟨⟨mk, kl⟩, h8, h⟩ := Option.bind_eq_some_iff.mp h
    obtain ⟨hd, h9, h⟩ := Option.bind_eq_some_iff.mp h
    dsimp only at h h3 h4 h5 h6 h7 h8 h9
    by_cases c : e1 = true ∧ ib = sb ∧ e2 = true ∧ 0 ≤ mg ∧ 0 ≤ hd ∧ hd = mk
    rotate_left
    · rw [if_neg c] at h; cases h
    rw [if_pos c] at h
    obtain rfl := Option.some.inj h
    obtain ⟨rfl, rfl, rfl, c4, c5, rfl⟩ := c
    have d1 : decide (mg < 0) = false := decide_eq_false (by omega)
    have d2 : decide (hd < 0) = false := decide_eq_false (by omega)
    have d3 : (hd != hd) = false := by simp
    have d4 : (ib != ib) = false := by simp
    have HC2 := Aside0.mk (fun (W : World) (hB : Below w.heap.size w W) => laws_toGraph.calls k A0_0 c0_0 l0_0 a0_1 gl gb W (Kd.C_below hr0_0 hB) hc0_0 h2)
    have HC3 := Aside0.mk (fun (A : Option Addr) (cc : Nat) (W : World) (hC : Kd.C (Kd.int .i64) W A gl.length gl) (hc : gl.length ≤ cc) => spec_MatchingOf.calls k A cc gl gb sl ib W hC hc h3)
    have HC4 := Aside0.mk (fun (A : Option Addr) (cc : Nat) (W : World) (hC : Kd.C (Kd.int .i64) W A gl.length gl) (hc : gl.length ≤ cc) => impl_MatchingOf.calls k A cc gl gb il ib W hC hc h4)
    have HC5 := Aside0.mk (fun (A : Option Addr) (cc : Nat) (A' : Option Addr) (cc' : Nat) (W : World) (hC : Kd.C (Kd.slice 3 (Kd.int .i64)) W A il.length il) (hc : il.length ≤ cc) (hC' : Kd.C (Kd.slice 3 (Kd.int .i64)) W A' sl.length sl) (hc' : sl.length ≤ cc') => laws_eqIntSS.calls k A cc il A' cc' sl true W hC hc hC' hc' h5)
    have HC6 := Aside0.mk (fun (A : Option Addr) (cc : Nat) (A' : Option Addr) (cc' : Nat) (W : World) (hC : Kd.C (Kd.int .i64) W A gl.length gl) (hc : gl.length ≤ cc) (hC' : Kd.C (Kd.int .i64) W A' gl.length gl) (hc' : gl.length ≤ cc') => laws_eqGraph.calls k A cc gl gb A' cc' gl gb true W hC hc hC' hc' h6)
    have HC7 := Aside0.mk (fun (P0 : Nat → Prop) (u : Value) (W : World) (hB : Below w.heap.size w W) (ho : Kd.R (Kd.int .i64) 3 W w.heap.size P0 u gl) => laws_markGraph.calls k P0 u gl gb 1 mg ml w W hB ho h7)
    have HC8 := Aside0.mk (fun (P0 : Nat → Prop) (u : Value) (W : World) (hB : Below w.heap.size w W) (ho : Kd.S (Kd.slice 3 (Kd.int .i64)) 22 W w.heap.size P0 u il) => markIntSS_walk k P0 u il 1 hd kl w W hB ho h8)
    have HC9 := Aside0.mk (fun (A : Option Addr) (cc : Nat) (W : World) (hC : Kd.C (Kd.slice 3 (Kd.int .i64)) W A kl.length kl) (hc : kl.length ≤ cc) => laws_heldIntSS.calls k A cc kl 1 hd W hC hc h9)
    clear h h2 h3 h4 h5 h6 h7 h8 h9 c0 c4 c5 hr0_0 hc0_0
    go_enter Try.func14, Try.ntmps14
    go_wp2_with (first | ((with_reducible refine gate_dst (N := 1) rfl ?_); refine box_event ?hg (N := 1) ?hd (cs := #[.slice A0_0 l0_0.length c0_0, .bool a0_1]) (t := 24) ?hr ?_; (case hd => rfl); (case hg => rfl); (case hr => first | (go_simp; done) | (go_simp; rfl)); intro g2 hg w1 hbox hb; have ST1 := ST0; clear ST0; replace HB := Aside0.mk (below_step HB.out hb); have BK2 := Aside0.mk hbox; have G2 := Aside0.mk (show w.heap.size ≤ g2 by rw [hg]; exact Nat.le_refl _); have hz0 : w1.cell? ⟨g2, 0, none⟩ = some (.slice A0_0 l0_0.length c0_0) := (blk_cell BK2.out 0).trans rfl; have hz1 : w1.cell? ⟨g2, 1, none⟩ = some (.bool a0_1) := (blk_cell BK2.out 1).trans rfl; clear hb hbox hg) | (have _ := ST1; go_at_call 15; refine (HC1.out _ HB.out).mono ?_; rintro e w2 ⟨rfl, hb⟩; have ST2 := ST1; clear ST1; replace HB := Aside0.mk (below_step HB.out hb); replace BK2 := Aside0.mk (blk_below BK2.out hb); clear hz0 hz1; have hz0 : w2.cell? ⟨g2, 0, none⟩ = some (.slice A0_0 l0_0.length c0_0) := (blk_cell BK2.out 0).trans rfl; have hz1 : w2.cell? ⟨g2, 1, none⟩ = some (.bool a0_1) := (blk_cell BK2.out 1).trans rfl; clear hb) | (have _ := ST2; go_at_call 17; refine (HC2.out _ HB.out).mono ?_; rintro e w3 ⟨v23, rfl, ho, hb⟩; have ST3 := ST2; clear ST2; obtain ⟨A23, c23, rfl⟩ := Kd.R_slice ho; have F23 := Aside0.mk ho; replace HB := Aside0.mk (below_step HB.out hb); replace BK2 := Aside0.mk (blk_below BK2.out hb); clear hz0 hz1 hb ho) | (have _ := ST3; go_at_call 49; refine (HC3.out A23 c23 w3 (Kd.R_reads' F23.out).2.2 (Kd.R_reads' F23.out).2.1).mono ?_; rintro e w4 ⟨v6, rfl, ho, hb⟩; have ST4 := ST3; clear ST3; obtain ⟨A6, c6, rfl⟩ := Kd.N_slice ho; have F6 := Aside0.mk (Kd.N_lower (Kd.N_mono (Kd.N_bound ho) (ok' := fun k_ => k_ < w4.heap.size) (fun k_ hk => hk.2)) HB.out.size); replace HB := Aside0.mk (below_step HB.out hb); replace BK2 := Aside0.mk (blk_below BK2.out hb); clear F23; have hz0 : w4.cell? ⟨g2, 0, none⟩ = some (.slice A0_0 l0_0.length c0_0) := (blk_cell BK2.out 0).trans rfl; have hz1 : w4.cell? ⟨g2, 1, none⟩ = some (.bool a0_1) := (blk_cell BK2.out 1).trans rfl; clear hb ho) | (have _ := ST4; go_at_call 17; refine (HC2.out _ HB.out).mono ?_; rintro e w5 ⟨v29, rfl, ho, hb⟩; have ST5 := ST4; clear ST4; obtain ⟨A29, c29, rfl⟩ := Kd.R_slice ho; have F29 := Aside0.mk (Kd.R_lower (Kd.R_mono (Kd.R_bound ho) (ok' := fun k_ => w4.heap.size ≤ k_ ∧ k_ < w5.heap.size) (fun k_ hk => ⟨hk.2.1, hk.2.2.1⟩)) HB.out.size); have Z5 := Aside0.mk hb.size; have Z2 := Aside0.mk (blk_lt BK2.out); have HB5 := Aside0.mk (Nat.le_trans HB.out.size hb.size); replace HB := Aside0.mk (below_step HB.out hb); replace BK2 := Aside0.mk (blk_below BK2.out hb); replace F6 := Aside0.mk (Kd.N_below F6.out hb); clear hz0 hz1 hb ho) | (have _ := ST5; (with_reducible refine gate_dst (N := 6) rfl ?_); refine box_event ?hg (N := 6) ?hd (cs := #[.slice none 0 0, .bool false]) (t := 28) ?hr ?_; (case hd => rfl); (case hg => rfl); (case hr => first | (go_simp; done) | (go_simp; rfl)); intro g8 hg w6 hbox hb; have ST6 := ST5; clear ST5; have G8 := Aside0.mk (show w5.heap.size = g8 from hg.symm); have BK8 := Aside0.mk hbox; have Z8 := Aside0.mk (blk_lt hbox); have hy0 : w6.cell? ⟨g8, 0, none⟩ = some (.slice none 0 0) := (blk_cell hbox 0).trans rfl; have hy1 : w6.cell? ⟨g8, 1, none⟩ = some (.bool false) := (blk_cell hbox 1).trans rfl; have hf0 := blk_frozen hbox 0; have hf1 := blk_frozen hbox 1; replace HB := Aside0.mk (below_step HB.out hb); replace BK2 := Aside0.mk (blk_below BK2.out hb); replace F6 := Aside0.mk (Kd.N_below F6.out hb); replace F29 := Aside0.mk (Kd.R_below F29.out hb); clear hb hbox hg) | (have _ := ST6; go_at_call 50; clear hy0 hy1 hf0 hf1; replace HB := Aside0.mk (below_set (g := g8) (j := 1) (v := .bool gb) (below_set (g := g8) (j := 0) (v := .slice A29 gl.length c29) HB.out (Nat.le_trans (by have := HB5.out; have := G8.out; omega : w.heap.size ≤ g8) (Nat.le_refl _))) (by have := HB5.out; have := G8.out; omega)); replace F6 := Aside0.mk (Kd.N_far (p := ⟨g8, 1, none⟩) (Kd.N_far (p := ⟨g8, 0, none⟩) F6.out (fun k_ hk e_ => by have e2_ : k_ = g8 := e_; have h2_ : k_ < w4.heap.size := hk; have := Z5.out; have := G8.out; omega) (.slice A29 gl.length c29)) (fun k_ hk e_ => by have e2_ : k_ = g8 := e_; have h2_ : k_ < w4.heap.size := hk; have := Z5.out; have := G8.out; omega) (.bool gb)); replace F29 := Aside0.mk (Kd.R_far (p := ⟨g8, 1, none⟩) (Kd.R_far (p := ⟨g8, 0, none⟩) F29.out (fun k_ hk e_ => by have e2_ : k_ = g8 := e_; have h2_ : k_ < w5.heap.size := hk.2; have := Z5.out; have := G8.out; omega) (.slice A29 gl.length c29)) (fun k_ hk e_ => by have e2_ : k_ = g8 := e_; have h2_ : k_ < w5.heap.size := hk.2; have := Z5.out; have := G8.out; omega) (.bool gb)); replace BK2 := Aside0.mk (blk_far (p := ⟨g8, 1, none⟩) (blk_far (p := ⟨g8, 0, none⟩) BK2.out (fun e_ => by have e2_ : g2 = g8 := e_; have := Z2.out; have := Z5.out; have := G8.out; omega) (.slice A29 gl.length c29)) (fun e_ => by have e2_ : g2 = g8 := e_; have := Z2.out; have := Z5.out; have := G8.out; omega) (.bool gb)); replace BK8 := Aside0.mk (blk_put (cs := #[.slice A29 gl.length c29, .bool false]) (cs' := #[.slice A29 gl.length c29, .bool gb]) (blk_put (cs := #[.slice none 0 0, .bool false]) BK8.out 0 _ rfl) 1 _ rfl); refine (HC4.out A29 c29 _ (Kd.R_reads' F29.out).2.2 (Kd.R_reads' F29.out).2.1).mono ?_; rintro e w7 ⟨v9, rfl, ho, hb⟩; have ST7 := ST6; clear ST6; obtain ⟨A9, c9, rfl⟩ := Kd.S_slice ho; have F9 := Aside0.mk (Kd.S_lower (Kd.S_mono (Kd.S_bound ho) (ok' := fun k_ => w6.heap.size ≤ k_ ∧ k_ < w7.heap.size) (fun k_ hk => ⟨by have h7 := hk.2.1; simp at h7; exact h7, hk.2.2.1⟩)) HB.out.size); have Z7 := Aside0.mk (show w6.heap.size ≤ w7.heap.size from by have h7 := hb.size; simp at h7; exact h7); replace HB := Aside0.mk (below_step HB.out hb); replace BK2 := Aside0.mk (blk_below BK2.out hb); replace F6 := Aside0.mk (Kd.N_below F6.out hb); replace F29 := Aside0.mk (Kd.R_below F29.out hb); replace BK8 := Aside0.mk (blk_below BK8.out hb); clear hb ho) | (have _ := ST7; go_at_call 32; refine (HC5.out A9 c9 A6 c6 _ (Kd.S_reads' F9.out).2.2 (Kd.S_reads' F9.out).2.1 (Kd.N_reads' F6.out).2.2 (Kd.N_reads' F6.out).2.1).mono ?_; rintro e wq ⟨rfl, ⟨nd, hnd⟩⟩; have ST8 := ST7; clear ST7; have hb : Below w7.heap.size w7 wq := (by rw [hnd]; exact pw_below_drewN (Below.refl _ _) nd); replace HB := Aside0.mk (below_step HB.out hb); replace BK2 := Aside0.mk (blk_below BK2.out hb); replace F6 := Aside0.mk (Kd.N_below F6.out hb); replace F29 := Aside0.mk (Kd.R_below F29.out hb); replace BK8 := Aside0.mk (blk_below BK8.out hb); replace F9 := Aside0.mk (Kd.S_below F9.out hb); clear hb hnd))
    try go_wp2
    have hb := below_drew1 (Below.refl wq.heap.size wq)
    replace HB := Aside0.mk (below_step HB.out hb)
    replace BK2 := Aside0.mk (blk_below BK2.out hb)
    replace F6 := Aside0.mk (Kd.N_below F6.out hb)
    replace F29 := Aside0.mk (Kd.R_below F29.out hb)
    replace BK8 := Aside0.mk (blk_below BK8.out hb)
    replace F9 := Aside0.mk (Kd.S_below F9.out hb)
    clear hb
    refine start_ (n := 5) (S := fun w' => w'.cell? ⟨g8, 0, none⟩ = some (.slice A29 gl.length c29) ∧ w'.cell? ⟨g8, 1, none⟩ = some (.bool gb) ∧ w'.cell? ⟨g2, 0, none⟩ = some (.slice A0_0 l0_0.length c0_0) ∧ w'.cell? ⟨g2, 1, none⟩ = some (.bool a0_1)) (ds := []) #[false, false, false, false, false] (by kernel_rfl) rfl rfl ⟨(blk_cell BK8.out 0).trans rfl, (blk_cell BK8.out 1).trans rfl, (blk_cell BK2.out 0).trans rfl, (blk_cell BK2.out 1).trans rfl⟩ (fun hHeld => ?_)
    generalize wq.drew = w10 at HB BK2 BK8 F6 F29 F9 hHeld ⊢
    refine take_ (i := 0) (N := some 41) (v := ?_) (a' := ?_) #[true, false, false, false, false] rfl rfl (by kernel_rfl) (fun _ _ _ h => h) (Or.inl ⟨by rfl, ?_⟩) hHeld ?_ ?_
    rotate_left
    · rintro w' ⟨s0, s1, s2, s3⟩
      go_simp
      with_reducible rfl
    rotate_left
    · simp only [Act.put, List.setIfInBounds_toArray, List.set_cons_zero, List.set_cons_succ]
      rfl
    refine take_ (i := 1) (N := some 42) (v := ?_) (a' := ?_) #[true, true, false, false, false] rfl rfl (by kernel_rfl) (fun _ _ _ h => h) (Or.inl ⟨by rfl, ?_⟩) hHeld ?_ ?_
    rotate_left
    · rintro w' ⟨s0, s1, s2, s3⟩
      go_simp
      with_reducible rfl
    rotate_left
    · simp only [Act.put, List.setIfInBounds_toArray, List.set_cons_zero, List.set_cons_succ]
      rfl
    refine one_ (i := 2) (N := some 43) #[true, true, true, false, false] rfl rfl (by kernel_rfl) (by decide) (fun K hK => ?_)
    refine goes_ Try.func17 (by kernel_rfl) rfl #[.agg #[.slice A0_0 l0_0.length c0_0, .bool a0_1]] (by rfl) rfl rfl (by (try simp only [List.map_toArray, List.map_cons, List.map_nil]); first | done | rfl | (simp only [List.length_drop, List.length_take]; rfl)) ?_
    refine (HC2.out _ HB.out).mono ?_
    rintro e w11 ⟨v47, rfl, ho, hb⟩
    refine ⟨_, rfl, ?_⟩
    obtain ⟨A47, c47, rfl⟩ := Kd.R_slice ho
    have F47 := Aside0.mk ho
    replace HB := Aside0.mk (below_step HB.out hb)
    replace BK2 := Aside0.mk (blk_below BK2.out hb)
    replace F6 := Aside0.mk (Kd.N_below F6.out hb)
    replace F29 := Aside0.mk (Kd.R_below F29.out hb)
    replace BK8 := Aside0.mk (blk_below BK8.out hb)
    replace F9 := Aside0.mk (Kd.S_below F9.out hb)
    clear hb ho
    refine hK.out _ _ ⟨(blk_cell BK8.out 0).trans rfl, (blk_cell BK8.out 1).trans rfl, (blk_cell BK2.out 0).trans rfl, (blk_cell BK2.out 1).trans rfl⟩ (fun hHeld => ?_)
    clear hK K
    refine norm_ (a' := ?_) ?_ ?_
    rotate_left
    · show Act.put _ (some 43) _ = _
      simp only [Act.put, List.setIfInBounds_toArray, List.set_cons_zero, List.set_cons_succ]
      rfl
    refine one_ (i := 3) (N := some 44) #[true, true, true, true, false] rfl rfl (by kernel_rfl) (by decide) (fun K hK => ?_)
    refine goes_ Try.func20 (by kernel_rfl) rfl #[.agg #[.slice A29 gl.length c29, .bool gb], .agg #[.slice A47 gl.length c47, .bool gb]] (by rfl) rfl rfl (by (try simp only [List.map_toArray, List.map_cons, List.map_nil]); first | done | rfl | (simp only [List.length_drop, List.length_take]; rfl)) ?_
    refine (HC6.out A29 c29 A47 c47 _ (Kd.R_reads' F29.out).2.2 (Kd.R_reads' F29.out).2.1 (Kd.R_reads' F47.out).2.2 (Kd.R_reads' F47.out).2.1).mono ?_
    rintro e w12 ⟨rfl, hb⟩
    refine ⟨_, rfl, ?_⟩
    replace HB := Aside0.mk (below_step HB.out hb)
    replace BK2 := Aside0.mk (blk_below BK2.out hb)
    replace F6 := Aside0.mk (Kd.N_below F6.out hb)
    replace F29 := Aside0.mk (Kd.R_below F29.out hb)
    replace BK8 := Aside0.mk (blk_below BK8.out hb)
    replace F9 := Aside0.mk (Kd.S_below F9.out hb)
    clear hb F47
    refine hK.out _ _ ⟨(blk_cell BK8.out 0).trans rfl, (blk_cell BK8.out 1).trans rfl, (blk_cell BK2.out 0).trans rfl, (blk_cell BK2.out 1).trans rfl⟩ (fun hHeld => ?_)
    clear hK K
    refine norm_ (a' := ?_) ?_ ?_
    rotate_left
    · show Act.put _ (some 44) _ = _
      simp only [Act.put, List.setIfInBounds_toArray, List.set_cons_zero, List.set_cons_succ]
      rfl
    refine pure_ (i := 4) (N := some 45) (v := ?_) (a' := ?_) #[true, true, true, true, true] rfl rfl (by kernel_rfl) (fun _ _ _ h => h) (Or.inl ⟨by rfl, ?_⟩) ?_ ?_
    rotate_left
    · intro w'
      go_simp
      with_reducible rfl
    rotate_left
    · simp only [Act.put, List.setIfInBounds_toArray, List.set_cons_zero, List.set_cons_succ]
      rfl
    refine done_ (by kernel_rfl) ?_
    clear hHeld
    have hy0 : w12.cell? ⟨g8, 0, none⟩ = some (.slice A29 gl.length c29) := (blk_cell BK8.out 0).trans rfl
    have hy1 : w12.cell? ⟨g8, 1, none⟩ = some (.bool gb) := (blk_cell BK8.out 1).trans rfl
    go_wp2_with (first | (have _ := ST8; go_at_call 21; refine (HC7.out (fun k_ => w4.heap.size ≤ k_ ∧ k_ < w5.heap.size) _ _ HB.out F29.out).mono ?_; rintro e w13 ⟨rfl, -, hB, hk⟩; have ST9 := ST8; clear ST8; replace HB := Aside0.mk hB; replace BK2 := Aside0.mk (blk_kept BK2.out hk (fun h_ => by have := Z2.out; have := Z5.out; have := G8.out; have := Z8.out; have := Z7.out; omega)); replace F6 := Aside0.mk (Kd.N_kept F6.out hk (fun k_ h1_ h2_ => by have := Z2.out; have := Z5.out; have := G8.out; have := Z8.out; have := Z7.out; omega)); replace F9 := Aside0.mk (Kd.S_kept F9.out hk (fun k_ h1_ h2_ => by have := Z2.out; have := Z5.out; have := G8.out; have := Z8.out; have := Z7.out; omega)); clear F29 BK8 hy0 hy1 hB hk) | (have _ := ST9; go_at_call 32; refine (HC5.out A9 c9 A6 c6 _ (Kd.S_reads' F9.out).2.2 (Kd.S_reads' F9.out).2.1 (Kd.N_reads' F6.out).2.2 (Kd.N_reads' F6.out).2.1).mono ?_; rintro e w14 ⟨rfl, ⟨nd, hnd⟩⟩; have ST10 := ST9; clear ST9; have hb : Below w13.heap.size w13 w14 := (by rw [hnd]; exact pw_below_drewN (Below.refl _ _) nd); replace HB := Aside0.mk (below_step HB.out hb); replace BK2 := Aside0.mk (blk_below BK2.out hb); replace F6 := Aside0.mk (Kd.N_below F6.out hb); replace F9 := Aside0.mk (Kd.S_below F9.out hb); clear hb hnd) | (have _ := ST10; go_at_call 41; refine (HC8.out (fun k_ => w6.heap.size ≤ k_ ∧ k_ < w7.heap.size) _ _ HB.out F9.out).mono ?_; rintro e w15 ⟨rfl, hS, hB, hk⟩; have ST11 := ST10; clear ST10; have hle := (Kd.S_reads' hS).1; replace HB := Aside0.mk hB; replace BK2 := Aside0.mk (blk_kept BK2.out hk (fun h_ => by have := Z2.out; have := Z5.out; have := G8.out; have := Z8.out; have := Z7.out; omega)); replace F6 := Aside0.mk (Kd.N_kept F6.out hk (fun k_ h1_ h2_ => by have := Z2.out; have := Z5.out; have := G8.out; have := Z8.out; have := Z7.out; omega)); replace F9 := Aside0.mk hS; have HL := Aside0.mk hle; clear hS hB hk hle) | (have _ := ST11; go_at_call 42; have hq9 := F9.out; rw [HL.out] at hq9; rw [HL.out]; refine (HC9.out A9 c9 _ (Kd.S_reads' hq9).2.2 (Kd.S_reads' hq9).2.1).mono ?_; rintro e w16 ⟨rfl, ⟨nd, hnd⟩⟩; have ST12 := ST11; clear ST11 hq9; have hb : Below w15.heap.size w15 w16 := (by rw [hnd]; exact pw_below_drewN (Below.refl _ _) nd); replace HB := Aside0.mk (below_step HB.out hb); replace BK2 := Aside0.mk (blk_below BK2.out hb); replace F6 := Aside0.mk (Kd.N_below F6.out hb); replace F9 := Aside0.mk (Kd.S_below F9.out hb); have hz0 : w16.cell? ⟨g2, 0, none⟩ = some (.slice A0_0 l0_0.length c0_0) := (blk_cell BK2.out 0).trans rfl; have hz1 : w16.cell? ⟨g2, 1, none⟩ = some (.bool a0_1) := (blk_cell BK2.out 1).trans rfl; clear hb hnd) | (have _ := ST12; go_at_call 17; refine (HC2.out _ HB.out).mono ?_; rintro e w17 ⟨v79, rfl, ho, hb⟩; have ST13 := ST12; clear ST12; obtain ⟨A79, c79, rfl⟩ := Kd.R_slice ho; have F79 := Aside0.mk ho; replace HB := Aside0.mk (below_step HB.out hb); replace BK2 := Aside0.mk (blk_below BK2.out hb); replace F6 := Aside0.mk (Kd.N_below F6.out hb); replace F9 := Aside0.mk (Kd.S_below F9.out hb); clear hz0 hz1 hb ho) | (have _ := ST13; go_at_call 50; refine (HC4.out A79 c79 _ (Kd.R_reads' F79.out).2.2 (Kd.R_reads' F79.out).2.1).mono ?_; rintro e w18 ⟨v14, rfl, ho, hb⟩; have ST14 := ST13; clear ST13; obtain ⟨A14, c14, rfl⟩ := Kd.S_slice ho; have F14 := Aside0.mk ho; replace HB := Aside0.mk (below_step HB.out hb); replace BK2 := Aside0.mk (blk_below BK2.out hb); replace F6 := Aside0.mk (Kd.N_below F6.out hb); replace F9 := Aside0.mk (Kd.S_below F9.out hb); clear F79 hb ho) | (have _ := ST14; go_at_call 32; refine (HC5.out A14 c14 A6 c6 _ (Kd.S_reads' F14.out).2.2 (Kd.S_reads' F14.out).2.1 (Kd.N_reads' F6.out).2.2 (Kd.N_reads' F6.out).2.1).mono ?_; rintro e w19 ⟨rfl, ⟨nd, hnd⟩⟩; have ST15 := ST14; clear ST14; have hb : Below w18.heap.size w18 w19 := (by rw [hnd]; exact pw_below_drewN (Below.refl _ _) nd); replace HB := Aside0.mk (below_step HB.out hb); replace BK2 := Aside0.mk (blk_below BK2.out hb); replace F9 := Aside0.mk (Kd.S_below F9.out hb); clear F14 F6; clear hb hnd) | (have _ := ST15; go_at_call 42; have hq9 := F9.out; rw [HL.out] at hq9; rw [HL.out]; refine (HC9.out A9 c9 _ (Kd.S_reads' hq9).2.2 (Kd.S_reads' hq9).2.1).mono ?_; rintro e w20 ⟨rfl, ⟨nd, hnd⟩⟩; have ST16 := ST15; clear ST15 hq9; have hb : Below w19.heap.size w19 w20 := (by rw [hnd]; exact pw_below_drewN (Below.refl _ _) nd); replace HB := Aside0.mk (below_step HB.out hb); clear hb hnd))
    go_ret
    exact ⟨by first | rfl | (simp; done), HB.out⟩

end Go.Proofs.Ytdpdmhjmmpncoaa.P
