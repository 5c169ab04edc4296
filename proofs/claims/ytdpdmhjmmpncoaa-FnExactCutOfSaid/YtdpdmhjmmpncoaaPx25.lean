-- Written by a program of this session (wip/mp.py), which runs the kit's print with contracts of the session's own.
import Derived.Test.YtdpdmhjmmpncoaaPx0
import Derived.Test.YtdpdmhjmmpncoaaPx1
import Derived.Test.YtdpdmhjmmpncoaaPx9
import Derived.Test.YtdpdmhjmmpncoaaPx21
namespace Go.Proofs.Ytdpdmhjmmpncoaa.P
open Go.RowKit Go.Proofs.YtdpdmhjmmpncoaaW.PrintWords Go.Proofs.YtdpdmhjmmpncoaaW.PrintLast Go.Proofs.YtdpdmhjmmpncoaaW.PrintMore
attribute [local go_sem] max2_int min2_int max_two min_two max_three min_three max_four min_four   -- for this text's walks alone
set_option linter.unusedVariables false
set_option linter.unusedSimpArgs false

/-! ### impl_CutOf: function 40 -/
-- BY HAND
/-- The edges of a row of edges that a set cuts, behind out. -/
def cutI (s : Int) : List (List Int) → List (List Int) → Option (List (List Int))
  | [], out => some out
  | e :: es, out => if 1 < e.length then (impl_has.f s (rd e 0)).bind fun a => (impl_has.f s (rd e 1)).bind fun b => if out.length < 1000000 then (if (a != b) = true then cutI s es (out ++ [e]) else cutI s es out) else none else none
def impl_CutOf.f (k : Nat) (l0_0 : List Int) (a0_1 : Bool) (a1 : Int) : Option (List (List Int) × Bool) :=
  (impl_isSet.f k l0_0 a0_1 [a1]).bind fun t => if t = true then (impl_Graph_edges.f k l0_0 a0_1).bind fun E => (cutI a1 E []).bind fun o => some (o, true) else some ([], false)
theorem impl_CutOf.mono : ∀ l0_0 a0_1 a1 k, LeO (impl_CutOf.f k l0_0 a0_1 a1) (impl_CutOf.f (k + 1) l0_0 a0_1 a1) := fun l0_0 a0_1 a1 k => LeO.bind (impl_isSet.mono l0_0 a0_1 [a1] k) (fun t => LeO.ite (LeO.bind (impl_Graph_edges.mono l0_0 a0_1 k) (fun _ => LeO.refl _)) (LeO.refl _))
set_option maxHeartbeats 8000000 in
set_option maxRecDepth 100000 in
theorem impl_CutOf.calls (k : Nat) (A0_0 : Option Addr) (c0_0 : Nat) (l0_0 : List Int) (a0_1 : Bool) (a1 : Int) (r1 : List (List Int)) (r2 : Bool) (w : World) (hr0_0 : Kd.C (Kd.int .i64) w A0_0 l0_0.length l0_0) (hc0_0 : l0_0.length ≤ c0_0) (h : impl_CutOf.f k l0_0 a0_1 a1 = some (r1, r2)) :
    Calls Try.prog 40 #[.agg #[.slice A0_0 l0_0.length c0_0, .bool a0_1], .int .i64 a1] w fun e w' => ∃ v0_ : Value, e = .returned (.tuple #[v0_, .bool r2]) ∧ Kd.S (Kd.slice 3 (Kd.int .i64)) 22 w' w.heap.size (fun _ => True) v0_ r1 ∧ Below w.heap.size w w' := by
  have hu28 := Try.underlying28
  unfold impl_CutOf.f at h
  obtain ⟨t, hg, h⟩ := Option.bind_eq_some_iff.mp h
  have HGG := Aside0.mk (fun (W : World) (A1_ : Option Addr) (c1_ : Nat) (hB : Below w.heap.size w W) (hr1_ : Kd.C (Kd.int .i64) W A1_ ([a1] : List Int).length [a1]) (hc1_ : ([a1] : List Int).length ≤ c1_) => impl_isSet.calls k A0_0 c0_0 l0_0 a0_1 A1_ c1_ [a1] t W (Kd.C_below hr0_0 hB) hc0_0 hr1_ hc1_ hg)
  have hbx := blk_new w (.cells #[.slice A0_0 l0_0.length c0_0, .bool a0_1] 28)
  have HB := Aside0.mk (below_alloc (Below.refl w.heap.size w) (.cells #[.slice A0_0 l0_0.length c0_0, .bool a0_1] 28))
  have HBX := Aside0.mk (fun (W : World) (hB : Below (w.alloc (.cells #[.slice A0_0 l0_0.length c0_0, .bool a0_1] 28)).heap.size (w.alloc (.cells #[.slice A0_0 l0_0.length c0_0, .bool a0_1] 28)) W) => blk_below hbx hB)
  clear hg
  have hzb0 : (w.alloc (.cells #[.slice A0_0 l0_0.length c0_0, .bool a0_1] 28)).cell? ⟨w.heap.size, 0, none⟩ = some (.slice A0_0 l0_0.length c0_0) := (blk_cell hbx 0).trans rfl
  clear hbx
  cases t with
  | false =>
    rw [if_neg (by simp)] at h
    injection h with h
    injection h with e1 e2
    subst e1 e2
    clear hr0_0 hc0_0
    go_enter Try.func40, Try.ntmps40
    go_wp2_with (first
      | ((with_reducible refine gate_dst (N := 11) rfl ?_); refine Kd.R_lit (Kd.int .i64) _ 3 ?hg (N := 11) ?hd (xs := ([a1] : List Int)) (inner := [.int .i64 a1]) (ok := fun _ => True) (okp := fun _ => True) ?hr ?hp (fun _ hk => hk) trivial (Below.refl _ _) (Nat.le_refl _) (by simp) ?_; (case hd => rfl); (case hg => rfl); (case hr => first | (go_simp; done) | (go_simp; rfl)); (case hp => exact (Reps.one (show Kd.M (Kd.int .i64) _ _ _ a1 [.int .i64 a1] from rfl) (Reps.none _ _))); intro v1 w1 ho hb hg_ hnew_; clear hg_ hnew_; obtain ⟨Al, cl, rfl⟩ := Kd.R_slice ho; have HO1 := Aside0.mk ho; have HB1 := Aside0.mk (below_step HB.out hb); have HBK1 := Aside0.mk (HBX.out w1 hb); clear ho hb HB)
      | (go_at_call 68; refine (HGG.out _ Al cl HB1.out (Kd.R_reads' HO1.out).2.2 (Kd.R_reads' HO1.out).2.1).mono ?_; rintro e w2 ⟨rfl, hb2⟩; have HB2 := Aside0.mk (below_step HB1.out hb2); clear hb2 HB1 HBK1 HO1))
    go_ret2
    exact ⟨_, by first | rfl | (simp; done), Kd.S_nil _ _ _ _ _, HB2.out⟩
  | true =>
    rw [if_pos rfl] at h
    obtain ⟨E, h1, h⟩ := Option.bind_eq_some_iff.mp h
    obtain ⟨o, h2, h⟩ := Option.bind_eq_some_iff.mp h
    injection h with h
    injection h with e1 e2
    subst e1 e2
    have HC1 := Aside0.mk (fun (W : World) (hB : Below w.heap.size w W) => impl_Graph_edges.calls k A0_0 c0_0 l0_0 a0_1 E W (Kd.C_below hr0_0 hB) hc0_0 h1)
    have H2 := Aside0.mk h2
    clear h1 h2 hr0_0 hc0_0
    go_enter Try.func40, Try.ntmps40
    go_wp2_with (first
      | ((with_reducible refine gate_dst (N := 11) rfl ?_); refine Kd.R_lit (Kd.int .i64) _ 3 ?hg (N := 11) ?hd (xs := ([a1] : List Int)) (inner := [.int .i64 a1]) (ok := fun _ => True) (okp := fun _ => True) ?hr ?hp (fun _ hk => hk) trivial (Below.refl _ _) (Nat.le_refl _) (by simp) ?_; (case hd => rfl); (case hg => rfl); (case hr => first | (go_simp; done) | (go_simp; rfl)); (case hp => exact (Reps.one (show Kd.M (Kd.int .i64) _ _ _ a1 [.int .i64 a1] from rfl) (Reps.none _ _))); intro v1 w1 ho hb hg_ hnew_; clear hg_ hnew_; obtain ⟨Al, cl, rfl⟩ := Kd.R_slice ho; have HO1 := Aside0.mk ho; have HB1 := Aside0.mk (below_step HB.out hb); have HBK1 := Aside0.mk (HBX.out w1 hb); clear ho hb HB)
      | (go_at_call 68; refine (HGG.out _ Al cl HB1.out (Kd.R_reads' HO1.out).2.2 (Kd.R_reads' HO1.out).2.1).mono ?_; rintro e w2 ⟨rfl, hb2⟩; have HB2 := Aside0.mk (below_step HB1.out hb2); have HBK2 := Aside0.mk (blk_below HBK1.out hb2); clear hb2 HB1 HBK1 HO1)
      | ((with_reducible refine gate_dst (N := 14) rfl ?_); refine Kd.S_lit (Kd.slice 3 (Kd.int .i64)) _ 22 ?hg (N := 14) ?hd (xs := ([] : List (List Int))) (inner := []) (ok := fun _ => True) (okp := fun _ => True) ?hr ?hp (fun _ hk => hk) trivial (Below.refl _ _) (Nat.le_refl _) (by simp) ?_; (case hd => rfl); (case hg => rfl); (case hr => first | (go_simp; done) | (go_simp; rfl)); (case hp => exact (Reps.none _ _)); intro v3 w3 ho hb hg_ hnew_; clear hg_ hnew_; have HO3 := Aside0.mk (Kd.S_lower ho HB2.out.size); have HB3 := Aside0.mk (below_step HB2.out hb); have HBK3 := Aside0.mk (blk_below HBK2.out hb); have hz0 : w3.cell? ⟨w.heap.size, 0, none⟩ = some (.slice A0_0 l0_0.length c0_0) := (blk_cell HBK3.out 0).trans rfl; have hz1 : w3.cell? ⟨w.heap.size, 1, none⟩ = some (.bool a0_1) := (blk_cell HBK3.out 1).trans rfl; clear ho hb HB2 HBK2)
      | (go_at_call 60; refine (HC1.out _ HB3.out).mono ?_; rintro e w4 ⟨v16, rfl, hS, hb4⟩; obtain ⟨AE, cE, rfl⟩ := Kd.S_slice hS; have HO4 := Aside0.mk (Kd.S_below (Kd.S_mono (Kd.S_bound HO3.out) (ok' := fun k_ => k_ < w3.heap.size) (fun k_ hk => hk.2.2.1)) hb4); have HLT := Aside0.mk (Kd.S_lt HO3.out); have HS4 := Aside0.mk (Kd.S_lower (Kd.S_mono (Kd.S_bound hS) (ok' := fun k_ => w3.heap.size ≤ k_ ∧ k_ < w4.heap.size) (fun k_ hk => ⟨hk.2.1, hk.2.2.1⟩)) HB3.out.size); have HB4 := Aside0.mk (below_step HB3.out hb4); clear hb4 hS HO3 hz0 hz1 HBK3))
    have hm := Kd.C_max (Kd.S_reads' HS4.out).2.2
    obtain ⟨fo, hS⟩ := HS4.out
    have HS := Aside0.mk hS
    clear hS HS4
    go_loopg [6, 18] E.length (fun kq v6 v18 w' => ∃ (jj : Nat) (out : List (List Int)), jj ≤ E.length ∧ E.length - jj ≤ kq ∧ v18 = .int .i64 jj ∧ Aside0 (cutI a1 (E.drop jj) out = some o) ∧ Aside0 ((Kd.tag fo (Kd.slice 3 (Kd.int .i64))).R 22 w' w.heap.size (fun k_ => w3.heap.size ≤ k_ ∧ k_ < w4.heap.size) (.slice AE E.length cE) E.zipIdx) ∧ Aside0 (Kd.S (Kd.slice 3 (Kd.int .i64)) 22 w' w.heap.size (fun k_ => ¬ ((w3.heap.size ≤ k_ ∧ k_ < w4.heap.size) ∧ jj ≤ fo k_)) v6 out) ∧ Aside0 (∀ k_, v6.ownBlock = some k_ → ¬ (w3.heap.size ≤ k_ ∧ k_ < w4.heap.size)) ∧ Aside0 (w4.heap.size ≤ w'.heap.size) ∧ Aside0 (Below w.heap.size w w'))
    case atStart => exact ⟨0, [], Nat.zero_le _, by omega, rfl, H2, HS, ⟨Kd.S_mono HO4.out (fun k_ hk h_ => by omega)⟩, ⟨fun k_ e_ h_ => by have := HLT.out k_ e_; omega⟩, ⟨Nat.le_refl _⟩, HB4⟩
    case round =>
      clear HS HO4 HLT HB4 H2
      obtain ⟨jj, out, hjj, hgq, rfl, HA, HS, HO, HN, HZ, HB⟩ := hrel
      by_cases hlt : jj < E.length
      · have hltz : (jj : Int) < (E.length : Int) := by omega
        have p0 : 0 ≤ (jj : Int) := by omega
        have H3 := HA.out
        rw [List.drop_eq_getElem_cons hlt, cutI] at H3
        have hzl : E.zipIdx.length = E.length := List.length_zipIdx
        have hzip : E.zipIdx.getD jj ([], 0) = (E[jj], jj) := by
          rw [List.getD_eq_getElem?_getD, List.getElem?_zipIdx, List.getElem?_eq_getElem hlt]; simp
        obtain ⟨adE, rfl⟩ : ∃ ad, AE = some ad := by
          obtain ⟨ad, _, _, e, -⟩ := at_L1 (Kd.S_reads' (show Kd.S (Kd.slice 3 (Kd.int .i64)) 22 wr w.heap.size _ (.slice AE E.length cE) E from ⟨fo, HS.out⟩)).2.2 (jj : Int) p0 hltz
          exact ⟨_, e⟩
        obtain ⟨ce, hcl, hM, hcc⟩ := Kd.R_getA HS.out ([], 0) (jj : Int) p0 hltz
        rw [Int.toNat_natCast, hzip] at hM
        obtain ⟨ve, rfl, hR⟩ := hM
        dsimp only at hR
        obtain ⟨s, hs⟩ : ∃ z, z = E[jj] := ⟨_, rfl⟩
        rw [← hs] at hR H3
        obtain ⟨Ae, cs, rfl⟩ := Kd.R_slice hR
        have hv := hcc 0 _ rfl
        rw [Int.toNat_natCast, Nat.add_zero, show (Kd.tag fo (Kd.slice 3 (Kd.int .i64))).sz = 1 from rfl, Nat.mul_one] at hv
        have HR := Aside0.mk hR
        clear hcc hcl hR hzip hzl
        by_cases c1 : 1 < s.length
        · rw [if_pos c1] at H3
          obtain ⟨x1, g1, H3⟩ := Option.bind_eq_some_iff.mp H3
          obtain ⟨x2, g2, H3⟩ := Option.bind_eq_some_iff.mp H3
          have HN1 := Aside0.mk (fun (W : World) => impl_has.calls a1 (rd s 0) x1 W g1)
          have HN2 := Aside0.mk (fun (W : World) => impl_has.calls a1 (rd s 1) x2 W g2)
          clear g1 g2
          by_cases c2 : out.length < 1000000
          · rw [if_pos c2] at H3
            have hm5 := s.length
            have HR5 := Aside0.mk (Kd.R_reads' HR.out).2.2
            have p548 : 0 ≤ (0 : Int) := by omega
            have q548 : (0 : Int) < (s.length : Int) := by omega
            obtain ⟨ad548, e548, hx548_0⟩ := Kd.at_int HR5.out 0 p548 q548
            cases e548
            have qi548 : (0 < s.length) = True := eq_true (by omega)
            (try rw [show ((0 : Int)).toNat = 0 from rfl] at hx548_0)
            (try rw [Addr.add_zero'] at hx548_0)
            replace p548 := eq_true p548
            replace q548 := eq_true q548
            replace p0 := eq_true p0
            have q1 := eq_true hltz
            clear hs HA hm5
            by_cases c3 : (x1 != x2) = true
            · rw [if_pos c3] at H3
              have d1 : decide (x1 = x2) = false := by simpa using c3
              have d2 : (x1 == x2) = false := by revert c3; cases x1 <;> cases x2 <;> decide
              have H3 := Aside0.mk H3
              go_wp2_with (first | (go_at_call 65; refine (HN1.out _).mono ?_; rintro e w' ⟨rfl, ⟨nd, rfl⟩⟩; (try first | exact ⟨rfl, _, World.drewN_drewN _ _ _⟩ | exact ⟨rfl, _, Eq.trans (World.drewN_drewN _ _ _) (congrArg (World.drewN _) (Nat.add_assoc _ _ _))⟩); have p550 : 0 ≤ (1 : Int) := (by omega); have q550 : 1 < (s.length : Int) := (by omega); obtain ⟨ad550, e550, hx550_0⟩ := Kd.at_int (by repeat (first | (with_reducible exact HR5.out) | (with_reducible refine Kd.C_alloc ?_ _) | (with_reducible refine Kd.C_drewN ?_ _) | (with_reducible refine Kd.C_drew ?_) | exact HR5.out)) 1 p550 q550; obtain rfl : ad548 = ad550 := (by injection e550); (try simp only [show (1 : Int).toNat = 1 from rfl, Nat.reduceEqDiff, Go.Addr.add, ↓reduceIte] at hx550_0); have qi550 : (1 < s.length) = True := eq_true (by omega); (try rw [show ((1 : Int)).toNat = 1 from rfl] at hx550_0); replace p550 := eq_true p550; replace q550 := eq_true q550) | (go_at_call 65; refine (HN2.out _).mono ?_; rintro e w' ⟨rfl, ⟨nd, rfl⟩⟩; (try first | exact ⟨rfl, _, World.drewN_drewN _ _ _⟩ | exact ⟨rfl, _, Eq.trans (World.drewN_drewN _ _ _) (congrArg (World.drewN _) (Nat.add_assoc _ _ _))⟩)) | ((with_reducible refine gate_builtin (b := .append) (xs := #[.tmp 33, .tmp 35]) rfl ?_); at_builtin; refine Kd.S_append (Kd.slice 3 (Kd.int .i64)) (w0 := w) w.heap.size rfl (.tmp 33) (.tmp 35) 39 22 (.slice none 0 0) 24 rfl Try.underlying39 info22 rfl (by decide) (by omega) u6 out s [.slice (some ad548) s.length cs] (fun k_ => ¬ ((w3.heap.size ≤ k_ ∧ k_ < w4.heap.size) ∧ jj + 1 ≤ fo k_)) (fun k_ => ((w3.heap.size ≤ k_ ∧ k_ < w4.heap.size) ∧ some k_ ≠ (Value.slice (some adE) E.length cE).ownBlock) ∧ fo k_ = jj) rfl rfl ?aP (fun k_ hk => ⟨fun h_ => by have := hk.2; omega, fun e_ => HN.out k_ e_.symm hk.1.1⟩) ?aF ?aO ?aB ?aS ?aL ?_; (case aP => exact Kd.M_row (by (with_reducible repeat (first | apply Kd.R_alloc | apply Kd.R_drewN | apply Kd.R_drew)); exact HR.out)); (case aF => exact fun k_ hk h_ => (by have h7 := HZ.out; simp at hk; omega)); (case aO => exact Kd.S_mono (ok := fun k_ => ¬ ((w3.heap.size ≤ k_ ∧ k_ < w4.heap.size) ∧ jj ≤ fo k_)) (by (with_reducible repeat (first | apply Kd.S_alloc | apply Kd.S_drewN | apply Kd.S_drew)); exact HO.out) (fun k_ hk => ⟨fun h_ => hk ⟨h_.1, by omega⟩, fun h_ => hk ⟨h_.1.1, by omega⟩⟩)); (case aB => exact (by repeat (first | (with_reducible first | exact HB.out | apply below_alloc | apply pw_below_drewN | apply below_drew1) | exact HB.out))); (case aS => exact below_size (by repeat (first | (with_reducible first | exact HB.out | apply below_alloc | apply pw_below_drewN | apply below_drew1) | exact HB.out))); (case aL => omega); intro v5 w5 ho hb hgr hat; have HS5 := Aside0.mk (Kd.R_grown (by (with_reducible repeat (first | apply Kd.R_alloc | apply Kd.R_drewN | apply Kd.R_drew)); exact HS.out) hgr (fun k_ hk e_ => HN.out k_ e_.symm hk)); have HN5 : Aside0 (∀ k_, v5.ownBlock = some k_ → ¬ (w3.heap.size ≤ k_ ∧ k_ < w4.heap.size)) := ⟨fun k_ e_ h_ => hat.elim (fun h5 => HN.out k_ (h5 ▸ e_) h_) (fun ⟨b_, h5, h6⟩ => by rw [h5] at e_; injection e_ with e_; have := HZ.out; simp at h6; omega)⟩; have HZ5 := Aside0.mk (Nat.le_trans HZ.out (Nat.le_trans (by simp) hgr.size)); have HO5 := Aside0.mk ho; have HB5 := Aside0.mk hb; clear ho hb hgr hat))
              repeat (go_quiet (first | (go_at_call 65; refine (HN1.out _).mono ?_; rintro e w' ⟨rfl, ⟨nd, rfl⟩⟩; (try first | exact ⟨rfl, _, World.drewN_drewN _ _ _⟩ | exact ⟨rfl, _, Eq.trans (World.drewN_drewN _ _ _) (congrArg (World.drewN _) (Nat.add_assoc _ _ _))⟩); have p550 : 0 ≤ (1 : Int) := (by omega); have q550 : 1 < (s.length : Int) := (by omega); obtain ⟨ad550, e550, hx550_0⟩ := Kd.at_int (by repeat (first | (with_reducible exact HR5.out) | (with_reducible refine Kd.C_alloc ?_ _) | (with_reducible refine Kd.C_drewN ?_ _) | (with_reducible refine Kd.C_drew ?_) | exact HR5.out)) 1 p550 q550; obtain rfl : ad548 = ad550 := (by injection e550); (try simp only [show (1 : Int).toNat = 1 from rfl, Nat.reduceEqDiff, Go.Addr.add, ↓reduceIte] at hx550_0); have qi550 : (1 < s.length) = True := eq_true (by omega); (try rw [show ((1 : Int)).toNat = 1 from rfl] at hx550_0); replace p550 := eq_true p550; replace q550 := eq_true q550) | (go_at_call 65; refine (HN2.out _).mono ?_; rintro e w' ⟨rfl, ⟨nd, rfl⟩⟩; (try first | exact ⟨rfl, _, World.drewN_drewN _ _ _⟩ | exact ⟨rfl, _, Eq.trans (World.drewN_drewN _ _ _) (congrArg (World.drewN _) (Nat.add_assoc _ _ _))⟩)) | ((with_reducible refine gate_builtin (b := .append) (xs := #[.tmp 33, .tmp 35]) rfl ?_); at_builtin; refine Kd.S_append (Kd.slice 3 (Kd.int .i64)) (w0 := w) w.heap.size rfl (.tmp 33) (.tmp 35) 39 22 (.slice none 0 0) 24 rfl Try.underlying39 info22 rfl (by decide) (by omega) u6 out s [.slice (some ad548) s.length cs] (fun k_ => ¬ ((w3.heap.size ≤ k_ ∧ k_ < w4.heap.size) ∧ jj + 1 ≤ fo k_)) (fun k_ => ((w3.heap.size ≤ k_ ∧ k_ < w4.heap.size) ∧ some k_ ≠ (Value.slice (some adE) E.length cE).ownBlock) ∧ fo k_ = jj) rfl rfl ?aP (fun k_ hk => ⟨fun h_ => by have := hk.2; omega, fun e_ => HN.out k_ e_.symm hk.1.1⟩) ?aF ?aO ?aB ?aS ?aL ?_; (case aP => exact Kd.M_row (by (with_reducible repeat (first | apply Kd.R_alloc | apply Kd.R_drewN | apply Kd.R_drew)); exact HR.out)); (case aF => exact fun k_ hk h_ => (by have h7 := HZ.out; simp at hk; omega)); (case aO => exact Kd.S_mono (ok := fun k_ => ¬ ((w3.heap.size ≤ k_ ∧ k_ < w4.heap.size) ∧ jj ≤ fo k_)) (by (with_reducible repeat (first | apply Kd.S_alloc | apply Kd.S_drewN | apply Kd.S_drew)); exact HO.out) (fun k_ hk => ⟨fun h_ => hk ⟨h_.1, by omega⟩, fun h_ => hk ⟨h_.1.1, by omega⟩⟩)); (case aB => exact (by repeat (first | (with_reducible first | exact HB.out | apply below_alloc | apply pw_below_drewN | apply below_drew1) | exact HB.out))); (case aS => exact below_size (by repeat (first | (with_reducible first | exact HB.out | apply below_alloc | apply pw_below_drewN | apply below_drew1) | exact HB.out))); (case aL => omega); intro v5 w5 ho hb hgr hat; have HS5 := Aside0.mk (Kd.R_grown (by (with_reducible repeat (first | apply Kd.R_alloc | apply Kd.R_drewN | apply Kd.R_drew)); exact HS.out) hgr (fun k_ hk e_ => HN.out k_ e_.symm hk)); have HN5 : Aside0 (∀ k_, v5.ownBlock = some k_ → ¬ (w3.heap.size ≤ k_ ∧ k_ < w4.heap.size)) := ⟨fun k_ e_ h_ => hat.elim (fun h5 => HN.out k_ (h5 ▸ e_) h_) (fun ⟨b_, h5, h6⟩ => by rw [h5] at e_; injection e_ with e_; have := HZ.out; simp at h6; omega)⟩; have HZ5 := Aside0.mk (Nat.le_trans HZ.out (Nat.le_trans (by simp) hgr.size)); have HO5 := Aside0.mk ho; have HB5 := Aside0.mk hb; clear ho hb hgr hat)); try go_wp2_with (first | (go_at_call 65; refine (HN1.out _).mono ?_; rintro e w' ⟨rfl, ⟨nd, rfl⟩⟩; (try first | exact ⟨rfl, _, World.drewN_drewN _ _ _⟩ | exact ⟨rfl, _, Eq.trans (World.drewN_drewN _ _ _) (congrArg (World.drewN _) (Nat.add_assoc _ _ _))⟩); have p550 : 0 ≤ (1 : Int) := (by omega); have q550 : 1 < (s.length : Int) := (by omega); obtain ⟨ad550, e550, hx550_0⟩ := Kd.at_int (by repeat (first | (with_reducible exact HR5.out) | (with_reducible refine Kd.C_alloc ?_ _) | (with_reducible refine Kd.C_drewN ?_ _) | (with_reducible refine Kd.C_drew ?_) | exact HR5.out)) 1 p550 q550; obtain rfl : ad548 = ad550 := (by injection e550); (try simp only [show (1 : Int).toNat = 1 from rfl, Nat.reduceEqDiff, Go.Addr.add, ↓reduceIte] at hx550_0); have qi550 : (1 < s.length) = True := eq_true (by omega); (try rw [show ((1 : Int)).toNat = 1 from rfl] at hx550_0); replace p550 := eq_true p550; replace q550 := eq_true q550) | (go_at_call 65; refine (HN2.out _).mono ?_; rintro e w' ⟨rfl, ⟨nd, rfl⟩⟩; (try first | exact ⟨rfl, _, World.drewN_drewN _ _ _⟩ | exact ⟨rfl, _, Eq.trans (World.drewN_drewN _ _ _) (congrArg (World.drewN _) (Nat.add_assoc _ _ _))⟩)) | ((with_reducible refine gate_builtin (b := .append) (xs := #[.tmp 33, .tmp 35]) rfl ?_); at_builtin; refine Kd.S_append (Kd.slice 3 (Kd.int .i64)) (w0 := w) w.heap.size rfl (.tmp 33) (.tmp 35) 39 22 (.slice none 0 0) 24 rfl Try.underlying39 info22 rfl (by decide) (by omega) u6 out s [.slice (some ad548) s.length cs] (fun k_ => ¬ ((w3.heap.size ≤ k_ ∧ k_ < w4.heap.size) ∧ jj + 1 ≤ fo k_)) (fun k_ => ((w3.heap.size ≤ k_ ∧ k_ < w4.heap.size) ∧ some k_ ≠ (Value.slice (some adE) E.length cE).ownBlock) ∧ fo k_ = jj) rfl rfl ?aP (fun k_ hk => ⟨fun h_ => by have := hk.2; omega, fun e_ => HN.out k_ e_.symm hk.1.1⟩) ?aF ?aO ?aB ?aS ?aL ?_; (case aP => exact Kd.M_row (by (with_reducible repeat (first | apply Kd.R_alloc | apply Kd.R_drewN | apply Kd.R_drew)); exact HR.out)); (case aF => exact fun k_ hk h_ => (by have h7 := HZ.out; simp at hk; omega)); (case aO => exact Kd.S_mono (ok := fun k_ => ¬ ((w3.heap.size ≤ k_ ∧ k_ < w4.heap.size) ∧ jj ≤ fo k_)) (by (with_reducible repeat (first | apply Kd.S_alloc | apply Kd.S_drewN | apply Kd.S_drew)); exact HO.out) (fun k_ hk => ⟨fun h_ => hk ⟨h_.1, by omega⟩, fun h_ => hk ⟨h_.1.1, by omega⟩⟩)); (case aB => exact (by repeat (first | (with_reducible first | exact HB.out | apply below_alloc | apply pw_below_drewN | apply below_drew1) | exact HB.out))); (case aS => exact below_size (by repeat (first | (with_reducible first | exact HB.out | apply below_alloc | apply pw_below_drewN | apply below_drew1) | exact HB.out))); (case aL => omega); intro v5 w5 ho hb hgr hat; have HS5 := Aside0.mk (Kd.R_grown (by (with_reducible repeat (first | apply Kd.R_alloc | apply Kd.R_drewN | apply Kd.R_drew)); exact HS.out) hgr (fun k_ hk e_ => HN.out k_ e_.symm hk)); have HN5 : Aside0 (∀ k_, v5.ownBlock = some k_ → ¬ (w3.heap.size ≤ k_ ∧ k_ < w4.heap.size)) := ⟨fun k_ e_ h_ => hat.elim (fun h5 => HN.out k_ (h5 ▸ e_) h_) (fun ⟨b_, h5, h6⟩ => by rw [h5] at e_; injection e_ with e_; have := HZ.out; simp at h6; omega)⟩; have HZ5 := Aside0.mk (Nat.le_trans HZ.out (Nat.le_trans (by simp) hgr.size)); have HO5 := Aside0.mk ho; have HB5 := Aside0.mk hb; clear ho hb hgr hat)))
              go_roundg (E.length - (jj + 1))
              case measure => omega
              case rel => exact ⟨jj + 1, _, by omega, by omega, by go_num, H3, HS5, HO5, HN5, HZ5, HB5⟩
            · rw [if_neg c3] at H3
              have c3 : (x1 != x2) = false := Bool.eq_false_iff.mpr c3
              have d1 : decide (x1 = x2) = true := by simpa using c3
              have d2 : (x1 == x2) = true := by revert c3; cases x1 <;> cases x2 <;> decide
              have H3 := Aside0.mk H3
              go_wp2_with (first | (go_at_call 65; refine (HN1.out _).mono ?_; rintro e w' ⟨rfl, ⟨nd, rfl⟩⟩; (try first | exact ⟨rfl, _, World.drewN_drewN _ _ _⟩ | exact ⟨rfl, _, Eq.trans (World.drewN_drewN _ _ _) (congrArg (World.drewN _) (Nat.add_assoc _ _ _))⟩); have p550 : 0 ≤ (1 : Int) := (by omega); have q550 : 1 < (s.length : Int) := (by omega); obtain ⟨ad550, e550, hx550_0⟩ := Kd.at_int (by repeat (first | (with_reducible exact HR5.out) | (with_reducible refine Kd.C_alloc ?_ _) | (with_reducible refine Kd.C_drewN ?_ _) | (with_reducible refine Kd.C_drew ?_) | exact HR5.out)) 1 p550 q550; obtain rfl : ad548 = ad550 := (by injection e550); (try simp only [show (1 : Int).toNat = 1 from rfl, Nat.reduceEqDiff, Go.Addr.add, ↓reduceIte] at hx550_0); have qi550 : (1 < s.length) = True := eq_true (by omega); (try rw [show ((1 : Int)).toNat = 1 from rfl] at hx550_0); replace p550 := eq_true p550; replace q550 := eq_true q550) | (go_at_call 65; refine (HN2.out _).mono ?_; rintro e w' ⟨rfl, ⟨nd, rfl⟩⟩; (try first | exact ⟨rfl, _, World.drewN_drewN _ _ _⟩ | exact ⟨rfl, _, Eq.trans (World.drewN_drewN _ _ _) (congrArg (World.drewN _) (Nat.add_assoc _ _ _))⟩)))
              repeat (go_quiet (first | (go_at_call 65; refine (HN1.out _).mono ?_; rintro e w' ⟨rfl, ⟨nd, rfl⟩⟩; (try first | exact ⟨rfl, _, World.drewN_drewN _ _ _⟩ | exact ⟨rfl, _, Eq.trans (World.drewN_drewN _ _ _) (congrArg (World.drewN _) (Nat.add_assoc _ _ _))⟩); have p550 : 0 ≤ (1 : Int) := (by omega); have q550 : 1 < (s.length : Int) := (by omega); obtain ⟨ad550, e550, hx550_0⟩ := Kd.at_int (by repeat (first | (with_reducible exact HR5.out) | (with_reducible refine Kd.C_alloc ?_ _) | (with_reducible refine Kd.C_drewN ?_ _) | (with_reducible refine Kd.C_drew ?_) | exact HR5.out)) 1 p550 q550; obtain rfl : ad548 = ad550 := (by injection e550); (try simp only [show (1 : Int).toNat = 1 from rfl, Nat.reduceEqDiff, Go.Addr.add, ↓reduceIte] at hx550_0); have qi550 : (1 < s.length) = True := eq_true (by omega); (try rw [show ((1 : Int)).toNat = 1 from rfl] at hx550_0); replace p550 := eq_true p550; replace q550 := eq_true q550) | (go_at_call 65; refine (HN2.out _).mono ?_; rintro e w' ⟨rfl, ⟨nd, rfl⟩⟩; (try first | exact ⟨rfl, _, World.drewN_drewN _ _ _⟩ | exact ⟨rfl, _, Eq.trans (World.drewN_drewN _ _ _) (congrArg (World.drewN _) (Nat.add_assoc _ _ _))⟩))); try go_wp2_with (first | (go_at_call 65; refine (HN1.out _).mono ?_; rintro e w' ⟨rfl, ⟨nd, rfl⟩⟩; (try first | exact ⟨rfl, _, World.drewN_drewN _ _ _⟩ | exact ⟨rfl, _, Eq.trans (World.drewN_drewN _ _ _) (congrArg (World.drewN _) (Nat.add_assoc _ _ _))⟩); have p550 : 0 ≤ (1 : Int) := (by omega); have q550 : 1 < (s.length : Int) := (by omega); obtain ⟨ad550, e550, hx550_0⟩ := Kd.at_int (by repeat (first | (with_reducible exact HR5.out) | (with_reducible refine Kd.C_alloc ?_ _) | (with_reducible refine Kd.C_drewN ?_ _) | (with_reducible refine Kd.C_drew ?_) | exact HR5.out)) 1 p550 q550; obtain rfl : ad548 = ad550 := (by injection e550); (try simp only [show (1 : Int).toNat = 1 from rfl, Nat.reduceEqDiff, Go.Addr.add, ↓reduceIte] at hx550_0); have qi550 : (1 < s.length) = True := eq_true (by omega); (try rw [show ((1 : Int)).toNat = 1 from rfl] at hx550_0); replace p550 := eq_true p550; replace q550 := eq_true q550) | (go_at_call 65; refine (HN2.out _).mono ?_; rintro e w' ⟨rfl, ⟨nd, rfl⟩⟩; (try first | exact ⟨rfl, _, World.drewN_drewN _ _ _⟩ | exact ⟨rfl, _, Eq.trans (World.drewN_drewN _ _ _) (congrArg (World.drewN _) (Nat.add_assoc _ _ _))⟩))))
              go_roundg (E.length - (jj + 1))
              case measure => omega
              case rel => exact ⟨jj + 1, _, by omega, by omega, by go_num, H3, ⟨(by (with_reducible repeat (first | apply Kd.R_alloc | apply Kd.R_drewN | apply Kd.R_drew)); exact HS.out)⟩, ⟨Kd.S_mono (ok := fun k_ => ¬ ((w3.heap.size ≤ k_ ∧ k_ < w4.heap.size) ∧ jj ≤ fo k_)) (by (with_reducible repeat (first | apply Kd.S_alloc | apply Kd.S_drewN | apply Kd.S_drew)); exact HO.out) (fun k_ hk h_ => hk ⟨h_.1, by omega⟩)⟩, HN, ⟨Nat.le_trans HZ.out (by simp)⟩, ⟨(by repeat (first | (with_reducible first | exact HB.out | apply below_alloc | apply pw_below_drewN | apply below_drew1) | exact HB.out))⟩⟩
          · rw [if_neg c2] at H3
            cases H3
        · rw [if_neg c1] at H3
          cases H3
      · have hltz : ¬ (jj : Int) < (E.length : Int) := by omega
        obtain rfl : jj = E.length := by omega
        have H3 := HA.out
        rw [List.drop_length, cutI] at H3
        injection H3 with H3
        subst H3
        clear HA
        go_wp2
        go_ret2
        exact ⟨_, by first | rfl | (simp; done), Kd.S_mono HO.out (fun _ _ => trivial), HB.out⟩

end Go.Proofs.Ytdpdmhjmmpncoaa.P
