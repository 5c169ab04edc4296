-- Written by a program of this session (wip/mp.py), which runs the kit's print with contracts of the session's own.
import Derived.Test.YtoobofnpdiapgaaPx0
namespace Go.Proofs.Ytoobofnpdiapgaa.P
open Go.RowKit Go.Proofs.YtoobofnpdiapgaaW.PrintWords Go.Proofs.YtoobofnpdiapgaaW.PrintLast Go.Proofs.YtoobofnpdiapgaaW.PrintMore
attribute [local go_sem] max2_int min2_int max_two min_two max_three min_three max_four min_four   -- for this text's walks alone
set_option linter.unusedVariables false
set_option linter.unusedSimpArgs false
/-! ### slices_Sort_int_int: function 52 -/
-- BY HAND
def slices_Sort_int_int.f (l0 : List Int) : Option (List Int) := if l0.length < 4611686018427387904 then some (l0.mergeSort fun x y => decide (x ≤ y)) else none
set_option maxHeartbeats 4000000 in
theorem slices_Sort_int_int.calls (P0_ : Nat → Prop) (u9000_ : Value) (l0 : List Int) (r : List Int) (w0 w : World) (hB : Below w0.heap.size w0 w) (ho0 : Kd.R (Kd.int .i64) 3 w w0.heap.size P0_ u9000_ l0) (h : slices_Sort_int_int.f l0 = some r) :
    Calls Try.prog 52 #[u9000_] w fun e w' => e = .returned (.tuple #[]) ∧ Kd.R (Kd.int .i64) 3 w' w0.heap.size (fun k_ => (P0_ k_ ∨ w.heap.size ≤ k_)) u9000_ r ∧ Below w0.heap.size w0 w' ∧ Kept w w' (fun k_ => P0_ k_) := by
  unfold slices_Sort_int_int.f at h
  split at h
  · rename_i hlen
    obtain rfl := Option.some.inj h
    have hown := Kd.own_of_R ho0
    have hP := ho0.1
    rcases hown.2 with ⟨rfl, hn⟩ | ⟨g, cap, cur, rfl, hbase, hb, h1, h2, h3, h4⟩
    · obtain rfl : l0 = [] := List.eq_nil_of_length_eq_zero hn
      refine (Try.slices_Sort_int_none none 0 w).mono ?_
      rintro e w' ⟨rfl, rfl⟩
      exact ⟨rfl, (by rw [List.mergeSort_nil]; exact Kd.R_nil _ _ _ _ _), hB, Kept.refl _ _⟩
    · have ht : cur.toList.take l0.length = l0.map (Value.int .i64) := by simpa [encs] using h4
      refine (Try.slices_Sort_int g 0 cap l0 w (holds_of_blockI hb ht) (Array.getElem?_eq_some_iff.1 hb).1 hlen).mono ?_
      rintro e w' ⟨rfl, n, os, rfl⟩
      have hg := grownBy_sortedI (w := w) (g := g) (n := n) (os := os) (l0.mergeSort fun x y => decide (x ≤ y)).toArray
      have hl : (l0.mergeSort fun x y => decide (x ≤ y)).length = l0.length := by simp
      have hs := ownsRow_sortedI (n := n) (os := os) hl hbase hb h1 h2 h3
      refine ⟨rfl, Kd.R_of_own ?_ (fun k hk => .inl (hP k (by simpa [Value.ownBlock] using hk))), pw_below_grown hB (some g) hB.size hg (fun k hk => by injection hk with hk; omega), Kept.of_grown hg (Kept.refl _ _) (fun k e_ => .inl (hP k (by simpa [Value.ownBlock] using e_)))⟩
      rw [hl]
      simpa [encs] using hs
  · cases h
/-! ### impl_patterns: function 51 -/
-- BY HAND
section
open Go.Proofs.Ytoobofnpdiapgaa.Bk Go.Shelf
/-- slices.Clone of a row of one's own that is not empty. -/
theorem clone_R (base : Nat) (P : Nat → Prop) (v : Value) (l : List Int) (w : World) (hO : Kd.R (Kd.int .i64) 3 w base P v l) (h0 : 0 < l.length) (h1 : l.length ≤ 1000000) :
    Calls Try.prog 78 #[v] w fun e w' => ∃ v', e = .returned v' ∧ Kd.R (Kd.int .i64) 3 w' w.heap.size (fun k => some k = v'.ownBlock) v' l ∧ Below w.heap.size w w' := by
  have hown := Kd.own_of_R hO
  rcases hown.2 with ⟨rfl, hn⟩ | ⟨g, cap, cur, rfl, hbase, hb, h1, h2, h3, h4⟩
  · omega
  · refine (Try.slices_Clone_int g 0 l.length cap l w (Nat.le_refl _) (by omega) (fun j hj => ?_)).mono ?_
    · have := (Kd.R_cell 0 hO (j : Int) (by omega) (by omega)).1
      rw [Int.toNat_natCast] at this
      rw [Nat.zero_add, this]
      rfl
    · rintro e w' ⟨v', rfl, ho, -, hB⟩
      rw [List.take_length] at ho
      exact ⟨v', rfl, Kd.R_tight rfl (Kd.R_of_own (ok := fun _ => True) ho (fun _ _ => trivial)), hB⟩
/-- All of a row, each with b added, behind out. -/
def patI (b : Int) : List Int → List Int → Option (List Int)
  | [], out => some out
  | s :: ss, out => if out.length < 1000000 then patI b ss (out ++ [Go.bits .xor .i64 s b]) else none
/-- All sums of a basis. -/
def patL : List Int → List Int → Option (List Int)
  | [], out => some out
  | b :: bs, out => if 0 < out.length ∧ out.length ≤ 1000000 then (patI b out out).bind (patL bs) else none
set_option maxHeartbeats 8000000 in
set_option maxRecDepth 100000 in
theorem impl_patterns.calls (A0 : Option Addr) (c0 : Nat) (l0 out r : List Int) (w : World) (hr0 : Kd.C (Kd.int .i64) w A0 l0.length l0) (h1 : patL l0 [0] = some out) (h2 : slices_Sort_int_int.f out = some r) :
    Calls Try.prog 51 #[.slice A0 l0.length c0] w fun e w' => ∃ v, e = .returned v ∧ Kd.R (Kd.int .i64) 3 w' w.heap.size (fun _ => True) v r ∧ Below w.heap.size w w' := by
  have hm := Kd.C_max hr0
  have HR0 := Aside0.mk hr0
  have H1 := Aside0.mk h1
  have H2 := Aside0.mk h2
  clear hr0 h1 h2
  go_enter Try.func51, Try.ntmps51
  go_wp2_with ((with_reducible refine gate_dst (N := 8) rfl ?_); refine Kd.R_lit (Kd.int .i64) _ 3 ?hg (N := 8) ?hd (xs := ([0] : List Int)) (inner := [.int .i64 0]) (ok := fun _ => True) (okp := fun _ => True) ?hr ?hp (fun _ hk => hk) trivial (Below.refl _ _) (Nat.le_refl _) (by simp) ?_; (case hd => rfl); (case hg => rfl); (case hr => first | (go_simp; done) | (go_simp; rfl)); (case hp => exact Kd.reps_scalar [0]); intro v1 w1 ho hb hg_ hnew_; clear hg_ hnew_; have HO := Aside0.mk ho; have HB1 := Aside0.mk hb; clear ho hb)
  go_loopg [3, 11] l0.length (fun kq v3 v11 w' => ∃ (kk : Nat) (out1 : List Int), kk ≤ l0.length ∧ l0.length - kk ≤ kq ∧ v11 = .int .i64 kk ∧ Aside0 (patL (l0.drop kk) out1 = some out) ∧ Aside0 (Kd.R (Kd.int .i64) 3 w' w.heap.size (fun _ => True) v3 out1) ∧ Aside0 (Below w.heap.size w w'))
  case atStart => exact ⟨0, [0], Nat.zero_le _, by omega, rfl, H1, HO, HB1⟩
  case round =>
    obtain ⟨kk, out1, hkk, hg, rfl, HA, HO, HB⟩ := hrel
    by_cases hlt : kk < l0.length
    · have hltz : (kk : Int) < (l0.length : Int) := by omega
      have p1 : 0 ≤ (kk : Int) := by omega
      obtain ⟨ad, e1, hx0⟩ := Kd.at_int (Kd.C_below HR0.out HB.out) kk p1 hltz
      cases e1
      rw [Int.toNat_natCast] at hx0
      obtain ⟨b, hb⟩ : ∃ z, z = rd l0 kk := ⟨_, rfl⟩
      have H := HA.out
      rw [List.drop_eq_getElem_cons hlt, show l0[kk] = b by rw [hb]; simp [rd, List.getElem?_eq_getElem hlt], patL] at H
      rw [← hb] at hx0
      clear HA hb H1
      by_cases c0 : 0 < out1.length ∧ out1.length ≤ 1000000
      · rw [if_pos c0] at H
        obtain ⟨out2, A1, H⟩ := Option.bind_eq_some_iff.mp H
        replace A1 := Aside0.mk A1
        replace H := Aside0.mk H
        have HCl := Aside0.mk (clone_R _ _ _ _ _ HO.out c0.1 c0.2)
        have hm1 : out1.length ≤ 1000000 := c0.2
        have HCl := Aside0.mk (fun W (hW : W = wr) => hW ▸ HCl.out)
        go_wp2_with (go_at_call 78; refine (HCl.out _ rfl).mono ?_; rintro e w2 ⟨v16, rfl, hR16, hb2⟩; obtain ⟨A16, c16, rfl⟩ := Kd.R_slice hR16; have HO2 := Aside0.mk (Kd.R_below HO.out hb2); have HB2 := Aside0.mk (below_step HB.out hb2); have HN : Aside0 (∀ k, some k = Value.ownBlock (.slice A16 out1.length c16) → u3.ownBlock = some k → False) := ⟨fun k e e2 => absurd (Kd.R_lt HO.out k e2) (by have := Kd.R_base hR16 k e.symm; omega)⟩; have HR16 := Aside0.mk (Kd.R_lower hR16 HB.out.size); clear hb2 hR16 HO HB HCl)
        go_loopg [3, 18] out1.length (fun kq v3 v18 w' => ∃ (jj : Nat) (out3 : List Int), jj ≤ out1.length ∧ out1.length - jj ≤ kq ∧ v18 = .int .i64 jj ∧ Aside0 (patI b (out1.drop jj) out3 = some out2) ∧ Aside0 (Kd.R (Kd.int .i64) 3 w' w.heap.size (fun _ => True) v3 out3) ∧ Aside0 (Kd.R (Kd.int .i64) 3 w' w.heap.size (fun k => some k = Value.ownBlock (.slice A16 out1.length c16)) (.slice A16 out1.length c16) out1) ∧ Aside0 (∀ k, some k = Value.ownBlock (.slice A16 out1.length c16) → v3.ownBlock = some k → False) ∧ Aside0 (Below w.heap.size w w'))
        case atStart => exact ⟨0, out1, Nat.zero_le _, by omega, rfl, A1, HO2, HR16, HN, HB2⟩
        case round =>
          obtain ⟨jj, out3, hjj, hg2, rfl, HA, HO, HR, HN, HB⟩ := hrel
          by_cases hlt2 : jj < out1.length
          · have hltz2 : (jj : Int) < (out1.length : Int) := by omega
            have p2 : 0 ≤ (jj : Int) := by omega
            obtain ⟨ad2, e2, hx2⟩ := Kd.at_int (Kd.R_reads' HR.out).2.2 jj p2 hltz2
            cases e2
            rw [Int.toNat_natCast] at hx2
            obtain ⟨s, hs⟩ : ∃ z, z = rd out1 jj := ⟨_, rfl⟩
            have H3 := HA.out
            rw [List.drop_eq_getElem_cons hlt2, show out1[jj] = s by rw [hs]; simp [rd, List.getElem?_eq_getElem hlt2], patI] at H3
            rw [← hs] at hx2
            clear HA hs
            by_cases c1 : out3.length < 1000000
            · rw [if_pos c1] at H3
              replace H3 := Aside0.mk H3
              go_wp2_with ((with_reducible refine gate_builtin (b := .append) (xs := #[.tmp 22, .tmp 26]) rfl ?_); at_builtin; refine Kd.R_append (Kd.int .i64) (w0 := w) w.heap.size rfl (.tmp 22) (.tmp 26) 22 3 (.int .i64 0) 8 rfl Try.underlying22 info3 rfl (by decide) (by omega) u3 out3 (Go.bits .xor .i64 s b) [.int .i64 (Go.bits .xor .i64 s b)] (fun _ => True) (fun _ => False) rfl rfl ?aP (fun _ hk => hk.elim) (fun _ _ => trivial) ?aO ?aB ?aS ?aL ?_; (case aP => exact rfl); (case aB => exact HB.out); (case aO => exact HO.out); (case aS => exact HB.out.size); (case aL => omega); intro v5 w5 ho hb hgr hat; have HR5 := Aside0.mk (Kd.R_grown HR.out hgr (fun k e e2 => HN.out k e e2.symm)); have HN5 : Aside0 (∀ k, some k = Value.ownBlock (.slice (some ad2) out1.length c16) → v5.ownBlock = some k → False) := (⟨fun k e e2 => hat.elim (fun h => HN.out k e (h ▸ e2)) (fun ⟨b_, h1, h2⟩ => absurd (Kd.R_lt HR.out k e.symm) (by rw [h1] at e2; injection e2 with e2; omega))⟩); have HO5 := Aside0.mk ho; have HB5 := Aside0.mk hb; clear ho hb hgr hat)
              go_roundg (out1.length - (jj + 1))
              case measure => omega
              case rel => exact ⟨jj + 1, _, by omega, by omega, by go_num, H3, HO5, HR5, HN5, HB5⟩
            · rw [if_neg c1] at H3
              cases H3
          · have hltz2 : ¬ (jj : Int) < (out1.length : Int) := by omega
            obtain rfl : jj = out1.length := by omega
            have H3 := HA.out
            rw [List.drop_length, patI] at H3
            injection H3 with H3
            subst H3
            clear HA
            go_wp2
            go_roundg (l0.length - (kk + 1))
            case measure => omega
            case rel => exact ⟨kk + 1, _, by omega, by omega, by go_num, H, HO, HB⟩
      · rw [if_neg c0] at H
        cases H
    · have hltz : ¬ (kk : Int) < (l0.length : Int) := by omega
      obtain rfl : kk = l0.length := by omega
      have H := HA.out
      rw [List.drop_length, patL] at H
      injection H with H
      subst H
      clear HA H1
      go_wp2_with (go_at_call 52; refine (slices_Sort_int_int.calls (fun _ => True) _ _ r w _ HB.out HO.out H2.out).mono ?_; rintro e w3 ⟨rfl, hR, hb3, -⟩; have HR3 := Aside0.mk (Kd.R_mono hR (fun _ _ => trivial)); have HB3 := Aside0.mk hb3; clear hR hb3 HB HO)
      go_ret
      exact ⟨_, rfl, HR3.out, HB3.out⟩
end
end Go.Proofs.Ytoobofnpdiapgaa.P
