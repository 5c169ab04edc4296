-- Written by a program of this session (wip/mp.py), which runs the kit's print with contracts of the session's own.
import Derived.Test.YtoobofnpdiapgaaPx0
import Derived.Test.YtoobofnpdiapgaaPx10
import Derived.Test.YtoobofnpdiapgaaPx11
namespace Go.Proofs.Ytoobofnpdiapgaa.P
open Go.RowKit Go.Proofs.YtoobofnpdiapgaaW.PrintWords Go.Proofs.YtoobofnpdiapgaaW.PrintLast Go.Proofs.YtoobofnpdiapgaaW.PrintMore
attribute [local go_sem] max2_int min2_int max_two min_two max_three min_three max_four min_four   -- for this text's walks alone
set_option linter.unusedVariables false
set_option linter.unusedSimpArgs false
/-! ### impl_solverFor: function 77 -/
-- BY HAND
section
open Go.Proofs.Ytoobofnpdiapgaa.Bk Go.Shelf
theorem info91 : (Try.prog.info? 91).map (fun i => (i.zero, i.size, i.bytes)) = some (some (.agg #[.int .i64 0, .int .i64 0]), 2, 16) := by kernel_rfl
/-- A solver of effects: behind those of the first i buttons. -/
def solF (k : Nat) : List Int → Nat → List (Int × Int) → List Int → List Int → Option (List (Int × Int) × List Int × List Int)
  | [], _, ps, qs, is => some (ps, qs, is)
  | e :: es, i, ps, qs, is => (impl_extended.f k is e).bind fun is2 => (reachL ps k e 0).bind fun lr =>
      if lr.1 = 0 then (impl_extended.f k qs (Go.bits .xor .i64 lr.2 (shl .i64 1 (i : Int)))).bind fun qs2 => solF k es (i + 1) ps qs2 is2
      else if ps.length < 1000000 then solF k es (i + 1) (ps ++ [(lr.1, Go.bits .xor .i64 lr.2 (shl .i64 1 (i : Int)))]) qs is2 else none
set_option maxHeartbeats 8000000 in
set_option maxRecDepth 100000 in
theorem impl_solverFor.calls (k : Nat) (A0 : Option Addr) (c0 : Nat) (l0 : List Int) (ps : List (Int × Int)) (qs is : List Int) (w : World) (hr0 : Kd.C (Kd.int .i64) w A0 l0.length l0) (h : solF k l0 0 [] [] [] = some (ps, qs, is)) :
    Calls Try.prog 77 #[.slice A0 l0.length c0] w fun e w' => ∃ g : Nat, e = .returned (.pointer (some ⟨g, 0, none⟩)) ∧ SVx w.heap.size g ps qs is w' ∧ Below w.heap.size w w' := by
  have hm := Kd.C_max hr0
  have HR0 := Aside0.mk hr0
  have H0 := Aside0.mk h
  have hu47 := Try.underlying47
  clear hr0 h
  go_enter Try.func77, Try.ntmps77
  go_wp2
  go_loopg [12] l0.length (fun kq v12 w' => ∃ (kk : Nat) (vp vq vi : Value) (ps1 : List (Int × Int)) (qs1 is1 : List Int), kk ≤ l0.length ∧ l0.length - kk ≤ kq ∧ v12 = .int .i64 kk ∧ Aside0 (solF k (l0.drop kk) kk ps1 qs1 is1 = some (ps, qs, is)) ∧ Aside0 (SV w.heap.size w.heap.size vp vq vi ps1 qs1 is1 w') ∧ Aside0 (Below w.heap.size w w'))
  case atStart => exact ⟨0, _, _, _, [], [], [], Nat.zero_le _, by omega, rfl, H0, ⟨⟨blk_new _ _, Nat.le_refl _, Kd.R_nil _ _ _ _ _, Kd.R_nil _ _ _ _ _, Kd.R_nil _ _ _ _ _, fun k e => by simp [Value.ownBlock] at e⟩⟩, ⟨(Below.refl _ w).alloc (Nat.le_refl _) _⟩⟩
  case round =>
    obtain ⟨kk, vp, vq, vi, ps1, qs1, is1, hkk, hg, rfl, HA, HS, HB⟩ := hrel
    by_cases hlt : kk < l0.length
    · have hltz : (kk : Int) < (l0.length : Int) := by omega
      have p1 : 0 ≤ (kk : Int) := by omega
      obtain ⟨ad, e1, hx0⟩ := Kd.at_int (Kd.C_below HR0.out HB.out) kk p1 hltz
      cases e1
      rw [Int.toNat_natCast] at hx0
      obtain ⟨ef, hef⟩ : ∃ z, z = rd l0 kk := ⟨_, rfl⟩
      have H := HA.out
      rw [List.drop_eq_getElem_cons hlt, show l0[kk] = ef by rw [hef]; simp [rd, List.getElem?_eq_getElem hlt], solF] at H
      rw [← hef] at hx0
      obtain ⟨is2, A1, H⟩ := Option.bind_eq_some_iff.mp H
      obtain ⟨⟨rl, rp⟩, A2, H⟩ := Option.bind_eq_some_iff.mp H
      dsimp only at H
      have hsh : shl .i64 1 (kk : Int) = wrap64 (2 ^ min kk 64) := by simp [shl, i64_w]; rfl
      rw [hsh] at H
      have A1 := Aside0.mk A1
      have A2 := Aside0.mk A2
      obtain ⟨Ap, cp, rfl⟩ := Kd.R_slice HS.out.P
      have hz2 : wr.cell? ⟨w.heap.size, 2, none⟩ = some vi := (blk_cell HS.out.b 2).trans rfl
      clear HA hef
      by_cases c0 : rl = 0
      · rw [if_pos c0] at H
        subst c0
        obtain ⟨qs2, A3, H⟩ := Option.bind_eq_some_iff.mp H
        have A3 := Aside0.mk A3
        have H := Aside0.mk H
        go_wp2_with (first
          | (go_at_call 99; with_reducible refine (impl_extended.calls k (fun k_ => some k_ = vi.ownBlock) vi is1 ef is2 w _ HB.out HS.out.I A1.out).mono ?_; rintro e w1 ⟨v1, rfl, hR1, hB1, hK1⟩; obtain ⟨A1_, c1_, rfl⟩ := Kd.R_slice hR1; have hb1 := blk_kept HS.out.b hK1 HS.out.gi; have hz1 : w1.cell? ⟨w.heap.size, 2, none⟩ = some vi := (blk_cell hb1 2).trans rfl; have hf1 := blk_frozen hb1 2; have HS1 := Aside0.mk (HS.out.image hR1 hK1); have HB1 := Aside0.mk (below_set (j := 2) (v := .slice A1_ is2.length c1_) hB1 (Nat.le_refl _)); clear hb1 hR1 hB1 hK1 hz2)
          | (go_at_call 97; with_reducible refine (impl_reach.calls k w.heap.size vq _ Ap cp ps1 ef 0 rp _ HS1.out.b (Kd.R_reads' HS1.out.P).2.2 A2.out).mono ?_; rintro e w2 ⟨rfl, hb2⟩; have HS2 := Aside0.mk (HS1.out.below hb2); have HB2 := Aside0.mk (below_step HB1.out hb2); have hzq : w2.cell? ⟨w.heap.size, 1, none⟩ = some vq := (blk_cell HS2.out.b 1).trans rfl; have hzp : w2.cell? ⟨w.heap.size, 0, none⟩ = some (.slice Ap ps1.length cp) := (blk_cell HS2.out.b 0).trans rfl; clear hb2 HS1 HB1 hz1 hf1)
          | (go_at_call 99; with_reducible refine (impl_extended.calls k (fun k_ => some k_ = vq.ownBlock) vq qs1 _ qs2 w _ HB2.out HS2.out.Q A3.out).mono ?_; rintro e w3 ⟨v3, rfl, hR3, hB3, hK3⟩; obtain ⟨A3_, c3_, rfl⟩ := Kd.R_slice hR3; have hb3 := blk_kept HS2.out.b hK3 HS2.out.gq; have hz3 : w3.cell? ⟨w.heap.size, 1, none⟩ = some vq := (blk_cell hb3 1).trans rfl; have hf3 := blk_frozen hb3 1; have HS3 := Aside0.mk (HS2.out.quiet hR3 hK3); have HB3 := Aside0.mk (below_set (j := 1) (v := .slice A3_ qs2.length c3_) hB3 (Nat.le_refl _)); clear hb3 hR3 hB3 hK3 hzq hzp HS2 HB2))
        go_roundg (l0.length - (kk + 1))
        case measure => omega
        case rel => exact ⟨kk + 1, _, _, _, _, _, _, by omega, by omega, by go_num, H, HS3, HB3⟩
      · rw [if_neg c0] at H
        by_cases c1 : ps1.length < 1000000
        · rw [if_pos c1] at H
          have H := Aside0.mk H
          go_wp2_with (first
            | (go_at_call 99; with_reducible refine (impl_extended.calls k (fun k_ => some k_ = vi.ownBlock) vi is1 ef is2 w _ HB.out HS.out.I A1.out).mono ?_; rintro e w1 ⟨v1, rfl, hR1, hB1, hK1⟩; obtain ⟨A1_, c1_, rfl⟩ := Kd.R_slice hR1; have hb1 := blk_kept HS.out.b hK1 HS.out.gi; have hz1 : w1.cell? ⟨w.heap.size, 2, none⟩ = some vi := (blk_cell hb1 2).trans rfl; have hf1 := blk_frozen hb1 2; have HS1 := Aside0.mk (HS.out.image hR1 hK1); have HB1 := Aside0.mk (below_set (j := 2) (v := .slice A1_ is2.length c1_) hB1 (Nat.le_refl _)); clear hb1 hR1 hB1 hK1 hz2)
            | (go_at_call 97; with_reducible refine (impl_reach.calls k w.heap.size vq _ Ap cp ps1 ef rl rp _ HS1.out.b (Kd.R_reads' HS1.out.P).2.2 A2.out).mono ?_; rintro e w2 ⟨rfl, hb2⟩; have HS2 := Aside0.mk (HS1.out.below hb2); have HB2 := Aside0.mk (below_step HB1.out hb2); have hzq : w2.cell? ⟨w.heap.size, 1, none⟩ = some vq := (blk_cell HS2.out.b 1).trans rfl; have hzp : w2.cell? ⟨w.heap.size, 0, none⟩ = some (.slice Ap ps1.length cp) := (blk_cell HS2.out.b 0).trans rfl; clear hb2 HS1 HB1 hz1 hf1)
            | ((with_reducible refine gate_builtin (b := .append) (xs := #[.tmp 51, .tmp 55]) rfl ?_); at_builtin; refine Kd.R_append pairK (w0 := w) w.heap.size rfl (.tmp 51) (.tmp 55) 47 91 (.agg #[.int .i64 0, .int .i64 0]) 16 rfl Try.underlying47 info91 rfl (by decide) (by omega) (.slice Ap ps1.length cp) ps1 (rl, Go.bits .xor .i64 rp (wrap64 (2 ^ min kk 64))) [.int .i64 rl, .int .i64 (Go.bits .xor .i64 rp (wrap64 (2 ^ min kk 64)))] (fun _ => True) (fun _ => False) rfl rfl ?aP (fun _ hk => hk.elim) (fun _ _ => trivial) ?aO ?aB ?aS ?aL ?_; (case aP => exact ⟨[_], [_], rfl, rfl, rfl⟩); (case aB => exact HB2.out); (case aO => exact Kd.R_mono HS2.out.P (fun _ _ => trivial)); (case aS => exact HB2.out.size); (case aL => omega); intro v3 w3 ho hb hgr hat; obtain ⟨A3_, c3_, hv3_⟩ := Kd.R_slice ho; rw [List.length_append, List.length_singleton] at hv3_; subst hv3_; have hb3 := blk_grown HS2.out.b hgr HS2.out.gp; have hz3 : w3.cell? ⟨w.heap.size, 0, none⟩ = some (.slice Ap ps1.length cp) := (blk_cell hb3 0).trans rfl; have hf3 := blk_frozen hb3 0; have HS3 := Aside0.mk (HS2.out.pairs ho hgr); have HB3 := Aside0.mk (below_set (j := 0) (v := .slice A3_ (ps1.length + 1) c3_) hb (Nat.le_refl _)); clear hb3 ho hb hgr hat hzq hzp HS2 HB2))
          go_roundg (l0.length - (kk + 1))
          case measure => omega
          case rel => exact ⟨kk + 1, _, _, _, _, _, _, by omega, by omega, by go_num, H, HS3, HB3⟩
        · rw [if_neg c1] at H
          cases H
    · have hltz : ¬ (kk : Int) < (l0.length : Int) := by omega
      obtain rfl : kk = l0.length := by omega
      have H := HA.out
      rw [List.drop_length, solF] at H
      injection H with H
      injection H with h1 H
      injection H with h2 h3
      subst h1 h2 h3
      clear HA
      go_wp2
      go_ret
      exact ⟨_, rfl, ⟨_, _, _, HS.out⟩, HB.out⟩
end
end Go.Proofs.Ytoobofnpdiapgaa.P
