-- Written by a program of this session (wip/mp.py), which runs the kit's print with contracts of the session's own.
import Derived.Test.YtdpdmhjmmpncoaaPx0
import Derived.Test.YtdpdmhjmmpncoaaPx6
namespace Go.Proofs.Ytdpdmhjmmpncoaa.P
open Go.RowKit Go.Proofs.YtdpdmhjmmpncoaaW.PrintWords Go.Proofs.YtdpdmhjmmpncoaaW.PrintLast Go.Proofs.YtdpdmhjmmpncoaaW.PrintMore
attribute [local go_sem] max2_int min2_int max_two min_two max_three min_three max_four min_four   -- for this text's walks alone
set_option linter.unusedVariables false
set_option linter.unusedSimpArgs false

/-! ### laws_markIntSS: function 41 -/
-- BY HAND
/-- Rows marked, one after the other. -/
def mkSS (k : Nat) : List (List Int) → Int → Option (Int × List (List Int))
  | [], m => some (m, [])
  | x :: xs, m => (laws_markIntS.f k x m).bind fun p => (mkSS k xs p.1).bind fun q => some (q.1, p.2 :: q.2)
set_option maxHeartbeats 8000000 in
set_option maxRecDepth 100000 in
theorem markIntSS_walk (k : Nat) (P0_ : Nat → Prop) (v : Value) (l0 : List (List Int)) (a1 : Int) (r1 : Int) (r2 : List (List Int)) (w0 w : World) (hB : Below w0.heap.size w0 w) (ho0 : Kd.S (Kd.slice 3 (Kd.int .i64)) 22 w w0.heap.size P0_ v l0) (h : mkSS k l0 a1 = some (r1, r2)) :
    Calls Try.prog 41 #[v, .int .i64 a1] w fun e w' => e = .returned (.int .i64 r1) ∧ Kd.S (Kd.slice 3 (Kd.int .i64)) 22 w' w0.heap.size (fun k_ => (P0_ k_ ∨ w.heap.size ≤ k_)) v r2 ∧ Below w0.heap.size w0 w' ∧ Kept w w' (fun k_ => P0_ k_) := by
  have hP := Kd.S_mono ho0 (ok' := fun k_ => P0_ k_ ∨ w.heap.size ≤ k_) (fun _ hk => .inl hk)
  obtain ⟨A0, c0, rfl⟩ := Kd.S_slice ho0
  have hm := Kd.C_max (Kd.S_reads' ho0).2.2
  have HS := Aside0.mk hP
  have HK := Aside0.mk (Kept.refl w (fun k_ => P0_ k_))
  have HB := Aside0.mk hB
  have H := Aside0.mk h
  clear h hB ho0 hP
  go_enter Try.func41, Try.ntmps41
  go_wp2
  go_loopg [1, 5] l0.length (fun kq v1 v5 w' => ∃ (jj : Nat) (m : Int) (dn tl : List (List Int)), jj ≤ l0.length ∧ l0.length - jj ≤ kq ∧ v1 = .int .i64 m ∧ v5 = .int .i64 jj ∧ dn.length = jj ∧ Aside0 (mkSS k (l0.drop jj) m = some (r1, tl)) ∧ Aside0 (r2 = dn ++ tl) ∧ Aside0 (Kd.S (Kd.slice 3 (Kd.int .i64)) 22 w' w0.heap.size (fun k_ => P0_ k_ ∨ w.heap.size ≤ k_) (.slice A0 l0.length c0) (dn ++ l0.drop jj)) ∧ Aside0 (Kept w w' (fun k_ => P0_ k_)) ∧ Aside0 (Below w0.heap.size w0 w'))
  case atStart => exact ⟨0, a1, [], r2, Nat.zero_le _, by omega, rfl, rfl, rfl, H, ⟨rfl⟩, HS, HK, HB⟩
  case round =>
    clear HS HK HB H
    obtain ⟨jj, m, dn, tl, hjj, hgq, rfl, rfl, hdn, HA, HE, HS, HK, HB⟩ := hrel
    by_cases hlt : jj < l0.length
    · have hltz : (jj : Int) < (l0.length : Int) := by omega
      have p1 : 0 ≤ (jj : Int) := by omega
      have hlen : (dn ++ l0.drop jj).length = l0.length := by rw [List.length_append, List.length_drop]; omega
      obtain ⟨g, cap, ev, -⟩ := Kd.S_form HS.out (by rw [hlen]; omega)
      injection ev with e1 e2 e3
      subst e1 e3
      obtain ⟨oki, c, hcl, hM, hcc, hoki, hH⟩ := Kd.S_lend HS.out [] jj p1 (by omega)
      obtain ⟨ve, rfl, hR⟩ := hM
      have hrow : (dn ++ l0.drop jj).getD jj [] = l0[jj] := by
        rw [List.getD_eq_getElem?_getD, List.getElem?_append_right (by omega), hdn, Nat.sub_self, List.getElem?_drop, Nat.add_zero, List.getElem?_eq_getElem hlt]; rfl
      have H3 := HA.out
      rw [List.drop_eq_getElem_cons hlt, mkSS] at H3
      rw [Int.toNat_natCast] at hR hcc
      rw [hrow] at hR
      obtain ⟨Ar, cr, rfl⟩ := Kd.R_slice hR
      have hv : wr.cell? ⟨g, jj, none⟩ = some (.slice Ar l0[jj].length cr) := by
        have := hcc 0 _ rfl
        rw [Nat.add_zero, show ((Kd.slice 3 (Kd.int .i64))).sz = 1 from rfl, Nat.mul_one] at this
        exact this
      obtain ⟨⟨m1, x1⟩, g1, H3⟩ := Option.bind_eq_some_iff.mp H3
      obtain ⟨⟨m2, xs⟩, g2, H3⟩ := Option.bind_eq_some_iff.mp H3
      injection H3 with H3
      injection H3 with e4 e5
      dsimp only at e4 e5 g2
      subst e4
      have HC := Aside0.mk (laws_markIntS.calls k oki _ l0[jj] m m1 x1 w0 wr HB.out hR g1)
      have HH := Aside0.mk (Kd.H_widen hH)
      have HG := Aside0.mk g2
      have HE5 := Aside0.mk e5
      have HOK := Aside0.mk hoki
      clear hH g1 g2 e5 hR hcc HS HA hrow hoki e2 hlen hcl
      go_wp2_with (go_at_call 22; refine HC.out.mono ?_; rintro e w2 ⟨rfl, hR2, hB2, hK2⟩; have HS2 := Aside0.mk (Kd.H_back (Kd.H_step HH.out (fun k_ _ hn hlt_ => hK2.2 k_ hlt_ (fun hk_ => hn (.inl hk_)))) (x' := x1) ⟨_, rfl, hR2⟩ (fun k_ hk_ => hk_.elim .inl (fun h_ => .inr ⟨.inr (Nat.le_trans HK.out.1 h_), h_⟩))); have HB2 := Aside0.mk hB2; have HK2 := Aside0.mk (Kept.then_ HK.out hK2 (fun k_ hk_ => (HOK.out k_ hk_).1)); clear hR2 hB2 hK2 HK HB HH HC)
      go_roundg (l0.length - (jj + 1))
      case measure => omega
      case rel => exact ⟨jj + 1, m1, dn ++ [x1], xs, by omega, by omega, by go_num, by go_num, by rw [List.length_append, List.length_singleton, hdn], HG, ⟨by rw [HE.out, ← HE5.out]; simp⟩, ⟨by
        have hs := HS2.out
        rw [Int.toNat_natCast] at hs
        have e : (dn ++ l0.drop jj).set jj x1 = dn ++ [x1] ++ l0.drop (jj + 1) := by
          rw [List.set_append_right _ _ (by omega), hdn, Nat.sub_self, List.drop_eq_getElem_cons hlt, List.set_cons_zero, List.append_assoc]; rfl
        rw [← e]; exact hs⟩, HK2, HB2⟩
    · have hltz : ¬ (jj : Int) < (l0.length : Int) := by omega
      obtain rfl : jj = l0.length := by omega
      have H3 := HA.out
      rw [List.drop_length, mkSS] at H3
      injection H3 with H3
      injection H3 with e4 e5
      subst e4
      have hE := HE.out
      rw [← e5, List.append_nil] at hE
      subst hE
      clear HA HE e5
      go_wp2
      go_ret
      refine ⟨rfl, ?_, HB.out, HK.out⟩
      have := HS.out
      rw [List.drop_length, List.append_nil] at this
      exact this

end Go.Proofs.Ytdpdmhjmmpncoaa.P
