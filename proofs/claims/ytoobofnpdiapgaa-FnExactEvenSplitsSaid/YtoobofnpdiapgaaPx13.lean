-- Written by a program of this session (wip/mp.py), which runs the kit's print with contracts of the session's own.
import Derived.Test.YtoobofnpdiapgaaPx0
import Derived.Test.YtoobofnpdiapgaaPx7
import Derived.Test.YtoobofnpdiapgaaPx10
import Derived.Test.YtoobofnpdiapgaaPx12
namespace Go.Proofs.Ytoobofnpdiapgaa.P
open Go.RowKit Go.Proofs.YtoobofnpdiapgaaW.PrintWords Go.Proofs.YtoobofnpdiapgaaW.PrintLast Go.Proofs.YtoobofnpdiapgaaW.PrintMore
attribute [local go_sem] max2_int min2_int max_two min_two max_three min_three max_four min_four   -- for this text's walks alone
set_option linter.unusedVariables false
set_option linter.unusedSimpArgs false

/-! ### impl_Graph_splits: function 50 -/
-- BY HAND
section
open Go.Proofs.Ytoobofnpdiapgaa.Bk Go.Shelf
/-- What has to be solved for splits: effects and what is due, behind the first i buttons. -/
def splF (rest : Int) : List Int → Nat → List Int → Int → Option (List Int × Int)
  | [], _, eff, due => some (eff, due)
  | n :: ns, i, eff, due => (impl_count.f n).bind fun c => if eff.length < 1000000 then
      (if (Int.tmod (wrap64 (c + rest)) 2 == 1) = true then splF rest ns (i + 1) (eff ++ [Go.bits .or .i64 n (shl .i64 1 (i : Int))]) (Go.bits .or .i64 due (shl .i64 1 (i : Int)))
       else splF rest ns (i + 1) (eff ++ [n]) due) else none
set_option maxHeartbeats 8000000 in
set_option maxRecDepth 100000 in
theorem impl_Graph_splits.calls (k : Nat) (A0 : Option Addr) (c0 : Nat) (l0 : List Int) (b : Bool) (rest : Int) (E : List Int) (D : Int) (ps : List (Int × Int)) (qs is : List Int) (w : World) (hr0 : Kd.C (Kd.int .i64) w A0 l0.length l0) (h1 : splF rest l0 0 [] 0 = some (E, D)) (h2 : solF k E 0 [] [] [] = some (ps, qs, is)) :
    Calls Try.prog 50 #[.agg #[.slice A0 l0.length c0, .bool b], .int .i64 rest] w fun e w' => ∃ g : Nat, e = .returned (.tuple #[.pointer (some ⟨g, 0, none⟩), .int .i64 D]) ∧ SVx w.heap.size g ps qs is w' ∧ Below w.heap.size w w' := by
  have hm := Kd.C_max hr0
  have HR0 := Aside0.mk hr0
  have H1 := Aside0.mk h1
  have H2 := Aside0.mk h2
  have hu28 := Try.underlying28
  have HB := Aside0.mk (below_alloc (Below.refl w.heap.size w) (.cells #[.slice A0 l0.length c0, .bool b] 28))
  have HC0 := Aside0.mk ((blk_cell (blk_new w (.cells #[.slice A0 l0.length c0, .bool b] 28)) 0).trans rfl)
  clear hr0 h1 h2
  go_enter Try.func50, Try.ntmps50
  go_wp2_with ((with_reducible refine gate_dst (N := 10) rfl ?_); refine Kd.R_lit (Kd.int .i64) _ 3 ?hg (N := 10) ?hd (xs := ([] : List Int)) (inner := []) (ok := fun _ => True) (okp := fun _ => True) ?hr ?hp (fun _ hk => hk) trivial (Below.refl _ _) (Nat.le_refl _) (by simp) ?_; (case hd => rfl); (case hg => rfl); (case hr => first | (go_simp; done) | (go_simp; rfl)); (case hp => exact (Reps.none _ _)); intro v1 w1 ho hb hg_ hnew_; clear hg_ hnew_; have HO := Aside0.mk (Kd.R_lower ho HB.out.size); have HB1 := Aside0.mk (below_step HB.out hb); have hcz : w1.cell? ⟨w.heap.size, 0, none⟩ = some (.slice A0 l0.length c0) := (hb.cell (p := ⟨w.heap.size, 0, none⟩) (by simp)).trans HC0.out; clear ho hb HB HC0)
  go_loopg [6, 7, 14] l0.length (fun kq v6 v7 v14 w' => ∃ (kk : Nat) (eff : List Int) (due : Int), kk ≤ l0.length ∧ l0.length - kk ≤ kq ∧ v7 = .int .i64 due ∧ v14 = .int .i64 kk ∧ Aside0 (splF rest (l0.drop kk) kk eff due = some (E, D)) ∧ Aside0 (Kd.R (Kd.int .i64) 3 w' w.heap.size (fun _ => True) v6 eff) ∧ Aside0 (Below w.heap.size w w'))
  case atStart => exact ⟨0, [], 0, Nat.zero_le _, by omega, rfl, rfl, H1, HO, HB1⟩
  case round =>
    obtain ⟨kk, eff, due, hkk, hg, rfl, rfl, HA, HO, HB⟩ := hrel
    by_cases hlt : kk < l0.length
    · have hltz : (kk : Int) < (l0.length : Int) := by omega
      have p1 : 0 ≤ (kk : Int) := by omega
      obtain ⟨ad, e1, hx0⟩ := Kd.at_int (Kd.C_below HR0.out HB.out) kk p1 hltz
      cases e1
      rw [Int.toNat_natCast] at hx0
      obtain ⟨n, hn⟩ : ∃ z, z = rd l0 kk := ⟨_, rfl⟩
      have H := HA.out
      rw [List.drop_eq_getElem_cons hlt, show l0[kk] = n by rw [hn]; simp [rd, List.getElem?_eq_getElem hlt], splF] at H
      rw [← hn] at hx0
      clear HA hn H1
      replace H := Option.bind_eq_some_iff.mp H
      obtain ⟨ct, A1, H⟩ := H
      replace A1 := Aside0.mk A1
      have hsh : shl .i64 1 (kk : Int) = wrap64 (2 ^ min kk 64) := by simp [shl, i64_w]; rfl
      by_cases c0 : eff.length < 1000000
      · rw [if_pos c0, hsh] at H
        cases hq : (Int.tmod (wrap64 (ct + rest)) 2 == 1) with
        | true =>
          rw [hq, if_pos rfl] at H
          replace H := Aside0.mk H
          go_wp2_with (first
            | (go_at_call 58; with_reducible refine (impl_count.calls n ct _ A1.out).mono ?_; rintro e w' ⟨rfl, ⟨nd, rfl⟩⟩)
            | ((with_reducible refine gate_builtin (b := .append) (xs := #[.tmp 33, .tmp 35]) rfl ?_); at_builtin; refine Kd.R_append (Kd.int .i64) (w0 := w) w.heap.size rfl (.tmp 33) (.tmp 35) 22 3 (.int .i64 0) 8 rfl Try.underlying22 info3 rfl (by decide) (by omega) u6 eff (Go.bits .or .i64 n (wrap64 (2 ^ min kk 64))) [.int .i64 (Go.bits .or .i64 n (wrap64 (2 ^ min kk 64)))] (fun _ => True) (fun _ => False) rfl rfl ?aP (fun _ hk => hk.elim) (fun _ _ => trivial) ?aO ?aB ?aS ?aL ?_; (case aP => exact rfl); (case aB => exact pw_below_drewN HB.out _); (case aO => exact Kd.R_drewN HO.out _); (case aS => exact (pw_below_drewN HB.out _).size); (case aL => omega); intro v3 w3 ho hb hgr hat; have HO3 := Aside0.mk ho; have HB3 := Aside0.mk hb; clear ho hb hgr hat))
          go_roundg (l0.length - (kk + 1))
          case measure => omega
          case rel => exact ⟨kk + 1, _, _, by omega, by omega, by first | rfl | go_num, by go_num, H, HO3, HB3⟩
        | false =>
          rw [hq, if_neg (by simp)] at H
          replace H := Aside0.mk H
          go_wp2_with (first
            | (go_at_call 58; with_reducible refine (impl_count.calls n ct _ A1.out).mono ?_; rintro e w' ⟨rfl, ⟨nd, rfl⟩⟩)
            | ((with_reducible refine gate_builtin (b := .append) (xs := #[.tmp 33, .tmp 35]) rfl ?_); at_builtin; refine Kd.R_append (Kd.int .i64) (w0 := w) w.heap.size rfl (.tmp 33) (.tmp 35) 22 3 (.int .i64 0) 8 rfl Try.underlying22 info3 rfl (by decide) (by omega) u6 eff (n) [.int .i64 (n)] (fun _ => True) (fun _ => False) rfl rfl ?aP (fun _ hk => hk.elim) (fun _ _ => trivial) ?aO ?aB ?aS ?aL ?_; (case aP => exact rfl); (case aB => exact pw_below_drewN HB.out _); (case aO => exact Kd.R_drewN HO.out _); (case aS => exact (pw_below_drewN HB.out _).size); (case aL => omega); intro v3 w3 ho hb hgr hat; have HO3 := Aside0.mk ho; have HB3 := Aside0.mk hb; clear ho hb hgr hat))
          go_roundg (l0.length - (kk + 1))
          case measure => omega
          case rel => exact ⟨kk + 1, _, _, by omega, by omega, by first | rfl | go_num, by go_num, H, HO3, HB3⟩
      · rw [if_neg c0] at H
        cases H
    · have hltz : ¬ (kk : Int) < (l0.length : Int) := by omega
      obtain rfl : kk = l0.length := by omega
      have H := HA.out
      rw [List.drop_length, splF] at H
      injection H with H
      injection H with h1 h2
      subst h1 h2
      obtain ⟨Ae, ce, rfl⟩ := Kd.R_slice HO.out
      clear HA H1
      have hcall := impl_solverFor.calls k Ae ce _ ps qs is _ (Kd.R_reads' HO.out).2.2 H2.out
      replace hcall := hcall.mono (R' := fun e w2 => ∃ g : Nat, e = .returned (.pointer (some ⟨g, 0, none⟩)) ∧ Aside0 (SVx w.heap.size g ps qs is w2 ∧ Below w.heap.size w w2)) (fun e w2 h => by
        obtain ⟨g, e1, ⟨vp, vq, vi, hS⟩, hB⟩ := h
        exact ⟨g, e1, ⟨⟨_, _, _, hS.lower HB.out.size⟩, below_step HB.out hB⟩⟩)
      go_wp2_with (go_at_call 77; refine hcall.mono ?_; rintro e w2 ⟨g, rfl, HS2⟩)
      go_ret2
      exact ⟨_, rfl, HS2.out.1, HS2.out.2⟩
end

end Go.Proofs.Ytoobofnpdiapgaa.P
