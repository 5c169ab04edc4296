/- impl.parsePoly: the walk. -/
import Derived.Test.YtigkmdlbijdoaaaDoorPrs
import Derived.Test.YtigkmdlbijdoaaaDoorPx10
namespace Go.Proofs.YtigkmdlbijdoaaaDoor.P
open Go.RowKit Go.Proofs.YtigkmdlbijdoaaaDoorW.PrintWords Go.Proofs.YtigkmdlbijdoaaaDoorW.PrintLast Go.Proofs.YtigkmdlbijdoaaaDoorW.PrintMore
set_option linter.unusedVariables false
theorem in_val (v : Int) : impl_in.f v 2 40 = some (decide (2 ≤ v) && decide (v ≤ 40)) := by
  unfold impl_in.f
  by_cases h : 2 ≤ v
  · rw [if_pos h]; simp [h]
  · rw [if_neg h]; simp [h]
theorem words_len (s : ByteArray) : (words s).length ≤ s.size + 1 := by
  have h1 : (words s).length = Lib.countB s ⟨#[43]⟩ + 1 := Lib.splitB_all _ (by decide) 0 _ s rfl
  have h2 := Lib.countB_le ⟨#[43]⟩ (by decide) s.size s (Nat.le_refl _)
  omega
set_option maxHeartbeats 8000000 in
set_option maxRecDepth 100000 in
theorem impl_parsePoly.calls (k : Nat) (a0 : ByteArray) (r1 : Int) (r2 : Bool) (w : World) (hL : Lib3 w) (h : impl_parsePoly.f k a0 = some (r1, r2)) :
    Calls Tryd.prog 17 #[.string a0] w fun e w' => e = .returned (.tuple #[.int .i64 r1, .bool r2]) ∧ Below w.heap.size w w' := by
  unfold impl_parsePoly.f at h
  by_cases hs : a0.size ≤ 1048576
  rotate_left
  · rw [if_neg hs] at h; cases h
  rw [if_pos hs] at h
  have HSp := Aside0.mk (split_walk a0 w hL hs)
  have HZ := Aside0.mk (words_size a0)
  have HSz := Aside0.mk hs
  have hWn : (words a0).length ≤ 1048577 := by have := words_len a0; omega
  have HL := Aside0.mk hL
  generalize words a0 = W at h HSp HZ hWn
  obtain ⟨R, hR⟩ : ∃ R, R = parseL W 0 := ⟨_, rfl⟩
  rw [← hR] at h
  have HR := Aside0.mk hR.symm
  have HH := Aside0.mk h
  clear h hL hR hs
  go_enter Tryd.func17, Tryd.ntmps17
  go_wp2_with (go_at_call 29; refine HSp.out.mono ?_; rintro e w1 ⟨rfl, hcells, hb1⟩; have HC := Aside0.mk hcells; have HB := Aside0.mk hb1; clear hcells hb1 HSp)
  have HC1 := Aside0.mk (fun (W' : World) (hB : Below w1.heap.size w1 W') (j : Nat) x (hj : W[j]? = some x) => show W'.cell? ⟨w.heap.size, j, none⟩ = some (.string x) from (hB.cell (p := ⟨w.heap.size, j, none⟩) (World.block_lt_of_cell? w1 _ (HC.out j x hj))).trans (HC.out j x hj))
  clear HC
  go_loopg [4, 12] W.length (fun kq v4 v12 w' => ∃ (jj : Nat) (p : Int), jj ≤ W.length ∧ W.length - jj ≤ kq ∧ v4 = .int .i64 p ∧ v12 = .int .i64 jj ∧ Aside0 (parseL (W.drop jj) p = R) ∧ Aside0 (Below w1.heap.size w1 w'))
  case atStart => exact ⟨0, 0, Nat.zero_le _, by omega, rfl, rfl, by rw [List.drop_zero]; exact HR, ⟨Below.refl _ _⟩⟩
  case round =>
    obtain ⟨jj, p, hjj, hgq, rfl, rfl, HA, HB1⟩ := hrel
    by_cases hlt : jj < W.length
    · have hltz : (jj : Int) < (W.length : Int) := by omega
      have p1 : 0 ≤ (jj : Int) := by omega
      have H3 := HA.out
      rw [List.drop_eq_getElem_cons hlt, parseL] at H3
      have hxs := HZ.out W[jj] (List.getElem_mem hlt)
      have hv : wr.cell? ⟨w.heap.size, jj, none⟩ = some (.string W[jj]) := HC1.out wr HB1.out jj _ (List.getElem?_eq_getElem hlt)
      obtain ⟨x, hx⟩ : ∃ x, x = W[jj] := ⟨_, rfl⟩
      rw [← hx] at H3 hxs hv
      clear hx
      unfold stepW at H3
      by_cases c1 : x.toList = [49]
      · rw [if_pos c1] at H3
        have c1b0 : (x.toList == ([49] : List UInt8)) = true := beq_iff_eq.mpr c1
        have H3 := Aside0.mk H3
        clear c1 hxs HR HH
        go_wp2
        go_roundg (W.length - (jj + 1))
        case measure => omega
        case rel => exact ⟨jj + 1, _, by omega, by omega, rfl, by go_num, H3, HB1⟩
      · rw [if_neg c1] at H3
        have c1b0 : (x.toList == ([49] : List UInt8)) = false := beq_eq_false_iff_ne.mpr c1
        by_cases c2 : x.toList = [120]
        · rw [if_pos c2] at H3
          have c2b0 : (x.toList == ([120] : List UInt8)) = true := beq_iff_eq.mpr c2
          have H3 := Aside0.mk H3
          clear c1 c2 hxs HR HH
          go_wp2
          go_roundg (W.length - (jj + 1))
          case measure => omega
          case rel => exact ⟨jj + 1, _, by omega, by omega, rfl, by go_num, H3, HB1⟩
        · rw [if_neg c2] at H3
          have c2b0 : (x.toList == ([120] : List UInt8)) = false := beq_eq_false_iff_ne.mpr c2
          clear c1 c2
          by_cases c3 : Lib.hasPrefix x.data.toList [120] = true
          · rw [if_pos c3] at H3
            have c4 := prefix_size c3
            have c4z : (1 : Int) ≤ (x.size : Int) := by omega
            rw [if_pos c4] at H3
            have hxe : (x.extract 1 x.size).size ≤ 1048576 := by have := HSz.out; rw [ByteArray.size_extract]; omega
            have HL1 := HL.out.below HB.out
            have HLr := Aside0.mk (fun (W' : World) (hB : Below w1.heap.size w1 W') => HL1.below hB)
            clear HL1
            obtain ⟨u, hu⟩ : ∃ u, u = atoiR (x.extract 1 x.size).data.toList := ⟨_, rfl⟩
            rw [← hu] at H3
            cases u with
            | none =>
              obtain rfl : R = none := H3.symm
              have hh := HH.out
              injection hh with hh
              injection hh with e1 e2
              subst e1 e2
              have HU := Aside0.mk (fun (W' : World) (hB : Below w1.heap.size w1 W') => atoi_none (x.extract 1 x.size) W' (HLr.out W' hB) hxe hu.symm)
              clear H3 hxs hu hxe HR HH HLr
              go_wp2_with (first
                | (go_at_call 30; refine (Tryd.strings_HasPrefix x ⟨#[120]⟩ _).mono ?_; rintro e w2 ⟨rfl, rfl⟩; have hpf : Lib.hasPrefix x.data.toList ((⟨#[120]⟩ : ByteArray).data.toList) = true := c3; rw [hpf]; clear hpf)
                | (go_at_call 31; refine (HU.out _ HB1.out).mono ?_; rintro e w2 ⟨⟨v, pe, rfl⟩, hb2⟩; have HB2 := Aside0.mk (below_step HB1.out hb2); clear hb2))
              go_ret2
              exact ⟨by first | rfl | (simp; done), below_step HB.out HB2.out⟩
            | some v =>
              simp only [Option.bind_some] at H3
              have HU := Aside0.mk (fun (W' : World) => atoi_some (x.extract 1 x.size) v W' hxe hu.symm)
              have HI := Aside0.mk (fun (W' : World) => impl_in.calls v 2 40 _ W' (in_val v))
              by_cases c5 : 2 ≤ v ∧ v ≤ 40
              · rw [if_pos c5] at H3
                have hin : (decide (2 ≤ v) && decide (v ≤ 40)) = true := by simp [c5]
                have c5z : 0 ≤ v := by omega
                rw [hin] at HI
                simp only [Option.bind_some] at H3
                have E1 : shl .i64 1 v = wrap64 (2 ^ v.toNat) := by
                  have e0 : min v.toNat 64 = v.toNat := by omega
                  rw [← i64_w]
                  simp [shl, IntKind.bits, e0]
                rw [E1] at H3
                have H3 := Aside0.mk H3
                clear hxs hu hxe HR HH HLr hin E1
                go_wp2_with (first
                  | (go_at_call 30; refine (Tryd.strings_HasPrefix x ⟨#[120]⟩ _).mono ?_; rintro e w2 ⟨rfl, rfl⟩; have hpf : Lib.hasPrefix x.data.toList ((⟨#[120]⟩ : ByteArray).data.toList) = true := c3; rw [hpf]; clear hpf)
                  | (go_at_call 31; refine (HU.out _).mono ?_; rintro e w2 ⟨rfl, hb2⟩; have HB2 := Aside0.mk (below_step HB1.out hb2); clear hb2)
                  | (go_at_call 23; refine (HI.out _).mono ?_; rintro e w3 ⟨rfl, ⟨nd, rfl⟩⟩; have HB3 := Aside0.mk (pw_below_drewN HB2.out nd)))
                go_roundg (W.length - (jj + 1))
                case measure => omega
                case rel => exact ⟨jj + 1, _, by omega, by omega, rfl, by go_num, H3, HB3⟩
              · rw [if_neg c5] at H3
                obtain rfl : R = none := H3.symm
                have hh := HH.out
                injection hh with hh
                injection hh with e1 e2
                subst e1 e2
                have hin : (decide (2 ≤ v) && decide (v ≤ 40)) = false := by
                  by_cases q1 : 2 ≤ v
                  · by_cases q2 : v ≤ 40
                    · exact absurd ⟨q1, q2⟩ c5
                    · simp [q2]
                  · simp [q1]
                rw [hin] at HI
                clear H3 hxs hu hxe HR HH HLr hin c5
                go_wp2_with (first
                  | (go_at_call 30; refine (Tryd.strings_HasPrefix x ⟨#[120]⟩ _).mono ?_; rintro e w2 ⟨rfl, rfl⟩; have hpf : Lib.hasPrefix x.data.toList ((⟨#[120]⟩ : ByteArray).data.toList) = true := c3; rw [hpf]; clear hpf)
                  | (go_at_call 31; refine (HU.out _).mono ?_; rintro e w2 ⟨rfl, hb2⟩; have HB2 := Aside0.mk (below_step HB1.out hb2); clear hb2)
                  | (go_at_call 23; refine (HI.out _).mono ?_; rintro e w3 ⟨rfl, ⟨nd, rfl⟩⟩; have HB3 := Aside0.mk (pw_below_drewN HB2.out nd)))
                go_ret2
                exact ⟨by first | rfl | (simp; done), below_step HB.out HB3.out⟩
          · rw [if_neg c3] at H3
            have c3 : Lib.hasPrefix x.data.toList [120] = false := by simpa using c3
            have H3 := Aside0.mk H3
            clear hxs HR HH
            go_wp2_with (go_at_call 30; refine (Tryd.strings_HasPrefix x ⟨#[120]⟩ _).mono ?_; rintro e w2 ⟨rfl, rfl⟩; have hpf : Lib.hasPrefix x.data.toList ((⟨#[120]⟩ : ByteArray).data.toList) = false := c3; rw [hpf]; clear hpf)
            go_roundg (W.length - (jj + 1))
            case measure => omega
            case rel => exact ⟨jj + 1, _, by omega, by omega, rfl, by go_num, H3, HB1⟩
    · have hltz : ¬ (jj : Int) < (W.length : Int) := by omega
      obtain rfl : jj = W.length := by omega
      have H3 := HA.out
      rw [List.drop_length, parseL] at H3
      subst H3
      obtain ⟨t, h1, h2⟩ := Option.bind_eq_some_iff.mp HH.out
      injection h2 with h2
      injection h2 with e1 e2
      subst e1 e2
      have HT := Aside0.mk (fun (W' : World) => impl_polyText.calls k p t W' h1)
      clear HA HR HH h1
      go_wp2_with (go_at_call 12; refine (HT.out _).mono ?_; rintro e w2 ⟨rfl, hb2⟩; have HB2 := Aside0.mk (below_step HB1.out hb2); clear hb2)
      go_ret2
      exact ⟨by first | rfl | (simp; done), below_step HB.out HB2.out⟩
def impl_ParsePoly.f (k : Nat) (s : ByteArray) : Option (Int × Bool) := (impl_parsePoly.f k s).bind fun t => impl_told.f t.1 t.2
set_option maxHeartbeats 8000000 in
set_option maxRecDepth 100000 in
theorem impl_ParsePoly.calls (k : Nat) (a0 : ByteArray) (r1 : Int) (r2 : Bool) (w : World) (hL : Lib3 w) (h : impl_ParsePoly.f k a0 = some (r1, r2)) :
    Calls Tryd.prog 8 #[.string a0] w fun e w' => e = .returned (.tuple #[.int .i64 r1, .bool r2]) ∧ Below w.heap.size w w' := by
  unfold impl_ParsePoly.f at h
  obtain ⟨⟨p, b⟩, h1, h2⟩ := Option.bind_eq_some_iff.mp h
  have HP := Aside0.mk (impl_parsePoly.calls k a0 p b w hL h1)
  have HT := Aside0.mk (fun (W' : World) => impl_told.calls p b r1 r2 W' h2)
  clear h h1 h2 hL
  go_enter Tryd.func8, Tryd.ntmps8
  go_wp2_with (first
    | (go_at_call 17; refine HP.out.mono ?_; rintro e w2 ⟨rfl, hb2⟩; have HB2 := Aside0.mk hb2; clear hb2)
    | (go_at_call 16; refine (HT.out _).mono ?_; rintro e w3 ⟨rfl, ⟨nd, rfl⟩⟩; have HB3 := Aside0.mk (pw_below_drewN HB2.out nd)))
  go_ret2
  exact ⟨by first | rfl | (simp; done), HB3.out⟩
def laws_FnExactParsePoly.f (k : Nat) (s : ByteArray) : Option Bool :=
  if (s.size : Int) > 1048576 then some true else (spec_ParsePoly.f k s).bind fun a => (impl_ParsePoly.f k s).bind fun b => if b = a then some true else none
set_option maxHeartbeats 8000000 in
set_option maxRecDepth 100000 in
theorem laws_FnExactParsePoly.calls (k : Nat) (a0 : ByteArray) (w : World) (hL : Lib3 w) (hz : a0.size ≤ 140737488351232) (h : laws_FnExactParsePoly.f k a0 = some true) :
    Calls Tryd.prog 4 #[.string a0] w fun e w' => e = .returned (.bool true) ∧ Below w.heap.size w w' := by
  unfold laws_FnExactParsePoly.f at h
  by_cases c : (a0.size : Int) > 1048576
  · have c0 : decide (1048576 < (a0.size : Int)) = true := decide_eq_true c
    clear h hL
    go_enter Tryd.func4, Tryd.ntmps4
    go_wp2
    go_ret
    exact ⟨by first | rfl | (simp; done), Below.refl _ _⟩
  · rw [if_neg c] at h
    have c0 : decide (1048576 < (a0.size : Int)) = false := decide_eq_false c
    obtain ⟨⟨p, b⟩, h1, h⟩ := Option.bind_eq_some_iff.mp h
    obtain ⟨q, h2, h⟩ := Option.bind_eq_some_iff.mp h
    by_cases e : q = (p, b)
    rotate_left
    · rw [if_neg e] at h; cases h
    subst e
    have HS := Aside0.mk (spec_ParsePoly.calls k a0 p b w h1)
    have HI := Aside0.mk (fun (W' : World) (hB : Below w.heap.size w W') => impl_ParsePoly.calls k a0 p b W' (hL.below hB) h2)
    have d0 : (p != p) = false := by simp
    have d1 : (b != b) = false := by simp
    clear h h1 h2 hL c
    go_enter Tryd.func4, Tryd.ntmps4
    go_wp2_with (first
      | (go_at_call 7; refine HS.out.mono ?_; rintro e w2 ⟨rfl, hb2⟩; have HB2 := Aside0.mk hb2; clear hb2)
      | (go_at_call 8; refine (HI.out _ HB2.out).mono ?_; rintro e w3 ⟨rfl, hb3⟩; have HB3 := Aside0.mk (below_step HB2.out hb3); clear hb3))
    go_ret
    exact ⟨by first | rfl | (simp; done), HB3.out⟩
end Go.Proofs.YtigkmdlbijdoaaaDoor.P
