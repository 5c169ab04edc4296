-- Written by a program of this session (wip/mp.py), which runs the kit's print with contracts of the session's own.
import Derived.Test.YtigkmdlbijdoaaaGreatDoorPx0
import Derived.Test.YtigkmdlbijdoaaaGreatDoorPx1
import Derived.Test.YtigkmdlbijdoaaaGreatDoorPx2
import Derived.Test.YtigkmdlbijdoaaaGreatDoorPx7
namespace Go.Proofs.YtigkmdlbijdoaaaGreatDoor.P
open Go.RowKit Go.Proofs.YtigkmdlbijdoaaaGreatDoorW.PrintWords Go.Proofs.YtigkmdlbijdoaaaGreatDoorW.PrintLast Go.Proofs.YtigkmdlbijdoaaaGreatDoorW.PrintMore
attribute [local go_sem] max2_int min2_int max_two min_two max_three min_three max_four min_four   -- for this text's walks alone
set_option linter.unusedVariables false
set_option linter.unusedSimpArgs false

/-! ### impl_parsePoly: function 48 -/
-- BY HAND
/-- The library's variables that the call reads hold values of their kinds. -/
structure Lib3 (w : World) : Prop where
  m : ∃ m, w.cell? ⟨3, 0, none⟩ = some (.int .i64 m)
  s : ∃ ev, w.cell? ⟨0, 0, none⟩ = some ev ∧ (ev = .nilIface ∨ ∃ te pe, ev = .iface te pe)
  r : ∃ ev, w.cell? ⟨1, 0, none⟩ = some ev ∧ (ev = .nilIface ∨ ∃ te pe, ev = .iface te pe)
theorem Lib3.below {w w' : World} (h : Lib3 w) (hb : Below w.heap.size w w') : Lib3 w' := by
  have c : ∀ (a : Addr) v, w.cell? a = some v → w'.cell? a = some v := fun a v e => (hb.cell (World.block_lt_of_cell? w _ e)).trans e
  obtain ⟨⟨m, hm⟩, ⟨e0, h0, k0⟩, ⟨e1, h1, k1⟩⟩ := h
  exact ⟨⟨m, c _ _ hm⟩, ⟨e0, c _ _ h0, k0⟩, ⟨e1, c _ _ h1, k1⟩⟩
/-- What strconv.Atoi gives, where it gives no error. -/
def atoiR (l : List UInt8) : Option Int := match Lib.atoiAll l with
  | .ok v => some v
  | _ => none
theorem atoi_some (s : ByteArray) (v : Int) (w : World) (hs : s.size ≤ 1048576) (h : atoiR s.data.toList = some v) :
    Calls Tryz.prog 68 #[.string s] w fun e w' => e = .returned (.tuple #[.int .i64 v, .nilIface]) ∧ Below w.heap.size w w' := by
  unfold atoiR at h
  split at h
  · rename_i v' hv
    obtain rfl := Option.some.inj h
    refine (Tryz.strconv_Atoi_ok s (by omega) _ hv w).mono ?_
    rintro e w' ⟨rfl, rfl | ⟨t, rfl⟩⟩
    · exact ⟨rfl, Below.refl _ _⟩
    · exact ⟨rfl, bytes_below (Below.refl _ _) (Nat.le_refl _) 5 t⟩
  · cases h
theorem atoi_none (s : ByteArray) (w : World) (hL : Lib3 w) (hs : s.size ≤ 1048576) (h : atoiR s.data.toList = none) :
    Calls Tryz.prog 68 #[.string s] w fun e w' => (∃ v pe, e = .returned (.tuple #[.int .i64 v, .iface 85 pe])) ∧ Below w.heap.size w w' := by
  unfold atoiR at h
  split at h
  · cases h
  · rename_i hn
    obtain ⟨_, ⟨e0, h0, k0⟩, ⟨e1, h1, k1⟩⟩ := hL
    cases hv : Lib.atoiAll s.data.toList with
    | ok v => exact absurd hv (hn v)
    | range =>
      refine (Tryz.strconv_Atoi_range s (by omega) hv e1 w h1 k1).mono ?_
      rintro e w' ⟨N, rfl, _, _, hb⟩
      exact ⟨⟨_, _, rfl⟩, hb⟩
    | _ =>
      refine (Tryz.strconv_Atoi_syntax s (by omega) (hv.trans rfl) e0 w h0 k0).mono ?_
      rintro e w' ⟨N, rfl, _, _, hb⟩
      exact ⟨⟨_, _, rfl⟩, hb⟩
/-- A text cut at each '+'. -/
def words (s : ByteArray) : List ByteArray := Lib.splitB ⟨#[43]⟩ 0 (Lib.countB s ⟨#[43]⟩) s
theorem splitB_size (sep : ByteArray) : ∀ (k : Nat) (s : ByteArray), ∀ x ∈ Lib.splitB sep 0 k s, x.size ≤ s.size
  | 0, s, x, h => by rw [Lib.splitB_zero, List.mem_singleton] at h; rw [h]; exact Nat.le_refl _
  | k + 1, s, x, h => by
    unfold Lib.splitB at h
    split at h
    · rw [List.mem_singleton] at h; rw [h]; exact Nat.le_refl _
    · rcases List.mem_cons.1 h with rfl | h
      · rw [ByteArray.size_extract]; omega
      · have := splitB_size sep k _ x h
        rw [ByteArray.size_extract] at this
        omega
theorem words_size (s : ByteArray) : ∀ x ∈ words s, x.size ≤ s.size := splitB_size _ _ _
theorem split_walk (s : ByteArray) (w : World) (hL : Lib3 w) (hs : s.size ≤ 1048576) :
    Calls Tryz.prog 66 #[.string s, .string ⟨#[43]⟩] w fun e w' => e = .returned (.slice (some ⟨w.heap.size, 0, none⟩) (words s).length (words s).length) ∧ (∀ (j : Nat) x, (words s)[j]? = some x → w'.cell? ⟨w.heap.size, j, none⟩ = some (.string x)) ∧ Below w.heap.size w w' := by
  obtain ⟨m, hm⟩ := hL.m
  have hl : (words s).length = Lib.countB s ⟨#[43]⟩ + 1 := Lib.splitB_all _ (by decide) 0 _ s rfl
  refine (Tryz.strings_Split s ⟨#[43]⟩ m w (by omega) hm (by decide)).mono ?_
  rintro e w' ⟨rfl, rfl⟩
  refine ⟨by rw [hl], fun j x hj => ?_, below_alloc (Below.refl _ _) _⟩
  rw [blk_cell (blk_new w _) j]
  show ((words s).map Value.string).toArray[j]? = _
  simp [hj]
/-- One word of a text, read. -/
def stepW (p : Int) (x : ByteArray) : Option Int :=
  if x.toList = [49] then some (Go.bits .or .i64 p 1) else if x.toList = [120] then some (Go.bits .or .i64 p 2) else
    if Lib.hasPrefix x.data.toList [120] = true then (if 1 ≤ x.size then (atoiR (x.extract 1 x.size).data.toList).bind fun v => if 2 ≤ v ∧ v ≤ 40 then some (Go.bits .or .i64 p (shl .i64 1 v)) else none else none) else some p
def parseL : List ByteArray → Int → Option Int
  | [], p => some p
  | x :: r, p => (stepW p x).bind (parseL r)
theorem prefix_size {x : ByteArray} (h : Lib.hasPrefix x.data.toList [120] = true) : 1 ≤ x.size := by
  have e : x.data.toList.length = x.size := by rw [Array.length_toList]; rfl
  cases hl : x.data.toList with
  | nil => rw [hl] at h; simp [Lib.hasPrefix] at h
  | cons a l => rw [hl] at e; simp at e; omega
def impl_parsePoly.f (k : Nat) (s : ByteArray) : Option (Int × Bool) :=
  if s.size ≤ 1048576 then (match parseL (words s) 0 with
    | none => some (0, false)
    | some p => (impl_polyText.f k p).bind fun t => some (p, t.toList == s.toList)) else none
theorem in_val (v : Int) : impl_in.f v 2 40 = some (decide (2 ≤ v) && decide (v ≤ 40)) := by
  unfold impl_in.f
  by_cases h : 2 ≤ v
  · rw [if_pos h]; simp [h]
  · rw [if_neg h]; simp [h]
theorem words_len (s : ByteArray) : (words s).length ≤ s.size + 1 := by
  have h1 : (words s).length = Lib.countB s ⟨#[43]⟩ + 1 := Lib.splitB_all _ (by decide) 0 _ s rfl
  have h2 := Lib.countB_le ⟨#[43]⟩ (by decide) s.size s (Nat.le_refl _)
  omega
set_option maxHeartbeats 8000000 in
set_option maxRecDepth 100000 in
theorem impl_parsePoly.calls (k : Nat) (a0 : ByteArray) (r1 : Int) (r2 : Bool) (w : World) (hL : Lib3 w) (h : impl_parsePoly.f k a0 = some (r1, r2)) :
    Calls Tryz.prog 48 #[.string a0] w fun e w' => e = .returned (.tuple #[.int .i64 r1, .bool r2]) ∧ Below w.heap.size w w' := by
  unfold impl_parsePoly.f at h
  by_cases hs : a0.size ≤ 1048576
  rotate_left
  · rw [if_neg hs] at h; cases h
  rw [if_pos hs] at h
  have HSp := Aside0.mk (split_walk a0 w hL hs)
  have HZ := Aside0.mk (words_size a0)
  have HSz := Aside0.mk hs
  have hWn : (words a0).length ≤ 1048577 := by have := words_len a0; omega
  have HL := Aside0.mk hL
  generalize words a0 = W at h HSp HZ hWn
  obtain ⟨R, hR⟩ : ∃ R, R = parseL W 0 := ⟨_, rfl⟩
  rw [← hR] at h
  have HR := Aside0.mk hR.symm
  have HH := Aside0.mk h
  clear h hL hR hs
  go_enter Tryz.func48, Tryz.ntmps48
  go_wp2_with (go_at_call 66; refine HSp.out.mono ?_; rintro e w1 ⟨rfl, hcells, hb1⟩; have HC := Aside0.mk hcells; have HB := Aside0.mk hb1; clear hcells hb1 HSp)
  have HC1 := Aside0.mk (fun (W' : World) (hB : Below w1.heap.size w1 W') (j : Nat) x (hj : W[j]? = some x) => show W'.cell? ⟨w.heap.size, j, none⟩ = some (.string x) from (hB.cell (p := ⟨w.heap.size, j, none⟩) (World.block_lt_of_cell? w1 _ (HC.out j x hj))).trans (HC.out j x hj))
  clear HC
  go_loopg [4, 12] W.length (fun kq v4 v12 w' => ∃ (jj : Nat) (p : Int), jj ≤ W.length ∧ W.length - jj ≤ kq ∧ v4 = .int .i64 p ∧ v12 = .int .i64 jj ∧ Aside0 (parseL (W.drop jj) p = R) ∧ Aside0 (Below w1.heap.size w1 w'))
  case atStart => exact ⟨0, 0, Nat.zero_le _, by omega, rfl, rfl, by rw [List.drop_zero]; exact HR, ⟨Below.refl _ _⟩⟩
  case round =>
    obtain ⟨jj, p, hjj, hgq, rfl, rfl, HA, HB1⟩ := hrel
    by_cases hlt : jj < W.length
    · have hltz : (jj : Int) < (W.length : Int) := by omega
      have p1 : 0 ≤ (jj : Int) := by omega
      have H3 := HA.out
      rw [List.drop_eq_getElem_cons hlt, parseL] at H3
      have hxs := HZ.out W[jj] (List.getElem_mem hlt)
      have hv : wr.cell? ⟨w.heap.size, jj, none⟩ = some (.string W[jj]) := HC1.out wr HB1.out jj _ (List.getElem?_eq_getElem hlt)
      obtain ⟨x, hx⟩ : ∃ x, x = W[jj] := ⟨_, rfl⟩
      rw [← hx] at H3 hxs hv
      clear hx
      unfold stepW at H3
      by_cases c1 : x.toList = [49]
      · rw [if_pos c1] at H3
        have c1b0 : (x.toList == ([49] : List UInt8)) = true := beq_iff_eq.mpr c1
        have H3 := Aside0.mk H3
        clear c1 hxs HR HH
        go_wp2
        go_roundg (W.length - (jj + 1))
        case measure => omega
        case rel => exact ⟨jj + 1, _, by omega, by omega, rfl, by go_num, H3, HB1⟩
      · rw [if_neg c1] at H3
        have c1b0 : (x.toList == ([49] : List UInt8)) = false := beq_eq_false_iff_ne.mpr c1
        by_cases c2 : x.toList = [120]
        · rw [if_pos c2] at H3
          have c2b0 : (x.toList == ([120] : List UInt8)) = true := beq_iff_eq.mpr c2
          have H3 := Aside0.mk H3
          clear c1 c2 hxs HR HH
          go_wp2
          go_roundg (W.length - (jj + 1))
          case measure => omega
          case rel => exact ⟨jj + 1, _, by omega, by omega, rfl, by go_num, H3, HB1⟩
        · rw [if_neg c2] at H3
          have c2b0 : (x.toList == ([120] : List UInt8)) = false := beq_eq_false_iff_ne.mpr c2
          clear c1 c2
          by_cases c3 : Lib.hasPrefix x.data.toList [120] = true
          · rw [if_pos c3] at H3
            have c4 := prefix_size c3
            have c4z : (1 : Int) ≤ (x.size : Int) := by omega
            rw [if_pos c4] at H3
            have hxe : (x.extract 1 x.size).size ≤ 1048576 := by have := HSz.out; rw [ByteArray.size_extract]; omega
            have HL1 := HL.out.below HB.out
            have HLr := Aside0.mk (fun (W' : World) (hB : Below w1.heap.size w1 W') => HL1.below hB)
            clear HL1
            obtain ⟨u, hu⟩ : ∃ u, u = atoiR (x.extract 1 x.size).data.toList := ⟨_, rfl⟩
            rw [← hu] at H3
            cases u with
            | none =>
              obtain rfl : R = none := H3.symm
              have hh := HH.out
              injection hh with hh
              injection hh with e1 e2
              subst e1 e2
              have HU := Aside0.mk (fun (W' : World) (hB : Below w1.heap.size w1 W') => atoi_none (x.extract 1 x.size) W' (HLr.out W' hB) hxe hu.symm)
              clear H3 hxs hu hxe HR HH HLr
              go_wp2_with (first
                | (go_at_call 67; refine (Tryz.strings_HasPrefix x ⟨#[120]⟩ _).mono ?_; rintro e w2 ⟨rfl, rfl⟩; have hpf : Lib.hasPrefix x.data.toList ((⟨#[120]⟩ : ByteArray).data.toList) = true := c3; rw [hpf]; clear hpf)
                | (go_at_call 68; refine (HU.out _ HB1.out).mono ?_; rintro e w2 ⟨⟨v, pe, rfl⟩, hb2⟩; have HB2 := Aside0.mk (below_step HB1.out hb2); clear hb2))
              go_ret2
              exact ⟨by first | rfl | (simp; done), below_step HB.out HB2.out⟩
            | some v =>
              simp only [Option.bind_some] at H3
              have HU := Aside0.mk (fun (W' : World) => atoi_some (x.extract 1 x.size) v W' hxe hu.symm)
              have HI := Aside0.mk (fun (W' : World) => impl_in.calls v 2 40 _ W' (in_val v))
              by_cases c5 : 2 ≤ v ∧ v ≤ 40
              · rw [if_pos c5] at H3
                have hin : (decide (2 ≤ v) && decide (v ≤ 40)) = true := by simp [c5]
                have c5z : 0 ≤ v := by omega
                rw [hin] at HI
                simp only [Option.bind_some] at H3
                have E1 : shl .i64 1 v = wrap64 (2 ^ v.toNat) := by
                  have e0 : min v.toNat 64 = v.toNat := by omega
                  rw [← i64_w]
                  simp [shl, IntKind.bits, e0]
                rw [E1] at H3
                have H3 := Aside0.mk H3
                clear hxs hu hxe HR HH HLr hin E1
                go_wp2_with (first
                  | (go_at_call 67; refine (Tryz.strings_HasPrefix x ⟨#[120]⟩ _).mono ?_; rintro e w2 ⟨rfl, rfl⟩; have hpf : Lib.hasPrefix x.data.toList ((⟨#[120]⟩ : ByteArray).data.toList) = true := c3; rw [hpf]; clear hpf)
                  | (go_at_call 68; refine (HU.out _).mono ?_; rintro e w2 ⟨rfl, hb2⟩; have HB2 := Aside0.mk (below_step HB1.out hb2); clear hb2)
                  | (go_at_call 59; refine (HI.out _).mono ?_; rintro e w3 ⟨rfl, ⟨nd, rfl⟩⟩; have HB3 := Aside0.mk (pw_below_drewN HB2.out nd)))
                go_roundg (W.length - (jj + 1))
                case measure => omega
                case rel => exact ⟨jj + 1, _, by omega, by omega, rfl, by go_num, H3, HB3⟩
              · rw [if_neg c5] at H3
                obtain rfl : R = none := H3.symm
                have hh := HH.out
                injection hh with hh
                injection hh with e1 e2
                subst e1 e2
                have hin : (decide (2 ≤ v) && decide (v ≤ 40)) = false := by
                  by_cases q1 : 2 ≤ v
                  · by_cases q2 : v ≤ 40
                    · exact absurd ⟨q1, q2⟩ c5
                    · simp [q2]
                  · simp [q1]
                rw [hin] at HI
                clear H3 hxs hu hxe HR HH HLr hin c5
                go_wp2_with (first
                  | (go_at_call 67; refine (Tryz.strings_HasPrefix x ⟨#[120]⟩ _).mono ?_; rintro e w2 ⟨rfl, rfl⟩; have hpf : Lib.hasPrefix x.data.toList ((⟨#[120]⟩ : ByteArray).data.toList) = true := c3; rw [hpf]; clear hpf)
                  | (go_at_call 68; refine (HU.out _).mono ?_; rintro e w2 ⟨rfl, hb2⟩; have HB2 := Aside0.mk (below_step HB1.out hb2); clear hb2)
                  | (go_at_call 59; refine (HI.out _).mono ?_; rintro e w3 ⟨rfl, ⟨nd, rfl⟩⟩; have HB3 := Aside0.mk (pw_below_drewN HB2.out nd)))
                go_ret2
                exact ⟨by first | rfl | (simp; done), below_step HB.out HB3.out⟩
          · rw [if_neg c3] at H3
            have c3 : Lib.hasPrefix x.data.toList [120] = false := by simpa using c3
            have H3 := Aside0.mk H3
            clear hxs HR HH
            go_wp2_with (go_at_call 67; refine (Tryz.strings_HasPrefix x ⟨#[120]⟩ _).mono ?_; rintro e w2 ⟨rfl, rfl⟩; have hpf : Lib.hasPrefix x.data.toList ((⟨#[120]⟩ : ByteArray).data.toList) = false := c3; rw [hpf]; clear hpf)
            go_roundg (W.length - (jj + 1))
            case measure => omega
            case rel => exact ⟨jj + 1, _, by omega, by omega, rfl, by go_num, H3, HB1⟩
    · have hltz : ¬ (jj : Int) < (W.length : Int) := by omega
      obtain rfl : jj = W.length := by omega
      have H3 := HA.out
      rw [List.drop_length, parseL] at H3
      subst H3
      obtain ⟨t, h1, h2⟩ := Option.bind_eq_some_iff.mp HH.out
      injection h2 with h2
      injection h2 with e1 e2
      subst e1 e2
      have HT := Aside0.mk (fun (W' : World) => impl_polyText.calls k p t W' h1)
      clear HA HR HH h1
      go_wp2_with (go_at_call 46; refine (HT.out _).mono ?_; rintro e w2 ⟨rfl, hb2⟩; have HB2 := Aside0.mk (below_step HB1.out hb2); clear hb2)
      go_ret2
      exact ⟨by first | rfl | (simp; done), below_step HB.out HB2.out⟩
theorem impl_parsePoly.mono : ∀ a0 k, LeO (impl_parsePoly.f k a0) (impl_parsePoly.f (k + 1) a0) := fun a0 k => by
  unfold impl_parsePoly.f
  split
  · cases parseL (words a0) 0 with
    | none => exact LeO.refl _
    | some p => exact LeO.bind (impl_polyText.mono p k) (fun _ => LeO.refl _)
  · exact LeO.refl _

/-! ### impl_ParsePoly: function 24 -/
-- BY HAND
def impl_ParsePoly.f (k : Nat) (s : ByteArray) : Option (Int × Bool) := (impl_parsePoly.f k s).bind fun t => impl_told.f t.1 t.2
theorem impl_ParsePoly.mono : ∀ a0 k, LeO (impl_ParsePoly.f k a0) (impl_ParsePoly.f (k + 1) a0) := fun a0 k => LeO.bind (impl_parsePoly.mono a0 k) (fun _ => LeO.refl _)
set_option maxHeartbeats 8000000 in
set_option maxRecDepth 100000 in
theorem impl_ParsePoly.calls (k : Nat) (a0 : ByteArray) (r1 : Int) (r2 : Bool) (w : World) (hL : Lib3 w) (h : impl_ParsePoly.f k a0 = some (r1, r2)) :
    Calls Tryz.prog 24 #[.string a0] w fun e w' => e = .returned (.tuple #[.int .i64 r1, .bool r2]) ∧ Below w.heap.size w w' := by
  unfold impl_ParsePoly.f at h
  obtain ⟨⟨p, b⟩, h1, h2⟩ := Option.bind_eq_some_iff.mp h
  have HP := Aside0.mk (impl_parsePoly.calls k a0 p b w hL h1)
  have HT := Aside0.mk (fun (W' : World) => impl_told.calls p b r1 r2 W' h2)
  clear h h1 h2 hL
  go_enter Tryz.func24, Tryz.ntmps24
  go_wp2_with (first
    | (go_at_call 48; refine HP.out.mono ?_; rintro e w2 ⟨rfl, hb2⟩; have HB2 := Aside0.mk hb2; clear hb2)
    | (go_at_call 47; refine (HT.out _).mono ?_; rintro e w3 ⟨rfl, ⟨nd, rfl⟩⟩; have HB3 := Aside0.mk (pw_below_drewN HB2.out nd)))
  go_ret2
  exact ⟨by first | rfl | (simp; done), HB3.out⟩

end Go.Proofs.YtigkmdlbijdoaaaGreatDoor.P
