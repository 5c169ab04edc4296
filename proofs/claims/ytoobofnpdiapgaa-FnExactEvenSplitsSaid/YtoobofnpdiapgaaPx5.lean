-- Written by a program of this session (wip/mp.py), which runs the kit's print with contracts of the session's own.
import Derived.Test.YtoobofnpdiapgaaPx0
import Derived.Test.YtoobofnpdiapgaaPx1
import Derived.Test.YtoobofnpdiapgaaPx4
namespace Go.Proofs.Ytoobofnpdiapgaa.P
open Go.RowKit Go.Proofs.YtoobofnpdiapgaaW.PrintWords Go.Proofs.YtoobofnpdiapgaaW.PrintLast Go.Proofs.YtoobofnpdiapgaaW.PrintMore
attribute [local go_sem] max2_int min2_int max_two min_two max_three min_three max_four min_four   -- for this text's walks alone
set_option linter.unusedVariables false
set_option linter.unusedSimpArgs false

/-! ### spec_paSystem_put: function 94 -/
-- BY HAND
section
open Go.Shelf
/-- A system of equations in memory. -/
structure PS (base g : Nat) (vr vw : Value) (rows want : List Int) (W : World) : Prop where
  b : W.heap[g]? = some (.cells #[vr, vw] 87 (0, 0))
  g0 : base ≤ g
  R : (Kd.int .i64).R 3 W base (fun k => some k = vr.ownBlock) vr rows
  X : (Kd.int .i64).R 3 W base (fun k => some k = vw.ownBlock) vw want
  ne : ∀ k, vr.ownBlock = some k → vw.ownBlock ≠ some k
section
variable {base g : Nat} {vr vw v' : Value} {rows want xs : List Int} {W W' : World}
theorem PS.below (h : PS base g vr vw rows want W) (hb : Below W.heap.size W W') : PS base g vr vw rows want W' :=
  ⟨blk_below h.b hb, h.g0, Kd.R_below h.R hb, Kd.R_below h.X hb, h.ne⟩
theorem PS.gr (h : PS base g vr vw rows want W) : some g ≠ vr.ownBlock := fun e => by
  obtain ⟨cs, hc⟩ := Kd.R_typed h.R g e.symm
  exact blk_ne h.b hc (by decide) rfl
theorem PS.gw (h : PS base g vr vw rows want W) : some g ≠ vw.ownBlock := fun e => by
  obtain ⟨cs, hc⟩ := Kd.R_typed h.X g e.symm
  exact blk_ne h.b hc (by decide) rfl
/-- The blocks of a system. -/
def own3 (g : Nat) (vr vw : Value) (k : Nat) : Prop := k = g ∨ some k = vr.ownBlock ∨ some k = vw.ownBlock
theorem PS.kept {S : Nat → Prop} (h : PS base g vr vw rows want W) (hK : Kept W W' S) (hn : ∀ k, own3 g vr vw k → ¬ S k) : PS base g vr vw rows want W' :=
  ⟨blk_kept h.b hK (hn g (.inl rfl)), h.g0, Kd.R_kept h.R hK (fun k e => hn k (.inr (.inl e))), Kd.R_kept h.X hK (fun k e => hn k (.inr (.inr e))), h.ne⟩
theorem PS.rows_ {ok : Nat → Prop} (h : PS base g vr vw rows want W) (hR : (Kd.int .i64).R 3 W' base ok v' xs) (hg : W.grownBy W' vr.ownBlock) (hat : v'.ownBlock = vr.ownBlock ∨ ∃ b, v'.ownBlock = some b ∧ W.heap.size ≤ b) :
    PS base g v' vw xs want (W'.setCell ⟨g, 0, none⟩ v') := by
  have hb := blk_grown h.b hg h.gr
  refine ⟨blk_put hb 0 v' rfl, h.g0, Kd.R_set (Kd.R_tight rfl hR) hb (by decide) 0 v', Kd.R_set (Kd.R_grown h.X hg (fun k e e2 => h.ne k e2.symm e.symm)) hb (by decide) 0 v', fun k e e2 => ?_⟩
  rcases hat with hat | ⟨b, hb1, hb2⟩
  · exact h.ne k (hat ▸ e) e2
  · rw [hb1] at e
    injection e with e
    have := Kd.R_lt h.X k e2; omega
theorem PS.want_ {ok : Nat → Prop} (h : PS base g vr vw rows want W) (hR : (Kd.int .i64).R 3 W' base ok v' xs) (hg : W.grownBy W' vw.ownBlock) (hat : v'.ownBlock = vw.ownBlock ∨ ∃ b, v'.ownBlock = some b ∧ W.heap.size ≤ b) :
    PS base g vr v' rows xs (W'.setCell ⟨g, 1, none⟩ v') := by
  have hb := blk_grown h.b hg h.gw
  refine ⟨blk_put hb 1 v' rfl, h.g0, Kd.R_set (Kd.R_grown h.R hg (fun k e e2 => h.ne k e.symm e2.symm)) hb (by decide) 1 v', Kd.R_set (Kd.R_tight rfl hR) hb (by decide) 1 v', fun k e e2 => ?_⟩
  rcases hat with hat | ⟨b, hb1, hb2⟩
  · exact h.ne k e (hat ▸ e2)
  · rw [hb1] at e2
    injection e2 with e2
    have := Kd.R_lt h.R k e; omega
end
/-- An equation, with those of a system added. -/
def putS (k : Nat) : List Int → List Int → Int → Int → Option (Int × Int)
  | [], _, row, want => some (row, want)
  | _ :: _, [], _, _ => none
  | r :: rs, x :: xs, row, want => (spec_soTop.f k r).bind fun t => (spec_grIn.f row t).bind fun q =>
      if q = true then putS k rs xs (Go.bits .xor .i64 row r) (Go.bits .xor .i64 want x) else putS k rs xs row want
def putF (k : Nat) (rows wants : List Int) (row want : Int) : Option (Bool × List Int × List Int) :=
  (putS k rows wants row want).bind fun p => if p.1 = 0 then some (p.2 == 0, rows, wants) else if rows.length < 1000000 ∧ wants.length < 1000000 then some (true, rows ++ [p.1], wants ++ [p.2]) else none
set_option maxHeartbeats 8000000 in
set_option maxRecDepth 100000 in
theorem spec_put.calls (k g : Nat) (vr vw : Value) (rows wants : List Int) (row want : Int) (r : Bool) (rows' wants' : List Int) (w0 w : World) (hB : Below w0.heap.size w0 w) (hS : PS w0.heap.size g vr vw rows wants w) (h : putF k rows wants row want = some (r, rows', wants')) :
    Calls Try.prog 94 #[.pointer (some ⟨g, 0, none⟩), .int .i64 row, .int .i64 want] w fun e w' => e = .returned (.bool r) ∧ (∃ vr' vw', PS w0.heap.size g vr' vw' rows' wants' w') ∧ Below w0.heap.size w0 w' ∧ Kept w w' (own3 g vr vw) := by
  obtain ⟨Ar, cr, rfl⟩ := Kd.R_slice hS.R
  obtain ⟨Aw, cw, rfl⟩ := Kd.R_slice hS.X
  have hm := Kd.C_max (Kd.R_reads' hS.R).2.2
  unfold putF at h
  obtain ⟨⟨R, X⟩, h1, h⟩ := Option.bind_eq_some_iff.mp h
  dsimp only at h
  have H1 := Aside0.mk h1
  have H2 := Aside0.mk h
  have HS := Aside0.mk hS
  have HB := Aside0.mk hB
  have hz0 : ∀ m, (w.drewN m).cell? ⟨g, 0, none⟩ = some (.slice Ar rows.length cr) := fun m => (blk_cell hS.b 0).trans rfl
  have hz1 : ∀ m, (w.drewN m).cell? ⟨g, 1, none⟩ = some (.slice Aw wants.length cw) := fun m => (blk_cell hS.b 1).trans rfl
  have hq0 : w.cell? ⟨g, 0, none⟩ = some (.slice Ar rows.length cr) := (blk_cell hS.b 0).trans rfl
  clear hS hB h h1
  go_enter Try.func94, Try.ntmps94
  go_wp2
  go_loopg [1, 2, 14] rows.length (fun kq v1 v2 v14 w' => ∃ (kk : Nat) (ro wa : Int) (m : Nat), kk ≤ rows.length ∧ rows.length - kk ≤ kq ∧ v1 = .int .i64 ro ∧ v2 = .int .i64 wa ∧ v14 = .int .i64 kk ∧ w' = w.drewN m ∧ Aside0 (putS k (rows.drop kk) (wants.drop kk) ro wa = some (R, X)))
  case atStart => exact ⟨0, row, want, 0, Nat.zero_le _, by omega, rfl, rfl, rfl, rfl, H1⟩
  case round =>
    obtain ⟨kk, ro, wa, m, hkk, hg, rfl, rfl, rfl, rfl, HA⟩ := hrel
    by_cases hlt : kk < rows.length
    · have hltz : (kk : Int) < (rows.length : Int) := by omega
      have p1 : 0 ≤ (kk : Int) := by omega
      obtain ⟨ad, e1, hx0⟩ := Kd.at_int (Kd.R_reads' HS.out.R).2.2 kk p1 hltz
      cases e1
      rw [Int.toNat_natCast] at hx0
      have hx0 : ∀ n, (w.drewN n).cell? (ad.add kk) = some (.int .i64 (rd rows kk)) := fun n => hx0
      by_cases hlw : kk < wants.length
      · have hlwz : (kk : Int) < (wants.length : Int) := by omega
        obtain ⟨ad2, e2, hy0⟩ := Kd.at_int (Kd.R_reads' HS.out.X).2.2 kk p1 hlwz
        cases e2
        rw [Int.toNat_natCast] at hy0
        have hy0 : ∀ n, (w.drewN n).cell? (ad2.add kk) = some (.int .i64 (rd wants kk)) := fun n => hy0
        obtain ⟨r1, hr1⟩ : ∃ z, z = rd rows kk := ⟨_, rfl⟩
        obtain ⟨x1, hx1⟩ : ∃ z, z = rd wants kk := ⟨_, rfl⟩
        have H := HA.out
        rw [List.drop_eq_getElem_cons hlt, List.drop_eq_getElem_cons hlw, show rows[kk] = r1 by rw [hr1]; simp [rd, List.getElem?_eq_getElem hlt], show wants[kk] = x1 by rw [hx1]; simp [rd, List.getElem?_eq_getElem hlw], putS] at H
        rw [← hr1] at hx0
        rw [← hx1] at hy0
        clear HA hr1 hx1 H1
        replace H := Option.bind_eq_some_iff.mp H
        obtain ⟨t1, A1, H⟩ := H
        replace A1 := Aside0.mk A1
        replace H := Option.bind_eq_some_iff.mp H
        obtain ⟨q, A2, H⟩ := H
        replace A2 := Aside0.mk A2
        cases q with
        | true =>
          rw [if_pos rfl] at H
          replace H := Aside0.mk H
          go_wp2_with (first
            | (go_at_call 66; with_reducible refine (spec_soTop.calls k r1 t1 _ A1.out).mono ?_; rintro e w' ⟨rfl, ⟨nd, rfl⟩⟩)
            | (go_at_call 70; with_reducible refine (spec_grIn.calls ro t1 true _ A2.out).mono ?_; rintro e w' ⟨rfl, ⟨nd2, rfl⟩⟩))
          go_roundg (rows.length - (kk + 1))
          case measure => omega
          case rel => exact ⟨kk + 1, _, _, _, by omega, by omega, by first | rfl | go_num, by first | rfl | go_num, by go_num, rfl, H⟩
        | false =>
          rw [if_neg (by simp)] at H
          replace H := Aside0.mk H
          go_wp2_with (first
            | (go_at_call 66; with_reducible refine (spec_soTop.calls k r1 t1 _ A1.out).mono ?_; rintro e w' ⟨rfl, ⟨nd, rfl⟩⟩)
            | (go_at_call 70; with_reducible refine (spec_grIn.calls ro t1 false _ A2.out).mono ?_; rintro e w' ⟨rfl, ⟨nd2, rfl⟩⟩))
          go_roundg (rows.length - (kk + 1))
          case measure => omega
          case rel => exact ⟨kk + 1, _, _, _, by omega, by omega, by first | rfl | go_num, by first | rfl | go_num, by go_num, rfl, H⟩
      · exfalso
        have H := HA.out
        rw [List.drop_eq_getElem_cons hlt, List.drop_eq_nil_of_le (show wants.length ≤ kk by omega), putS] at H
        cases H
    · have hltz : ¬ (kk : Int) < (rows.length : Int) := by omega
      obtain rfl : kk = rows.length := by omega
      have H := HA.out
      rw [List.drop_length, putS] at H
      injection H with H
      injection H with h1 h2
      subst h1 h2
      have H2 := H2.out
      clear HA H1 hq0
      have HBm := Aside0.mk (pw_below_drewN HB.out m)
      have HSm := Aside0.mk (HS.out.below (pw_below_drewN (Below.refl _ _) m))
      by_cases c0 : ro = 0
      · rw [if_pos c0] at H2
        injection H2 with H2
        injection H2 with h1 H2
        injection H2 with h2 h3
        subst h1 h2 h3 c0
        go_wp2
        go_ret
        exact ⟨by first | rfl | (simp; done), ⟨_, _, HSm.out⟩, HBm.out, Kept.drewN (Kept.refl _ _) m⟩
      · rw [if_neg c0] at H2
        by_cases c1 : rows.length < 1000000 ∧ wants.length < 1000000
        · rw [if_pos c1] at H2
          obtain ⟨c1, c2⟩ := c1
          injection H2 with H2
          injection H2 with h1 H2
          injection H2 with h2 h3
          subst h1 h2 h3
          have hzm := hz0 m
          have hzn := hz1 m
          have c3 : (ro == 0) = false := by simpa using c0
          clear hz0 hz1
          go_wp2_with (first
            | ((with_reducible refine gate_builtin (b := .append) (xs := #[.tmp 44, .tmp 46]) rfl ?_); at_builtin; refine Kd.R_append (Kd.int .i64) (w0 := w0) w0.heap.size rfl (.tmp 44) (.tmp 46) 22 3 (.int .i64 0) 8 rfl Try.underlying22 info3 rfl (by decide) (by omega) (.slice Ar rows.length cr) rows ro [.int .i64 ro] (fun _ => True) (fun _ => False) rfl rfl ?aP (fun _ hk => hk.elim) (fun _ _ => trivial) ?aO ?aB ?aS ?aL ?_; (case aP => exact rfl); (case aB => exact HBm.out); (case aO => exact Kd.R_mono HSm.out.R (fun _ _ => trivial)); (case aS => exact HBm.out.size); (case aL => omega); intro v3 w3 ho hb hgr hat; obtain ⟨A3_, c3_, hv3_⟩ := Kd.R_slice ho; rw [List.length_append, List.length_singleton] at hv3_; subst hv3_; have hb3 := blk_grown HSm.out.b hgr HSm.out.gr; have hz3 : w3.cell? ⟨g, 0, none⟩ = some (.slice Ar rows.length cr) := (blk_cell hb3 0).trans rfl; have hf3 := blk_frozen hb3 0; have HS3 := Aside0.mk (HSm.out.rows_ ho hgr hat); have HB3 := Aside0.mk (below_set (j := 0) (v := .slice A3_ (rows.length + 1) c3_) hb HSm.out.g0); have HK3 := Aside0.mk ((Kept.of_grown (S := own3 g (.slice Ar rows.length cr) (.slice Aw wants.length cw)) hgr (Kept.refl _ _) (fun k_ e_ => .inl (.inr (.inl e_.symm)))).setCell (p := ⟨g, 0, none⟩) (.inl (.inl rfl)) (.slice A3_ (rows.length + 1) c3_)); have hz4 : (w3.setCell ⟨g, 0, none⟩ (.slice A3_ (rows.length + 1) c3_)).cell? ⟨g, 1, none⟩ = some (.slice Aw wants.length cw) := (blk_cell HS3.out.b 1).trans rfl; clear hb3 ho hb hgr hat)
            | ((with_reducible refine gate_builtin (b := .append) (xs := #[.tmp 54, .tmp 56]) rfl ?_); at_builtin; refine Kd.R_append (Kd.int .i64) (w0 := w0) w0.heap.size rfl (.tmp 54) (.tmp 56) 22 3 (.int .i64 0) 8 rfl Try.underlying22 info3 rfl (by decide) (by omega) (.slice Aw wants.length cw) wants wa [.int .i64 wa] (fun _ => True) (fun _ => False) rfl ?hx_ ?aP (fun _ hk => hk.elim) (fun _ _ => trivial) ?aO ?aB ?aS ?aL ?_; (case hx_ => exact congrArg (fun n => Value.slice (some ⟨n, 0, none⟩) 1 1) (World.size_setCell w3 ⟨g, 0, none⟩ (.slice A3_ (rows.length + 1) c3_)).symm); (case aP => exact rfl); (case aB => exact HB3.out); (case aO => exact Kd.R_mono HS3.out.X (fun _ _ => trivial)); (case aS => exact HB3.out.size); (case aL => omega); intro v5 w5 ho hb hgr hat; obtain ⟨A5_, c5_, hv5_⟩ := Kd.R_slice ho; rw [List.length_append, List.length_singleton] at hv5_; subst hv5_; have hb3 := blk_grown HS3.out.b hgr HS3.out.gw; have hz5 : w5.cell? ⟨g, 1, none⟩ = some (.slice Aw wants.length cw) := (blk_cell hb3 1).trans rfl; have hf5 := blk_frozen hb3 1; have HS5 := Aside0.mk (HS3.out.want_ ho hgr hat); have HB5 := Aside0.mk (below_set (j := 1) (v := .slice A5_ (wants.length + 1) c5_) hb HS3.out.g0); have HK5 := Aside0.mk ((Kept.of_grown (S := own3 g (.slice Ar rows.length cr) (.slice Aw wants.length cw)) hgr HK3.out (fun k_ e_ => .inl (.inr (.inr e_.symm)))).setCell (p := ⟨g, 1, none⟩) (.inl (.inl rfl)) (.slice A5_ (wants.length + 1) c5_)); clear hb3 ho hb hgr hat hz4))
          go_ret
          exact ⟨by first | rfl | (simp; done), ⟨_, _, HS5.out⟩, HB5.out, HK5.out⟩
        · rw [if_neg c1] at H2
          cases H2
end

/-! ### spec_paSolutions: function 72 -/
-- BY HAND
section
open Go.Shelf
set_option linter.unusedSimpArgs false
set_option linter.unusedVariables false
structure Hid (p : Prop) : Prop where
  out : p
def sol1 (k : Nat) (want : Int) : List Int → Nat → List Int → List Int → Option (Bool × List Int × List Int)
  | [], _, rs, ws => some (true, rs, ws)
  | r :: l, i, rs, ws => (putF k rs ws r (Int.tmod (shr .i64 want (i : Int)) 2)).bind fun p => if p.1 = true then sol1 k want l (i + 1) p.2.1 p.2.2 else some (false, p.2.1, p.2.2)
def sol2 (k : Nat) : Nat → List Int → List Int → Option (List Int × List Int)
  | 0, rs, ws => some (rs, ws)
  | m + 1, rs, ws => (putF k rs ws (shl .i64 1 (m : Int)) 0).bind fun p => if p.1 = true then sol2 k m p.2.1 p.2.2
      else (putF k p.2.1 p.2.2 (shl .i64 1 (m : Int)) 1).bind fun p2 => sol2 k m p2.2.1 p2.2.2
def sol3 (k : Nat) (rs ws : List Int) : Nat → Nat → Int → Option Int
  | 0, _, set => some set
  | d + 1, i, set => (putF k rs ws (shl .i64 1 (i : Int)) 0).bind fun p => if p.1 = true then sol3 k rs ws d (i + 1) set else sol3 k rs ws d (i + 1) (Go.bits .or .i64 set (shl .i64 1 (i : Int)))
def spec_paSolutions.fk (k : Nat) (a0 : Int) (l1 : List Int) (a2 : Int) : Option (Int × Int × Bool) :=
  if 0 ≤ a0 ∧ a0 ≤ 1000 then (sol1 k a2 l1 0 [] []).bind fun p => if p.1 = true then (sol2 k a0.toNat p.2.1 p.2.2).bind fun q =>
    if q.1.length < 1000000 ∧ q.2.length < 1000000 then (sol3 k q.1 q.2 a0.toNat 0 0).bind fun set => some (wrap64 (a0 - (p.2.1.length : Int)), set, true) else none else some (0, 0, false)
  else none
theorem PS.kept_below {base g : Nat} {vr vw : Value} {rows want : List Int} {W W' : World} {S : Nat → Prop} (h : PS base g vr vw rows want W) (hK : Kept W W' S) (hn : ∀ k, S k → W.heap.size ≤ k ∨ ¬ own3 g vr vw k) : PS base g vr vw rows want W' := by
  refine h.kept hK (fun k h3 hs => ?_)
  rcases hn k hs with h1 | h1
  · rcases h3 with rfl | h3 | h3
    · have := blk_lt h.b; omega
    · have := Kd.R_lt h.R k h3.symm; omega
    · have := Kd.R_lt h.X k h3.symm; omega
  · exact h1 h3
def spec_paSolutions.T18 : Bool × List (List Nat × List Nat) := (true, [([], []), ([], []), ([1], [1]), ([2], [2]), ([3], [3]), ([0, 4], [0, 4]), ([], []), ([], []), ([7], [7]), ([8], [8]), ([9], [9]), ([6, 10, 5], [6, 10]), ([5, 11], [5, 11]), ([12], [12]), ([13, 11, 0, 1, 2, 3, 4, 5, 6, 7, 8, 9, 10, 11, 12, 13], [13])])
def spec_paSolutions.B18 : List Nat := [0, 0, 2, 6, 14, 31, 0, 0, 128, 384, 896, 2047, 4095, 8191, 16383]
theorem spec_paSolutions.tab18 : rtab .any (opsOf Try.f72 18) = spec_paSolutions.T18 := by kernel_rfl
theorem spec_paSolutions.bits18 : waitsOk spec_paSolutions.T18.2 spec_paSolutions.B18 = true := by kernel_rfl
set_option maxHeartbeats 16000000 in
set_option maxRecDepth 100000 in
theorem spec_paSolutions.callsk (k : Nat) (a0 : Int) (A1 : Option Addr) (c1 : Nat) (l1 : List Int) (a2 : Int) (r1 r2 : Int) (r3 : Bool) (w : World) (hr1 : Kd.C (Kd.int .i64) w A1 l1.length l1) (hc1 : l1.length ≤ c1) (h : spec_paSolutions.fk k a0 l1 a2 = some (r1, r2, r3)) :
    Calls Try.prog 72 #[.int .i64 a0, .slice A1 l1.length c1, .int .i64 a2] w fun e w' => e = .returned (.tuple #[.int .i64 r1, .int .i64 r2, .bool r3]) ∧ Below w.heap.size w w' := by
  have hm := Kd.C_max hr1
  have HR1 := Aside0.mk hr1
  unfold spec_paSolutions.fk at h
  by_cases hn : 0 ≤ a0 ∧ a0 ≤ 1000
  · rw [if_pos hn] at h
    obtain ⟨hn0, hn1⟩ := hn
    obtain ⟨⟨ok, rs1, ws1⟩, h1, h⟩ := Option.bind_eq_some_iff.mp h
    dsimp only at h
    have H1 := Aside0.mk h1
    have H2 := Aside0.mk h
    clear hr1 hc1 h1 h
    go_enter Try.func72, Try.ntmps72
    go_wp2
    go_loopg [21] l1.length (fun kq v21 w' => ∃ (kk : Nat) (vr vw : Value) (rs ws : List Int), kk ≤ l1.length ∧ l1.length - kk ≤ kq ∧ v21 = .int .i64 kk ∧ Aside0 (sol1 k a2 (l1.drop kk) kk rs ws = some (ok, rs1, ws1)) ∧ Aside0 (PS w.heap.size w.heap.size vr vw rs ws w') ∧ Aside0 (Below w.heap.size w w'))
    case atStart => exact ⟨0, _, _, [], [], Nat.zero_le _, by omega, rfl, H1, ⟨⟨blk_new _ _, Nat.le_refl _, Kd.R_nil _ _ _ _ _, Kd.R_nil _ _ _ _ _, fun k e => by simp [Value.ownBlock] at e⟩⟩, ⟨(Below.refl _ w).alloc (Nat.le_refl _) _⟩⟩
    case round =>
      obtain ⟨kk, vr, vw, rs, ws, hkk, hg, rfl, HA, HS, HB⟩ := hrel
      by_cases hlt : kk < l1.length
      · have hltz : (kk : Int) < (l1.length : Int) := by omega
        have p1 : 0 ≤ (kk : Int) := by omega
        obtain ⟨ad, e1, hx0⟩ := Kd.at_int (Kd.C_below HR1.out HB.out) kk p1 hltz
        cases e1
        rw [Int.toNat_natCast] at hx0
        obtain ⟨r, hr⟩ : ∃ z, z = rd l1 kk := ⟨_, rfl⟩
        have H := HA.out
        rw [List.drop_eq_getElem_cons hlt, show l1[kk] = r by rw [hr]; simp [rd, List.getElem?_eq_getElem hlt], sol1] at H
        rw [← hr] at hx0
        clear HA hr H1
        replace H := Option.bind_eq_some_iff.mp H
        obtain ⟨⟨q, rs2, ws2⟩, A3, H⟩ := H
        dsimp only at H
        have hsh : shr .i64 a2 (kk : Int) = a2 / 2 ^ min kk 64 := by simp [shr]; rfl
        rw [hsh] at A3
        have hcall := Aside0.mk (spec_put.calls k w.heap.size vr vw rs ws r _ q rs2 ws2 w wr HB.out HS.out A3)
        clear A3
        cases q with
        | true =>
          rw [if_pos rfl] at H
          replace H := Aside0.mk H
          go_wp2_with (go_at_call 94; refine hcall.out.mono ?_; rintro e w2 ⟨rfl, ⟨vr2, vw2, hS2⟩, hB2, hK2⟩; have HS2 := Aside0.mk hS2; have HB2 := Aside0.mk hB2; clear hS2 hB2 hK2)
          go_roundg (l1.length - (kk + 1))
          case measure => omega
          case rel => exact ⟨kk + 1, _, _, _, _, by omega, by omega, by go_num, H, HS2, HB2⟩
        | false =>
          rw [if_neg (by simp)] at H
          injection H with H
          injection H with h1 H
          subst h1
          have H2 := H2.out
          rw [if_neg (by simp)] at H2
          injection H2 with H2
          injection H2 with h1 H2
          injection H2 with h2 h3
          subst h1 h2 h3
          go_wp2_with (go_at_call 94; refine hcall.out.mono ?_; rintro e w2 ⟨rfl, ⟨vr2, vw2, hS2⟩, hB2, hK2⟩; have HS2 := Aside0.mk hS2; have HB2 := Aside0.mk hB2; clear hS2 hB2 hK2)
          refine bodyPost_ret (results_tmp3 rfl _ _ _) rfl ?_
          exact ⟨by first | rfl | (simp; done), HB2.out⟩
      · have hltz : ¬ (kk : Int) < (l1.length : Int) := by omega
        obtain rfl : kk = l1.length := by omega
        have H := HA.out
        rw [List.drop_length, sol1] at H
        injection H with H
        injection H with h1 H
        injection H with h2 h3
        subst h1 h2 h3
        have H2 := H2.out
        rw [if_pos rfl] at H2
        replace H2 := Option.bind_eq_some_iff.mp H2
        obtain ⟨⟨rs3, ws3⟩, h4, H2⟩ := H2
        dsimp only at H2
        by_cases hlen : rs3.length < 1000000 ∧ ws3.length < 1000000
        · rw [if_pos hlen] at H2
          obtain ⟨hlr, hlw⟩ := hlen
          replace H2 := Option.bind_eq_some_iff.mp H2
          obtain ⟨set, h5, H2⟩ := H2
          injection H2 with H2
          injection H2 with h6 H2
          injection H2 with h7 h8
          subst h6 h7 h8
          have H4 := Aside0.mk h4
          have H5 := Aside0.mk h5
          obtain ⟨Ar, cr, rfl⟩ := Kd.R_slice HS.out.R
          have hz0 : wr.cell? ⟨w.heap.size, 0, none⟩ = some (.slice Ar rs.length cr) := (blk_cell HS.out.b 0).trans rfl
          clear HA H1 h4 h5
          go_wp2
          have hfree : wrap64 (a0 - (rs.length : Int)) = wrap64 (a0 - (rs.length : Int)) := rfl
          go_loopg [13] a0.toNat (fun kq v13 w' => ∃ (m : Nat) (iv : Int) (vr vw : Value) (rs4 ws4 : List Int), Hid (iv = (m : Int) - 1 ∧ m ≤ kq ∧ m ≤ 1000) ∧ v13 = .int .i64 iv ∧ Aside0 (sol2 k m rs4 ws4 = some (rs3, ws3)) ∧ Aside0 (PS w.heap.size w.heap.size vr vw rs4 ws4 w') ∧ Aside0 (Below w.heap.size w w'))
          case atStart => exact ⟨a0.toNat, a0 - 1, _, _, _, _, ⟨by omega, by omega, by omega⟩, by first | rfl | go_num, H4, HS, HB⟩
          case round =>
            clear HB HS hz0
            obtain ⟨m, iv, vr, vw, rs4, ws4, HM, rfl, HA, HS, HB⟩ := hrel
            by_cases h0 : 0 ≤ iv
            · obtain ⟨m, rfl⟩ : ∃ z, m = z + 1 := ⟨m - 1, by have := HM.out; omega⟩
              have hmi : ((m : Nat) : Int) = iv := by have := HM.out; omega
              have H := HA.out
              rw [sol2, hmi] at H
              have hsh : shl .i64 1 iv = wrap64 (2 ^ min iv.toNat 64) := by simp [shl, i64_w]; rfl
              rw [hsh] at H
              have d0 : decide (0 ≤ iv) = true := decide_eq_true h0
              replace H := Option.bind_eq_some_iff.mp H
              obtain ⟨⟨q, rs5, ws5⟩, A3, H⟩ := H
              dsimp only at H
              have hcall := Aside0.mk (spec_put.calls k w.heap.size vr vw rs4 ws4 _ 0 q rs5 ws5 w wr HB.out HS.out A3)
              clear A3 HA hsh hmi
              cases q with
              | true =>
                rw [if_pos rfl] at H
                replace H := Aside0.mk H
                go_wp2_with (go_at_call 94; refine hcall.out.mono ?_; rintro e w2 ⟨rfl, ⟨vr2, vw2, hS2⟩, hB2, hK2⟩; have HS2 := Aside0.mk hS2; have HB2 := Aside0.mk hB2; clear hS2 hB2 hK2)
                go_roundg m
                case measure => have := HM.out; omega
                case rel => obtain ⟨hiv_, _, hmx_⟩ := HM.out; exact ⟨m, iv - 1, _, _, _, _, ⟨by have := HM.out; omega, Nat.le_refl _, by have := HM.out; omega⟩, congrArg (Value.int .i64) (by unfold wrap64; omega), H, HS2, HB2⟩
              | false =>
                rw [if_neg (by simp)] at H
                replace H := Option.bind_eq_some_iff.mp H
                obtain ⟨⟨q2, rs6, ws6⟩, A4, H⟩ := H
                dsimp only at H
                replace H := Aside0.mk H
                have hcall2 := Aside0.mk (fun (W : World) (vr vw : Value) (hB : Below w.heap.size w W) (hS : PS w.heap.size w.heap.size vr vw rs5 ws5 W) => spec_put.calls k w.heap.size vr vw rs5 ws5 _ 1 q2 rs6 ws6 w W hB hS A4)
                clear A4
                go_wp2_with (first
                  | (go_at_call 94; with_reducible refine hcall.out.mono ?_; rintro e w2 ⟨rfl, ⟨vr2, vw2, hS2⟩, hB2, hK2⟩; have HS2 := Aside0.mk hS2; have HB2 := Aside0.mk hB2; clear hS2 hB2 hK2)
                  | (go_at_call 94; refine (hcall2.out _ _ _ HB2.out HS2.out).mono ?_; rintro e w3 ⟨rfl, ⟨vr3, vw3, hS3⟩, hB3, hK3⟩; have HS3 := Aside0.mk hS3; have HB3 := Aside0.mk hB3; clear hS3 hB3 hK3))
                go_roundg m
                case measure => have := HM.out; omega
                case rel => obtain ⟨hiv_, _, hmx_⟩ := HM.out; exact ⟨m, iv - 1, _, _, _, _, ⟨by have := HM.out; omega, Nat.le_refl _, by have := HM.out; omega⟩, congrArg (Value.int .i64) (by unfold wrap64; omega), H, HS3, HB3⟩
            · obtain rfl : m = 0 := by have := HM.out; omega
              have H := HA.out
              rw [sol2] at H
              injection H with H
              injection H with h1 h2
              subst h1 h2
              have d0 : decide (0 ≤ iv) = false := decide_eq_false h0
              clear HA
              have hza0 := HS
              obtain ⟨Ar, cr, rfl⟩ := Kd.R_slice HS.out.R
              obtain ⟨Aw, cw, rfl⟩ := Kd.R_slice HS.out.X
              have H4 := Aside0.mk True.intro
              clear hza0
              go_wp2
              go_loopg [14, 15] a0.toNat (fun kq v14 v15 w' => ∃ (i : Nat) (st : Int), Hid ((i : Int) ≤ a0 ∧ a0.toNat - i ≤ kq) ∧ v14 = .int .i64 st ∧ v15 = .int .i64 (i : Int) ∧ Aside0 (sol3 k rs4 ws4 (a0.toNat - i) i st = some set) ∧ Aside0 (PS w.heap.size w.heap.size (.slice Ar rs4.length cr) (.slice Aw ws4.length cw) rs4 ws4 w') ∧ Aside0 (Below w.heap.size w w'))
              case atStart => exact ⟨0, 0, ⟨by omega, by omega⟩, by first | rfl | go_num, by first | rfl | go_num, H5, HS, HB⟩
              case round =>
                clear HB HS H5
                obtain ⟨i, st, HM, rfl, rfl, HA, HS, HB⟩ := hrel
                by_cases h1 : (i : Int) < a0
                · have H := HA.out
                  rw [show a0.toNat - i = (a0.toNat - (i + 1)) + 1 by omega, sol3] at H
                  have hsh : shl .i64 1 (i : Int) = wrap64 (2 ^ min i 64) := by simp [shl, i64_w]; rfl
                  rw [hsh] at H
                  replace H := Option.bind_eq_some_iff.mp H
                  obtain ⟨⟨q, rs5, ws5⟩, A3, H⟩ := H
                  dsimp only at H
                  have HR0 := Aside0.mk (Kd.R_reads' HS.out.R).2.2
                  have HR1 := Aside0.mk (Kd.R_reads' HS.out.X).2.2
                  have HC0 := Aside0.mk (Kd.R_reads' HS.out.R).2.1
                  have HC1 := Aside0.mk (Kd.R_reads' HS.out.X).2.1
                  have BK138 := Aside0.mk HS.out.b
                  have HB0 := HB
                  have HS0 := HS
                  clear HB HS
                  have HB := Aside0.mk (Below.refl wr.heap.size wr)
                  obtain ⟨y139, hy139⟩ : ∃ y_ : List Int, y_ = (([] : List Int)) := ⟨_, rfl⟩
                  have Ny139 := Aside0.mk hy139
                  have LMc3 := Aside0.mk (show y139.length + rs4.length < 17592186044416 by rw [hy139, List.length_nil]; omega)
                  clear hy139
                  obtain ⟨y142, hy142⟩ : ∃ y_ : List Int, y_ = (y139 ++ rs4) := ⟨_, rfl⟩
                  have Ny142 := Aside0.mk hy142
                  clear hy142
                  obtain ⟨y145, hy145⟩ : ∃ y_ : List Int, y_ = (([] : List Int)) := ⟨_, rfl⟩
                  have Ny145 := Aside0.mk hy145
                  have LMc4 := Aside0.mk (show y145.length + ws4.length < 17592186044416 by rw [hy145, List.length_nil]; omega)
                  clear hy145
                  obtain ⟨y148, hy148⟩ : ∃ y_ : List Int, y_ = (y145 ++ ws4) := ⟨_, rfl⟩
                  have Ny148 := Aside0.mk hy148
                  clear hy148
                  have A3 := Aside0.mk A3
                  have H := Aside0.mk H
                  go_wp2
                  have HGB := Hid.mk (show ∃ z, z = w.heap.size from ⟨_, rfl⟩)
                  obtain ⟨gb138, hgb⟩ : ∃ z, z = w.heap.size := ⟨_, rfl⟩
                  rw [← hgb] at BK138 ⊢
                  have HGB := Aside0.mk hgb
                  clear hgb
                  have n0_ := Aside0.mk (blk_drew BK138.out)
                  have n1_ := Aside0.mk (below_drew1 HB.out)
                  clear BK138
                  clear HB
                  have BK138 := n0_
                  have HB := n1_
                  clear n0_ n1_
                  refine start_ (n := 15) (S := fun w' => w'.cell? ⟨gb138, 0, none⟩ = some (.slice Ar rs4.length cr) ∧ w'.cell? ⟨gb138, 1, none⟩ = some (.slice Aw ws4.length cw)) (ds := []) #[false, false, false, false, false, false, false, false, false, false, false, false, false, false, false] (by kernel_rfl) rfl rfl ⟨(blk_cell BK138.out 0).trans rfl, (blk_cell BK138.out 1).trans rfl⟩ (fun hHeld => ?_); refine with_tabW spec_paSolutions.tab18 spec_paSolutions.bits18 (fun HT_ HW_ => ?_)
                  generalize wr.drew = w6 at BK138 HB hHeld ⊢
                  refine pure_ (i := 1) (N := some 63) (v := ?_) (a' := ?_) #[false, true, false, false, false, false, false, false, false, false, false, false, false, false, false] rfl rfl (any_of HT_.out (by kernel_rfl)) (fun _ _ _ h => h) (Or.inl ⟨by rfl, ?_⟩) ?_ ?_
                  rotate_left
                  · intro w'
                    go_simp
                    with_reducible rfl
                  rotate_left
                  · simp only [Act.put, List.setIfInBounds_toArray, List.set_cons_zero, List.set_cons_succ, i64_w, i32_w]
                    rfl
                  refine pure_ (i := 2) (N := some 64) (v := ?_) (a' := ?_) #[false, true, true, false, false, false, false, false, false, false, false, false, false, false, false] rfl rfl (any_of HT_.out (by kernel_rfl)) (fun _ _ _ h => h) (Or.inl ⟨by rfl, ?_⟩) ?_ ?_
                  rotate_left
                  · intro w'
                    go_simp
                    with_reducible rfl
                  rotate_left
                  · simp only [Act.put, List.setIfInBounds_toArray, List.set_cons_zero, List.set_cons_succ, i64_w, i32_w]
                    rfl
                  refine pure_ (i := 3) (N := some 65) (v := ?_) (a' := ?_) #[false, true, true, true, false, false, false, false, false, false, false, false, false, false, false] rfl rfl (any_of HT_.out (by kernel_rfl)) (fun _ _ _ h => h) (Or.inl ⟨by rfl, ?_⟩) ?_ ?_
                  rotate_left
                  · intro w'
                    go_simp
                    with_reducible rfl
                  rotate_left
                  · simp only [Act.put, List.setIfInBounds_toArray, List.set_cons_zero, List.set_cons_succ, i64_w, i32_w]
                    rfl
                  refine pure_ (i := 7) (N := some 69) (v := ?_) (a' := ?_) #[false, true, true, true, false, false, false, true, false, false, false, false, false, false, false] rfl rfl (any_of HT_.out (by kernel_rfl)) (fun _ _ _ h => h) (Or.inl ⟨by rfl, ?_⟩) ?_ ?_
                  rotate_left
                  · intro w'
                    go_simp
                    with_reducible rfl
                  rotate_left
                  · simp only [Act.put, List.setIfInBounds_toArray, List.set_cons_zero, List.set_cons_succ, i64_w, i32_w]
                    rfl
                  refine pure_ (i := 8) (N := some 70) (v := ?_) (a' := ?_) #[false, true, true, true, false, false, false, true, true, false, false, false, false, false, false] rfl rfl (any_of HT_.out (by kernel_rfl)) (fun _ _ _ h => h) (Or.inl ⟨by rfl, ?_⟩) ?_ ?_
                  rotate_left
                  · intro w'
                    go_simp
                    with_reducible rfl
                  rotate_left
                  · simp only [Act.put, List.setIfInBounds_toArray, List.set_cons_zero, List.set_cons_succ, i64_w, i32_w]
                    rfl
                  refine pure_ (i := 9) (N := some 71) (v := ?_) (a' := ?_) #[false, true, true, true, false, false, false, true, true, true, false, false, false, false, false] rfl rfl (any_of HT_.out (by kernel_rfl)) (fun _ _ _ h => h) (Or.inl ⟨by rfl, ?_⟩) ?_ ?_
                  rotate_left
                  · intro w'
                    go_simp
                    with_reducible rfl
                  rotate_left
                  · simp only [Act.put, List.setIfInBounds_toArray, List.set_cons_zero, List.set_cons_succ, i64_w, i32_w]
                    rfl
                  refine take_ (i := 4) (N := some 66) (v := ?_) (a' := ?_) #[false, true, true, true, true, false, false, true, true, true, false, false, false, false, false] rfl rfl (take_ofW HT_.out HW_.out (by kernel_rfl)) (fun _ _ _ h => h) (Or.inl ⟨by rfl, ?_⟩) hHeld ?_ ?_
                  rotate_left
                  · rintro w' ⟨s0, s1⟩
                    go_simp
                    with_reducible rfl
                  rotate_left
                  · simp only [Act.put, List.setIfInBounds_toArray, List.set_cons_zero, List.set_cons_succ, i64_w, i32_w]
                    rfl
                  refine take_ (i := 10) (N := some 72) (v := ?_) (a' := ?_) #[false, true, true, true, true, false, false, true, true, true, true, false, false, false, false] rfl rfl (take_ofW HT_.out HW_.out (by kernel_rfl)) (fun _ _ _ h => h) (Or.inl ⟨by rfl, ?_⟩) hHeld ?_ ?_
                  rotate_left
                  · rintro w' ⟨s0, s1⟩
                    go_simp
                    with_reducible rfl
                  rotate_left
                  · simp only [Act.put, List.setIfInBounds_toArray, List.set_cons_zero, List.set_cons_succ, i64_w, i32_w]
                    rfl
                  refine join_ (σ := Value × Value × Value) 4 #[true, true, true, true, true, true, true, true, true, true, true, false, false, false, false] (fun s_ => [(62, s_.1), (67, s_.2.1), (68, s_.2.2)]) (fun s_ w' => (w'.cell? ⟨gb138, 0, none⟩ = some (.slice Ar rs4.length cr) ∧ w'.cell? ⟨gb138, 1, none⟩ = some (.slice Aw ws4.length cw)) ∧ (Kd.R (Kd.int .i64) 3 w' wr.heap.size (fun k_ => some k_ ≠ (s_.2.2 : Value).ownBlock) s_.2.1 y142) ∧ (Kd.R (Kd.int .i64) 3 w' wr.heap.size (fun k_ => some k_ ≠ (s_.2.1 : Value).ownBlock) s_.2.2 y145) ∧ (w'.heap[gb138]? = some (.cells #[.slice Ar rs4.length cr, .slice Aw ws4.length cw] 87 (0, 0))) ∧ (Below wr.heap.size wr w')) ?_ ?_
                  rotate_left
                  · intro hCont
                    refine two_ (i := 0) (j := 6) (Ni := some 62) (Nj := some 68) #[true, true, true, true, true, false, false, true, true, true, true, false, false, false, false] #[false, true, true, true, true, false, true, true, true, true, true, false, false, false, false] rfl rfl rfl rfl (two_of HT_.out (by kernel_rfl)) (by decide) (by decide) (fun K hK => ?_) (fun K hK => ?_)
                    · skip
                      refine Kd.R_lit_step (Kd.int .i64) _ 3 ?hg (N := 62) ?hd (xs := ([] : List Int)) (inner := []) (ok := fun _ => True) (okp := fun _ => True) ?hr ?hp (fun _ hk => hk) trivial (Below.refl _ _) (Nat.le_refl _) (by simp) ?_; (case hd => rfl); (case hg => rfl); (case hr => first | (go_simp; done) | (go_simp; rfl)); (case hp => exact (Reps.none _ _))
                      intro v140 w7 ho8 hb hg_ hnew_
                      clear hg_ hnew_
                      (first | rw [← Ny139.out] at ho8 | (simp only [Int.reduceToNat] at ho8; rw [← Ny139.out] at ho8))
                      have n0_ := Aside0.mk (Kd.R_lower ho8 (below_size (by repeat (first | (with_reducible first | exact HB.out | apply below_alloc | apply pw_below_drewN | apply below_drew1 | refine below_set ?_ GE138.out) | exact HB.out))))
                      have n1_ := Aside0.mk (blk_below (g := gb138) (o := .cells #[.slice Ar rs4.length cr, .slice Aw ws4.length cw] 87 (0, 0)) (by (with_reducible repeat (first | refine blk_drewN ?_ _ | refine blk_drew ?_ | refine blk_alloc ?_ _)); exact BK138.out) hb)
                      have n2_ := Aside0.mk (below_step (by repeat (first | (with_reducible first | exact HB.out | apply below_alloc | apply pw_below_drewN | apply below_drew1 | refine below_set ?_ GE138.out) | exact HB.out)) hb)
                      clear BK138
                      clear HB
                      have HO141 := n0_
                      have BK138 := n1_
                      have HB := n2_
                      clear n0_ n1_ n2_
                      clear hb ho8
                      refine hK.out _ _ ⟨(blk_cell BK138.out 0).trans rfl, (blk_cell BK138.out 1).trans rfl⟩ (fun hHeld => ?_)
                      clear hK K
                      refine norm_ (a' := ?_) ?_ ?_
                      rotate_left
                      · show Act.put _ (some 62) _ = _
                        simp only [Act.put, List.setIfInBounds_toArray, List.set_cons_zero, List.set_cons_succ, i64_w, i32_w]
                        rfl
                      refine two_ (i := 5) (j := 6) (Ni := some 67) (Nj := some 68) #[true, true, true, true, true, true, false, true, true, true, true, false, false, false, false] #[true, true, true, true, true, false, true, true, true, true, true, false, false, false, false] rfl rfl rfl rfl (two_of HT_.out (by kernel_rfl)) (by decide) (by decide) (fun K hK => ?_) (fun K hK => ?_)
                      · skip
                        refine Kd.R_append_rows_step (Kd.int .i64) (w0 := wr) wr.heap.size (by rfl) (.tmp 62) (.tmp 66) 22 3 (.int .i64 0) 8 rfl Try.underlying22 info3 rfl (by decide) (by omega) v140 y139 rs4 _ _ _ (fun _ => True) (fun _ => False) rfl rfl ?aO ?aR (fun _ _ h => h) (fun _ h => h.elim) ?aF ?aB ?aS ?aL ?_
                        (case aR => repeat (first | exact (Kd.C_below HR0.out HB.out) | (with_reducible refine Kd.C_alloc ?_ _) | (with_reducible refine Kd.C_drewN ?_ _) | (with_reducible refine Kd.C_drew ?_)))
                        (case aB => exact (by repeat (first | (with_reducible first | exact HB.out | apply below_alloc | apply pw_below_drewN | apply below_drew1 | refine below_set ?_ GE138.out) | exact HB.out)))
                        (case aF => exact (fun _ _ => trivial))
                        (case aO => exact (by (with_reducible repeat (first | apply Kd.R_alloc | apply Kd.R_drewN | apply Kd.R_drew)); exact HO141.out))
                        (case aS => exact (below_size (by repeat (first | (with_reducible first | exact HB.out | apply below_alloc | apply pw_below_drewN | apply below_drew1 | refine below_set ?_ GE138.out) | exact HB.out))))
                        (case aL => have := LMc3.out; omega)
                        intro v143 w9 ho hb hg hat
                        rw [← Ny142.out] at ho
                        have n0_ := Aside0.mk (blk_grown (g := gb138) (o := .cells #[.slice Ar rs4.length cr, .slice Aw ws4.length cw] 87 (0, 0)) (by (with_reducible repeat (first | refine blk_drewN ?_ _ | refine blk_drew ?_ | refine blk_alloc ?_ _)); exact BK138.out) hg (Kd.R_ne HO141.out BK138.out (by decide)))
                        have n1_ := Aside0.mk (hb)
                        have n2_ := Aside0.mk (ho)
                        clear BK138
                        clear HB
                        clear HO141
                        have BK138 := n0_
                        have HB := n1_
                        have HO144 := n2_
                        clear n0_ n1_ n2_
                        clear ho hb hg hat
                        refine hK.out _ _ ⟨(blk_cell BK138.out 0).trans rfl, (blk_cell BK138.out 1).trans rfl⟩ (fun hHeld => ?_)
                        clear hK K
                        refine norm_ (a' := ?_) ?_ ?_
                        rotate_left
                        · show Act.put _ (some 67) _ = _
                          simp only [Act.put, List.setIfInBounds_toArray, List.set_cons_zero, List.set_cons_succ, i64_w, i32_w]
                          rfl
                        refine one_ (i := 6) (N := some 68) #[true, true, true, true, true, true, true, true, true, true, true, false, false, false, false] rfl rfl (one_of HT_.out (by kernel_rfl)) (by decide) (fun K hK => ?_)
                        refine Kd.R_lit_step (Kd.int .i64) _ 3 ?hg (N := 68) ?hd (xs := ([] : List Int)) (inner := []) (ok := fun _ => True) (okp := fun _ => True) ?hr ?hp (fun _ hk => hk) trivial (Below.refl _ _) (Nat.le_refl _) (by simp) ?_; (case hd => rfl); (case hg => rfl); (case hr => first | (go_simp; done) | (go_simp; rfl)); (case hp => exact (Reps.none _ _))
                        intro v146 w10 ho11 hb hg_ hnew_
                        clear hg_ hnew_
                        (first | rw [← Ny145.out] at ho11 | (simp only [Int.reduceToNat] at ho11; rw [← Ny145.out] at ho11))
                        have n0_ := Aside0.mk (Kd.R_elder' (by (with_reducible repeat (first | apply Kd.R_alloc | apply Kd.R_drewN | apply Kd.R_drew)); exact HO144.out) (Kd.R_base ho11) hb)
                        have n1_ := Aside0.mk (Kd.R_lower (Kd.R_new' ho11 (Kd.R_lt (by (with_reducible repeat (first | apply Kd.R_alloc | apply Kd.R_drewN | apply Kd.R_drew)); exact HO144.out))) (below_size (by repeat (first | (with_reducible first | exact HB.out | apply below_alloc | apply pw_below_drewN | apply below_drew1 | refine below_set ?_ GE138.out) | exact HB.out))))
                        have n2_ := Aside0.mk (blk_below (g := gb138) (o := .cells #[.slice Ar rs4.length cr, .slice Aw ws4.length cw] 87 (0, 0)) (by (with_reducible repeat (first | refine blk_drewN ?_ _ | refine blk_drew ?_ | refine blk_alloc ?_ _)); exact BK138.out) hb)
                        have n3_ := Aside0.mk (below_step (by repeat (first | (with_reducible first | exact HB.out | apply below_alloc | apply pw_below_drewN | apply below_drew1 | refine below_set ?_ GE138.out) | exact HB.out)) hb)
                        clear HO144
                        clear BK138
                        clear HB
                        have HO144 := n0_
                        have HO147 := n1_
                        have BK138 := n2_
                        have HB := n3_
                        clear n0_ n1_ n2_ n3_
                        clear hb ho11
                        refine hK.out _ _ ⟨(blk_cell BK138.out 0).trans rfl, (blk_cell BK138.out 1).trans rfl⟩ (fun hHeld => ?_)
                        clear hK K
                        refine norm_ (a' := ?_) ?_ ?_
                        rotate_left
                        · show Act.put _ (some 68) _ = _
                          simp only [Act.put, List.setIfInBounds_toArray, List.set_cons_zero, List.set_cons_succ, i64_w, i32_w]
                          rfl
                        exact norm_ (by simp only [putAll, Act.put, List.setIfInBounds_toArray, List.set_cons_zero, List.set_cons_succ]) (hCont (v140, v143, v146) _ ⟨hHeld, (by (with_reducible repeat (first | apply Kd.R_alloc | apply Kd.R_drewN | apply Kd.R_drew)); exact Kd.R_mono HO144.out (fun _ hk => hk.2)), (by (with_reducible repeat (first | apply Kd.R_alloc | apply Kd.R_drewN | apply Kd.R_drew)); exact Kd.R_mono HO147.out (fun _ hk => hk.2)), (by (with_reducible repeat (first | refine blk_drewN ?_ _ | refine blk_drew ?_ | refine blk_alloc ?_ _)); exact BK138.out), (by repeat (first | (with_reducible first | exact HB.out | apply below_alloc | apply pw_below_drewN | apply below_drew1 | refine below_set ?_ GE138.out) | exact HB.out))⟩)
                      · skip
                        refine Kd.R_lit_step (Kd.int .i64) _ 3 ?hg (N := 68) ?hd (xs := ([] : List Int)) (inner := []) (ok := fun _ => True) (okp := fun _ => True) ?hr ?hp (fun _ hk => hk) trivial (Below.refl _ _) (Nat.le_refl _) (by simp) ?_; (case hd => rfl); (case hg => rfl); (case hr => first | (go_simp; done) | (go_simp; rfl)); (case hp => exact (Reps.none _ _))
                        intro v146 w9 ho10 hb hg_ hnew_
                        clear hg_ hnew_
                        (first | rw [← Ny145.out] at ho10 | (simp only [Int.reduceToNat] at ho10; rw [← Ny145.out] at ho10))
                        have n0_ := Aside0.mk (Kd.R_elder' (by (with_reducible repeat (first | apply Kd.R_alloc | apply Kd.R_drewN | apply Kd.R_drew)); exact HO141.out) (Kd.R_base ho10) hb)
                        have n1_ := Aside0.mk (Kd.R_lower (Kd.R_new' ho10 (Kd.R_lt (by (with_reducible repeat (first | apply Kd.R_alloc | apply Kd.R_drewN | apply Kd.R_drew)); exact HO141.out))) (below_size (by repeat (first | (with_reducible first | exact HB.out | apply below_alloc | apply pw_below_drewN | apply below_drew1 | refine below_set ?_ GE138.out) | exact HB.out))))
                        have n2_ := Aside0.mk (blk_below (g := gb138) (o := .cells #[.slice Ar rs4.length cr, .slice Aw ws4.length cw] 87 (0, 0)) (by (with_reducible repeat (first | refine blk_drewN ?_ _ | refine blk_drew ?_ | refine blk_alloc ?_ _)); exact BK138.out) hb)
                        have n3_ := Aside0.mk (below_step (by repeat (first | (with_reducible first | exact HB.out | apply below_alloc | apply pw_below_drewN | apply below_drew1 | refine below_set ?_ GE138.out) | exact HB.out)) hb)
                        clear HO141
                        clear BK138
                        clear HB
                        have HO141 := n0_
                        have HO147 := n1_
                        have BK138 := n2_
                        have HB := n3_
                        clear n0_ n1_ n2_ n3_
                        clear hb ho10
                        refine hK.out _ _ ⟨(blk_cell BK138.out 0).trans rfl, (blk_cell BK138.out 1).trans rfl⟩ (fun hHeld => ?_)
                        clear hK K
                        refine norm_ (a' := ?_) ?_ ?_
                        rotate_left
                        · show Act.put _ (some 68) _ = _
                          simp only [Act.put, List.setIfInBounds_toArray, List.set_cons_zero, List.set_cons_succ, i64_w, i32_w]
                          rfl
                        refine one_ (i := 5) (N := some 67) #[true, true, true, true, true, true, true, true, true, true, true, false, false, false, false] rfl rfl (one_of HT_.out (by kernel_rfl)) (by decide) (fun K hK => ?_)
                        refine Kd.R_append_rows_step (Kd.int .i64) (w0 := wr) wr.heap.size (by rfl) (.tmp 62) (.tmp 66) 22 3 (.int .i64 0) 8 rfl Try.underlying22 info3 rfl (by decide) (by omega) v140 y139 rs4 _ _ _ (fun k_ => some k_ ≠ (v146 : Value).ownBlock) (fun _ => False) rfl rfl ?aO ?aR (fun _ _ h => h) (fun _ h => h.elim) ?aF ?aB ?aS ?aL ?_
                        (case aR => repeat (first | exact (Kd.C_below HR0.out HB.out) | (with_reducible refine Kd.C_alloc ?_ _) | (with_reducible refine Kd.C_drewN ?_ _) | (with_reducible refine Kd.C_drew ?_)))
                        (case aB => exact (by repeat (first | (with_reducible first | exact HB.out | apply below_alloc | apply pw_below_drewN | apply below_drew1 | refine below_set ?_ GE138.out) | exact HB.out)))
                        (case aF => exact (fun k_ hk => Kd.fresh' (Kd.R_lt (by (with_reducible repeat (first | apply Kd.R_alloc | apply Kd.R_drewN | apply Kd.R_drew)); exact HO147.out)) k_ hk))
                        (case aO => exact (by (with_reducible repeat (first | apply Kd.R_alloc | apply Kd.R_drewN | apply Kd.R_drew)); exact Kd.R_mono HO141.out (fun _ hk => hk.2)))
                        (case aS => exact (below_size (by repeat (first | (with_reducible first | exact HB.out | apply below_alloc | apply pw_below_drewN | apply below_drew1 | refine below_set ?_ GE138.out) | exact HB.out))))
                        (case aL => have := LMc3.out; omega)
                        intro v143 w11 ho hb hg hat
                        rw [← Ny142.out] at ho
                        have n0_ := Aside0.mk (blk_grown (g := gb138) (o := .cells #[.slice Ar rs4.length cr, .slice Aw ws4.length cw] 87 (0, 0)) (by (with_reducible repeat (first | refine blk_drewN ?_ _ | refine blk_drew ?_ | refine blk_alloc ?_ _)); exact BK138.out) hg (Kd.R_ne HO141.out BK138.out (by decide)))
                        have n1_ := Aside0.mk (Kd.R_after (ok := (fun _ => True)) (by (with_reducible repeat (first | apply Kd.R_alloc | apply Kd.R_drewN | apply Kd.R_drew)); exact HO147.out) hg hat)
                        have n2_ := Aside0.mk (hb)
                        have n3_ := Aside0.mk (ho)
                        clear BK138
                        clear HO147
                        clear HB
                        clear HO141
                        have BK138 := n0_
                        have HO147 := n1_
                        have HB := n2_
                        have HO144 := n3_
                        clear n0_ n1_ n2_ n3_
                        clear ho hb hg hat
                        refine hK.out _ _ ⟨(blk_cell BK138.out 0).trans rfl, (blk_cell BK138.out 1).trans rfl⟩ (fun hHeld => ?_)
                        clear hK K
                        refine norm_ (a' := ?_) ?_ ?_
                        rotate_left
                        · show Act.put _ (some 67) _ = _
                          simp only [Act.put, List.setIfInBounds_toArray, List.set_cons_zero, List.set_cons_succ, i64_w, i32_w]
                          rfl
                        exact norm_ (by simp only [putAll, Act.put, List.setIfInBounds_toArray, List.set_cons_zero, List.set_cons_succ]) (hCont (v140, v143, v146) _ ⟨hHeld, (by (with_reducible repeat (first | apply Kd.R_alloc | apply Kd.R_drewN | apply Kd.R_drew)); exact HO144.out), (by (with_reducible repeat (first | apply Kd.R_alloc | apply Kd.R_drewN | apply Kd.R_drew)); exact Kd.R_mono HO147.out (fun _ hk => hk.2)), (by (with_reducible repeat (first | refine blk_drewN ?_ _ | refine blk_drew ?_ | refine blk_alloc ?_ _)); exact BK138.out), (by repeat (first | (with_reducible first | exact HB.out | apply below_alloc | apply pw_below_drewN | apply below_drew1 | refine below_set ?_ GE138.out) | exact HB.out))⟩)
                    · skip
                      refine Kd.R_lit_step (Kd.int .i64) _ 3 ?hg (N := 68) ?hd (xs := ([] : List Int)) (inner := []) (ok := fun _ => True) (okp := fun _ => True) ?hr ?hp (fun _ hk => hk) trivial (Below.refl _ _) (Nat.le_refl _) (by simp) ?_; (case hd => rfl); (case hg => rfl); (case hr => first | (go_simp; done) | (go_simp; rfl)); (case hp => exact (Reps.none _ _))
                      intro v146 w7 ho8 hb hg_ hnew_
                      clear hg_ hnew_
                      (first | rw [← Ny145.out] at ho8 | (simp only [Int.reduceToNat] at ho8; rw [← Ny145.out] at ho8))
                      have n0_ := Aside0.mk (Kd.R_lower ho8 (below_size (by repeat (first | (with_reducible first | exact HB.out | apply below_alloc | apply pw_below_drewN | apply below_drew1 | refine below_set ?_ GE138.out) | exact HB.out))))
                      have n1_ := Aside0.mk (blk_below (g := gb138) (o := .cells #[.slice Ar rs4.length cr, .slice Aw ws4.length cw] 87 (0, 0)) (by (with_reducible repeat (first | refine blk_drewN ?_ _ | refine blk_drew ?_ | refine blk_alloc ?_ _)); exact BK138.out) hb)
                      have n2_ := Aside0.mk (below_step (by repeat (first | (with_reducible first | exact HB.out | apply below_alloc | apply pw_below_drewN | apply below_drew1 | refine below_set ?_ GE138.out) | exact HB.out)) hb)
                      clear BK138
                      clear HB
                      have HO147 := n0_
                      have BK138 := n1_
                      have HB := n2_
                      clear n0_ n1_ n2_
                      clear hb ho8
                      refine hK.out _ _ ⟨(blk_cell BK138.out 0).trans rfl, (blk_cell BK138.out 1).trans rfl⟩ (fun hHeld => ?_)
                      clear hK K
                      refine norm_ (a' := ?_) ?_ ?_
                      rotate_left
                      · show Act.put _ (some 68) _ = _
                        simp only [Act.put, List.setIfInBounds_toArray, List.set_cons_zero, List.set_cons_succ, i64_w, i32_w]
                        rfl
                      refine one_ (i := 0) (N := some 62) #[true, true, true, true, true, false, true, true, true, true, true, false, false, false, false] rfl rfl (one_of HT_.out (by kernel_rfl)) (by decide) (fun K hK => ?_)
                      refine Kd.R_lit_step (Kd.int .i64) _ 3 ?hg (N := 62) ?hd (xs := ([] : List Int)) (inner := []) (ok := fun _ => True) (okp := fun _ => True) ?hr ?hp (fun _ hk => hk) trivial (Below.refl _ _) (Nat.le_refl _) (by simp) ?_; (case hd => rfl); (case hg => rfl); (case hr => first | (go_simp; done) | (go_simp; rfl)); (case hp => exact (Reps.none _ _))
                      intro v140 w9 ho10 hb hg_ hnew_
                      clear hg_ hnew_
                      (first | rw [← Ny139.out] at ho10 | (simp only [Int.reduceToNat] at ho10; rw [← Ny139.out] at ho10))
                      have n0_ := Aside0.mk (Kd.R_elder' (by (with_reducible repeat (first | apply Kd.R_alloc | apply Kd.R_drewN | apply Kd.R_drew)); exact HO147.out) (Kd.R_base ho10) hb)
                      have n1_ := Aside0.mk (Kd.R_lower (Kd.R_new' ho10 (Kd.R_lt (by (with_reducible repeat (first | apply Kd.R_alloc | apply Kd.R_drewN | apply Kd.R_drew)); exact HO147.out))) (below_size (by repeat (first | (with_reducible first | exact HB.out | apply below_alloc | apply pw_below_drewN | apply below_drew1 | refine below_set ?_ GE138.out) | exact HB.out))))
                      have n2_ := Aside0.mk (blk_below (g := gb138) (o := .cells #[.slice Ar rs4.length cr, .slice Aw ws4.length cw] 87 (0, 0)) (by (with_reducible repeat (first | refine blk_drewN ?_ _ | refine blk_drew ?_ | refine blk_alloc ?_ _)); exact BK138.out) hb)
                      have n3_ := Aside0.mk (below_step (by repeat (first | (with_reducible first | exact HB.out | apply below_alloc | apply pw_below_drewN | apply below_drew1 | refine below_set ?_ GE138.out) | exact HB.out)) hb)
                      clear HO147
                      clear BK138
                      clear HB
                      have HO147 := n0_
                      have HO141 := n1_
                      have BK138 := n2_
                      have HB := n3_
                      clear n0_ n1_ n2_ n3_
                      clear hb ho10
                      refine hK.out _ _ ⟨(blk_cell BK138.out 0).trans rfl, (blk_cell BK138.out 1).trans rfl⟩ (fun hHeld => ?_)
                      clear hK K
                      refine norm_ (a' := ?_) ?_ ?_
                      rotate_left
                      · show Act.put _ (some 62) _ = _
                        simp only [Act.put, List.setIfInBounds_toArray, List.set_cons_zero, List.set_cons_succ, i64_w, i32_w]
                        rfl
                      refine one_ (i := 5) (N := some 67) #[true, true, true, true, true, true, true, true, true, true, true, false, false, false, false] rfl rfl (one_of HT_.out (by kernel_rfl)) (by decide) (fun K hK => ?_)
                      refine Kd.R_append_rows_step (Kd.int .i64) (w0 := wr) wr.heap.size (by rfl) (.tmp 62) (.tmp 66) 22 3 (.int .i64 0) 8 rfl Try.underlying22 info3 rfl (by decide) (by omega) v140 y139 rs4 _ _ _ (fun k_ => some k_ ≠ (v146 : Value).ownBlock) (fun _ => False) rfl rfl ?aO ?aR (fun _ _ h => h) (fun _ h => h.elim) ?aF ?aB ?aS ?aL ?_
                      (case aR => repeat (first | exact (Kd.C_below HR0.out HB.out) | (with_reducible refine Kd.C_alloc ?_ _) | (with_reducible refine Kd.C_drewN ?_ _) | (with_reducible refine Kd.C_drew ?_)))
                      (case aB => exact (by repeat (first | (with_reducible first | exact HB.out | apply below_alloc | apply pw_below_drewN | apply below_drew1 | refine below_set ?_ GE138.out) | exact HB.out)))
                      (case aF => exact (fun k_ hk => Kd.fresh' (Kd.R_lt (by (with_reducible repeat (first | apply Kd.R_alloc | apply Kd.R_drewN | apply Kd.R_drew)); exact HO147.out)) k_ hk))
                      (case aO => exact (by (with_reducible repeat (first | apply Kd.R_alloc | apply Kd.R_drewN | apply Kd.R_drew)); exact Kd.R_mono HO141.out (fun _ hk => hk.2)))
                      (case aS => exact (below_size (by repeat (first | (with_reducible first | exact HB.out | apply below_alloc | apply pw_below_drewN | apply below_drew1 | refine below_set ?_ GE138.out) | exact HB.out))))
                      (case aL => have := LMc3.out; omega)
                      intro v143 w11 ho hb hg hat
                      rw [← Ny142.out] at ho
                      have n0_ := Aside0.mk (blk_grown (g := gb138) (o := .cells #[.slice Ar rs4.length cr, .slice Aw ws4.length cw] 87 (0, 0)) (by (with_reducible repeat (first | refine blk_drewN ?_ _ | refine blk_drew ?_ | refine blk_alloc ?_ _)); exact BK138.out) hg (Kd.R_ne HO141.out BK138.out (by decide)))
                      have n1_ := Aside0.mk (Kd.R_after (ok := (fun _ => True)) (by (with_reducible repeat (first | apply Kd.R_alloc | apply Kd.R_drewN | apply Kd.R_drew)); exact HO147.out) hg hat)
                      have n2_ := Aside0.mk (hb)
                      have n3_ := Aside0.mk (ho)
                      clear BK138
                      clear HO147
                      clear HB
                      clear HO141
                      have BK138 := n0_
                      have HO147 := n1_
                      have HB := n2_
                      have HO144 := n3_
                      clear n0_ n1_ n2_ n3_
                      clear ho hb hg hat
                      refine hK.out _ _ ⟨(blk_cell BK138.out 0).trans rfl, (blk_cell BK138.out 1).trans rfl⟩ (fun hHeld => ?_)
                      clear hK K
                      refine norm_ (a' := ?_) ?_ ?_
                      rotate_left
                      · show Act.put _ (some 67) _ = _
                        simp only [Act.put, List.setIfInBounds_toArray, List.set_cons_zero, List.set_cons_succ, i64_w, i32_w]
                        rfl
                      exact norm_ (by simp only [putAll, Act.put, List.setIfInBounds_toArray, List.set_cons_zero, List.set_cons_succ]) (hCont (v140, v143, v146) _ ⟨hHeld, (by (with_reducible repeat (first | apply Kd.R_alloc | apply Kd.R_drewN | apply Kd.R_drew)); exact HO144.out), (by (with_reducible repeat (first | apply Kd.R_alloc | apply Kd.R_drewN | apply Kd.R_drew)); exact Kd.R_mono HO147.out (fun _ hk => hk.2)), (by (with_reducible repeat (first | refine blk_drewN ?_ _ | refine blk_drew ?_ | refine blk_alloc ?_ _)); exact BK138.out), (by repeat (first | (with_reducible first | exact HB.out | apply below_alloc | apply pw_below_drewN | apply below_drew1 | refine below_set ?_ GE138.out) | exact HB.out))⟩)
                  rintro ⟨v140, v143, v146⟩ w12 ⟨hS_, h0_, h1_, h2_, h3_⟩
                  have n0_ : Aside0 (Kd.R (Kd.int .i64) 3 w12 wr.heap.size (fun k_ => some k_ ≠ (v146 : Value).ownBlock) v143 y142) := ⟨h0_⟩
                  have n1_ : Aside0 (Kd.R (Kd.int .i64) 3 w12 wr.heap.size (fun k_ => some k_ ≠ (v143 : Value).ownBlock) v146 y145) := ⟨h1_⟩
                  have n2_ : Aside0 (w12.heap[gb138]? = some (.cells #[.slice Ar rs4.length cr, .slice Aw ws4.length cw] 87 (0, 0))) := ⟨h2_⟩
                  have n3_ : Aside0 (Below wr.heap.size wr w12) := ⟨h3_⟩
                  clear BK138
                  clear HB
                  clear h0_ h1_ h2_ h3_
                  have HO144 := n0_
                  have HO147 := n1_
                  have BK138 := n2_
                  have HB := n3_
                  clear n0_ n1_ n2_ n3_
                  have hHeld : w12.cell? ⟨gb138, 0, none⟩ = some (.slice Ar rs4.length cr) ∧ w12.cell? ⟨gb138, 1, none⟩ = some (.slice Aw ws4.length cw) := hS_
                  refine norm_ (a' := ?_) ?_ ?_
                  rotate_left
                  · simp only [putAll, Act.put, List.setIfInBounds_toArray, List.set_cons_zero, List.set_cons_succ]
                    rfl
                  refine one_ (i := 11) (N := some 73) #[true, true, true, true, true, true, true, true, true, true, true, true, false, false, false] rfl rfl (one_of HT_.out (by kernel_rfl)) (by decide) (fun K hK => ?_)
                  refine Kd.R_append_rows_step (Kd.int .i64) (w0 := wr) wr.heap.size (by rfl) (.tmp 68) (.tmp 72) 22 3 (.int .i64 0) 8 rfl Try.underlying22 info3 rfl (by decide) (by omega) v146 y145 ws4 _ _ _ (fun k_ => some k_ ≠ (v143 : Value).ownBlock) (fun _ => False) rfl rfl ?aO ?aR (fun _ _ h => h) (fun _ h => h.elim) ?aF ?aB ?aS ?aL ?_
                  (case aR => repeat (first | exact (Kd.C_below HR1.out HB.out) | (with_reducible refine Kd.C_alloc ?_ _) | (with_reducible refine Kd.C_drewN ?_ _) | (with_reducible refine Kd.C_drew ?_)))
                  (case aB => exact (by repeat (first | (with_reducible first | exact HB.out | apply below_alloc | apply pw_below_drewN | apply below_drew1 | refine below_set ?_ GE138.out) | exact HB.out)))
                  (case aF => exact (fun k_ hk => Kd.fresh' (Kd.R_lt (by (with_reducible repeat (first | apply Kd.R_alloc | apply Kd.R_drewN | apply Kd.R_drew)); exact HO144.out)) k_ hk))
                  (case aO => exact (by (with_reducible repeat (first | apply Kd.R_alloc | apply Kd.R_drewN | apply Kd.R_drew)); exact HO147.out))
                  (case aS => exact (below_size (by repeat (first | (with_reducible first | exact HB.out | apply below_alloc | apply pw_below_drewN | apply below_drew1 | refine below_set ?_ GE138.out) | exact HB.out))))
                  (case aL => have := LMc4.out; omega)
                  intro v149 w13 ho hb hg hat
                  rw [← Ny148.out] at ho
                  have n0_ := Aside0.mk (blk_grown (g := gb138) (o := .cells #[.slice Ar rs4.length cr, .slice Aw ws4.length cw] 87 (0, 0)) (by (with_reducible repeat (first | refine blk_drewN ?_ _ | refine blk_drew ?_ | refine blk_alloc ?_ _)); exact BK138.out) hg (Kd.R_ne HO147.out BK138.out (by decide)))
                  have n1_ := Aside0.mk (Kd.R_after (ok := (fun _ => True)) (by (with_reducible repeat (first | apply Kd.R_alloc | apply Kd.R_drewN | apply Kd.R_drew)); exact Kd.R_mono HO144.out (fun _ hk => ⟨trivial, hk⟩)) hg hat)
                  have n2_ := Aside0.mk (hb)
                  have n3_ := Aside0.mk (ho)
                  clear BK138
                  clear HO144
                  clear HB
                  clear HO147
                  have BK138 := n0_
                  have HO144 := n1_
                  have HB := n2_
                  have HO150 := n3_
                  clear n0_ n1_ n2_ n3_
                  clear ho hb hg hat
                  obtain ⟨Ao14, co14, eo14⟩ := Kd.R_slice HO150.out
                  (first | subst eo14 | (injection eo14 with f1_ f2_ f3_; have f4_ := f1_.symm; have f5_ := f3_.symm; clear f1_ f2_ f3_; subst f4_; subst f5_))
                  obtain ⟨Ao15, co15, eo15⟩ := Kd.R_slice HO144.out
                  (first | subst eo15 | (injection eo15 with f1_ f2_ f3_; have f4_ := f1_.symm; have f5_ := f3_.symm; clear f1_ f2_ f3_; subst f4_; subst f5_))
                  refine hK.out _ _ ⟨(blk_cell BK138.out 0).trans rfl, (blk_cell BK138.out 1).trans rfl⟩ (fun hHeld => ?_)
                  clear hK K
                  refine norm_ (a' := ?_) ?_ ?_
                  rotate_left
                  · show Act.put _ (some 73) _ = _
                    simp only [Act.put, List.setIfInBounds_toArray, List.set_cons_zero, List.set_cons_succ, i64_w, i32_w]
                    rfl
                  refine pure_ (i := 12) (N := some 74) (v := ?_) (a' := ?_) #[true, true, true, true, true, true, true, true, true, true, true, true, true, false, false] rfl rfl (any_of HT_.out (by kernel_rfl)) (fun _ _ _ h => h) (Or.inl ⟨by rfl, ?_⟩) ?_ ?_
                  rotate_left
                  · intro w'
                    go_simp
                    with_reducible rfl
                  rotate_left
                  · simp only [Act.put, List.setIfInBounds_toArray, List.set_cons_zero, List.set_cons_succ, i64_w, i32_w]
                    rfl
                  refine one_ (i := 13) (N := some 75) #[true, true, true, true, true, true, true, true, true, true, true, true, true, true, false] rfl rfl (one_of HT_.out (by kernel_rfl)) (by decide) (fun K hK => ?_)
                  refine box_step ?hg (N := 75) ?hd (cs := #[.slice Ao15 y142.length co15, .slice Ao14 y148.length co14]) (t := 87) ?hr ?_; (case hd => rfl); (case hg => rfl); (case hr => first | (go_simp; done) | (go_simp; rfl))
                  intro gb151 hg w16 hbox hb
                  have n0_ := Aside0.mk (Kd.R_below (by (with_reducible repeat (first | apply Kd.R_alloc | apply Kd.R_drewN | apply Kd.R_drew)); exact HO144.out) hb)
                  have n1_ := Aside0.mk (Kd.R_below (by (with_reducible repeat (first | apply Kd.R_alloc | apply Kd.R_drewN | apply Kd.R_drew)); exact HO150.out) hb)
                  have n2_ := Aside0.mk (blk_below (g := gb138) (o := .cells #[.slice Ar rs4.length cr, .slice Aw ws4.length cw] 87 (0, 0)) (by (with_reducible repeat (first | refine blk_drewN ?_ _ | refine blk_drew ?_ | refine blk_alloc ?_ _)); exact BK138.out) hb)
                  have n3_ := Aside0.mk (below_step (by repeat (first | (with_reducible first | exact HB.out | apply below_alloc | apply pw_below_drewN | apply below_drew1 | refine below_set ?_ GE138.out) | exact HB.out)) hb)
                  have n4_ := Aside0.mk (hbox)
                  have n5_ := Aside0.mk ((by rw [hg]; exact (below_size (by repeat (first | (with_reducible first | exact HB.out | apply below_alloc | apply pw_below_drewN | apply below_drew1 | refine below_set ?_ GE138.out) | exact HB.out))) : wr.heap.size ≤ gb151))
                  have n6_ := Aside0.mk ((by rw [hg]; exact (below_size (by repeat (first | (with_reducible first | exact HB.out | apply below_alloc | apply pw_below_drewN | apply below_drew1 | refine below_set ?_ GE138.out) | exact HB.out))) : wr.heap.size ≤ gb151))
                  have n7_ := Aside0.mk ((by rw [hg]; exact Nat.ne_of_lt (blk_lt (g := gb138) (o := .cells #[.slice Ar rs4.length cr, .slice Aw ws4.length cw] 87 (0, 0)) (by (with_reducible repeat (first | refine blk_drewN ?_ _ | refine blk_drew ?_ | refine blk_alloc ?_ _)); exact BK138.out)) : gb138 ≠ gb151))
                  have n8_ := Aside0.mk ((by rw [hg]; exact Nat.ne_of_gt (blk_lt (g := gb138) (o := .cells #[.slice Ar rs4.length cr, .slice Aw ws4.length cw] 87 (0, 0)) (by (with_reducible repeat (first | refine blk_drewN ?_ _ | refine blk_drew ?_ | refine blk_alloc ?_ _)); exact BK138.out)) : gb151 ≠ gb138))
                  clear HO144
                  clear HO150
                  clear BK138
                  clear HB
                  have HO144 := n0_
                  have HO150 := n1_
                  have BK138 := n2_
                  have HB := n3_
                  have BK151 := n4_
                  have GW151 := n5_
                  have GE151 := n6_
                  have NB138_151 := n7_
                  have NB151_138 := n8_
                  clear n0_ n1_ n2_ n3_ n4_ n5_ n6_ n7_ n8_
                  clear hb hbox hg
                  refine hK.out _ _ ⟨(blk_cell BK138.out 0).trans rfl, (blk_cell BK138.out 1).trans rfl⟩ (fun hHeld => ?_)
                  clear hK K
                  refine norm_ (a' := ?_) ?_ ?_
                  rotate_left
                  · show Act.put _ (some 75) _ = _
                    simp only [Act.put, List.setIfInBounds_toArray, List.set_cons_zero, List.set_cons_succ, i64_w, i32_w]
                    rfl
                  refine pure_ (i := 14) (N := some 16) (v := ?_) (a' := ?_) #[true, true, true, true, true, true, true, true, true, true, true, true, true, true, true] rfl rfl (any_of HT_.out (by kernel_rfl)) (fun _ _ _ h => h) (Or.inl ⟨by rfl, ?_⟩) ?_ ?_
                  rotate_left
                  · intro w'
                    go_simp
                    with_reducible rfl
                  rotate_left
                  · simp only [Act.put, List.setIfInBounds_toArray, List.set_cons_zero, List.set_cons_succ, i64_w, i32_w]
                    rfl
                  refine done_ (done_of HT_.out (by kernel_rfl)) ?_
                  have hgb := HGB.out
                  subst hgb
                  have HT := Aside0.mk (show PS wr.heap.size gb151 (.slice Ao15 y142.length co15) (.slice Ao14 y148.length co14) y142 y148 w16 from ⟨BK151.out, GE151.out, Kd.R_tight rfl HO144.out, Kd.R_tight rfl HO150.out, fun k_ e1_ e2_ => (HO144.out.1 k_ e1_).2 e2_.symm⟩)
                  have hy1 : y142 = rs4 := by rw [Ny142.out, Ny139.out, List.nil_append]
                  have hy2 : y148 = ws4 := by rw [Ny148.out, Ny145.out, List.nil_append]
                  clear Ny142 Ny139 Ny148 Ny145 LMc3 LMc4
                  subst hy1 hy2
                  have hcall := Aside0.mk (spec_put.calls k gb151 _ _ _ _ _ 0 q rs5 ws5 wr w16 HB.out HT.out A3.out)
                  have H := H.out
                  clear hHeld HT HO144 HO150 BK138 BK151
                  cases q with
                  | true =>
                    rw [if_pos rfl] at H
                    replace H := Aside0.mk H
                    go_wp2_with (go_at_call 94; refine hcall.out.mono ?_; rintro e w17 ⟨rfl, -, hB2, -⟩; have HS2 := Aside0.mk (HS0.out.below hB2); have HB2 := Aside0.mk (below_step HB0.out hB2); clear hB2)
                    go_roundg (a0.toNat - (i + 1))
                    case measure => have := HM.out; omega
                    case rel => exact ⟨i + 1, _, ⟨by omega, Nat.le_refl _⟩, by first | rfl | go_num, by first | rfl | go_num, H, HS2, HB2⟩
                  | false =>
                    rw [if_neg (by simp)] at H
                    replace H := Aside0.mk H
                    go_wp2_with (go_at_call 94; refine hcall.out.mono ?_; rintro e w17 ⟨rfl, -, hB2, -⟩; have HS2 := Aside0.mk (HS0.out.below hB2); have HB2 := Aside0.mk (below_step HB0.out hB2); clear hB2)
                    go_roundg (a0.toNat - (i + 1))
                    case measure => have := HM.out; omega
                    case rel => exact ⟨i + 1, _, ⟨by omega, Nat.le_refl _⟩, by first | rfl | go_num, by first | rfl | go_num, H, HS2, HB2⟩
                · have hi : (i : Int) = a0 := by have := HM.out; omega
                  have H := HA.out
                  rw [show a0.toNat - i = 0 by omega, sol3] at H
                  injection H with H
                  subst H
                  have d1 : decide ((i : Int) < a0) = false := decide_eq_false h1
                  clear HA hi
                  go_wp2
                  refine bodyPost_ret (results_tmp3 rfl _ _ _) rfl ?_
                  exact ⟨by first | rfl | (simp; done), HB.out⟩
        · rw [if_neg hlen] at H2
          cases H2
  · rw [if_neg hn] at h
    cases h
def spec_paSolutions.f (a0 : Int) (l1 : List Int) (a2 : Int) : Option (Int × Int × Bool) := spec_paSolutions.fk 1000 a0 l1 a2
theorem spec_paSolutions.calls (a0 : Int) (A1 : Option Addr) (c1 : Nat) (l1 : List Int) (a2 : Int) (r1 r2 : Int) (r3 : Bool) (w : World) (hr1 : Kd.C (Kd.int .i64) w A1 l1.length l1) (hc1 : l1.length ≤ c1) (h : spec_paSolutions.f a0 l1 a2 = some (r1, r2, r3)) :
    Calls Try.prog 72 #[.int .i64 a0, .slice A1 l1.length c1, .int .i64 a2] w fun e w' => e = .returned (.tuple #[.int .i64 r1, .int .i64 r2, .bool r3]) ∧ Below w.heap.size w w' := spec_paSolutions.callsk 1000 a0 A1 c1 l1 a2 r1 r2 r3 w hr1 hc1 h
end

end Go.Proofs.Ytoobofnpdiapgaa.P
