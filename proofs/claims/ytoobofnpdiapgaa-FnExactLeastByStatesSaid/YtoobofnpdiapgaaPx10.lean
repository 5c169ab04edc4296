-- Written by a program of this session (wip/mp.py), which runs the kit's print with contracts of the session's own.
import Derived.Test.YtoobofnpdiapgaaPx0
import Derived.Test.YtoobofnpdiapgaaPx1
import Derived.Test.YtoobofnpdiapgaaPx8
import Derived.Test.YtoobofnpdiapgaaPx9
namespace Go.Proofs.Ytoobofnpdiapgaa.P
open Go.RowKit Go.Proofs.YtoobofnpdiapgaaW.PrintWords Go.Proofs.YtoobofnpdiapgaaW.PrintLast Go.Proofs.YtoobofnpdiapgaaW.PrintMore
attribute [local go_sem] max2_int min2_int max_two min_two max_three min_three max_four min_four   -- for this text's walks alone
set_option linter.unusedVariables false
set_option linter.unusedSimpArgs false
/-! ### impl_reduced: function 98 -/
-- BY HAND
section
open Go.Proofs.Ytoobofnpdiapgaa.Bk Go.Shelf
/-- The place of the greatest element. -/
def tpI (b : Int) : Int := (Go.Lib.bitLen b.toNat : Int) - 1
theorem bitLen_pos {n : Nat} (h0 : 0 < n) (h : n < 4611686018427387904) : 1 ≤ Go.Lib.bitLen n ∧ Go.Lib.bitLen n ≤ 62 := by
  refine ⟨?_, Go.Lib.bitLen_le n 62 (by omega) (by omega)⟩
  rw [Go.Lib.bitLen_half n (by omega) (by omega)]; omega
theorem top_good {b : Int} (h0 : 0 < b) (h : b < 4611686018427387904) : impl_top.f b = some (tpI b) ∧ 0 ≤ tpI b := by
  have hb := bitLen_pos (n := b.toNat) (by omega) (by omega)
  have e : IntKind.u64.wrap b = b := by simp [IntKind.wrap, IntKind.bits, IntKind.signed]; omega
  refine ⟨?_, by unfold tpI; omega⟩
  unfold impl_top.f bits_Len.f bits_Len64.f
  rw [e, if_pos (by omega)]
  simp only [Option.bind_some]
  unfold tpI wrap64
  congr 1; omega
def hasI (s t : Int) : Bool := (Go.bits .and .i64 (shr .i64 s t) 1) == 1
theorem has_good (s : Int) {t : Int} (h : 0 ≤ t) : impl_has.f s t = some (hasI s t) := by unfold impl_has.f hasI; rw [if_pos h]
def stepI (s b : Int) : Int := if hasI s (tpI b) = true then Go.bits .xor .i64 s b else s
def good (b : Int) : Bool := decide (0 < b) && decide (b < 4611686018427387904)
def impl_reduced.f (l : List Int) (a : Int) : Option Int := if l.all good = true ∧ l.length ≤ 1000000 then some (l.foldr (fun b s => stepI s b) a) else none
def sumB (a : Int) (pre : List (Nat × Gb)) : Int := pre.foldl (fun s x => stepI s x.2.1) a
theorem sumB_snoc (a : Int) (pre : List (Nat × Gb)) (x : Nat × Gb) : sumB a (pre ++ [x]) = stepI (sumB a pre) x.2.1 := by simp [sumB]
theorem sumB_all (a : Int) (zs : List Gb) : sumB a (dn zs zs.length) = (zs.map (·.1)).foldr (fun b s => stepI s b) a := by
  have h : sumB a (dn zs zs.length) = ((dn zs zs.length).map (·.2)).foldl (fun s x => stepI s x.1) a := by unfold sumB; rw [List.foldl_map]
  rw [h, dn_all, List.foldl_reverse, List.foldr_map]
theorem lift_good : ∀ (l : List Int), l.all good = true → ∃ zs : List Gb, zs.map (·.1) = l
  | [], _ => ⟨[], rfl⟩
  | b :: l, h => by
    simp only [List.all_cons, Bool.and_eq_true] at h
    obtain ⟨zs, e⟩ := lift_good l h.2
    have hb := h.1
    simp only [good, Bool.and_eq_true, decide_eq_true_eq] at hb
    exact ⟨⟨b, hb⟩ :: zs, by simp [e]⟩
theorem ints_of_C {w : World} {A : Option Addr} {n : Nat} {zs : List Gb} (h : Kd.C (Kd.int .i64) w A n (zs.map (·.1))) : Ints w.heap.size w A zs := by
  cases zs with
  | nil => exact .inl rfl
  | cons z zs =>
    refine .inr ?_
    have hn : n = (z :: zs).length := by have := h.1; simpa using this.symm
    obtain ⟨ad, rfl, hx⟩ := Kd.at_int h 0 (by omega) (by rw [hn]; simp)
    refine ⟨ad, rfl, ?_, fun j hj => ?_⟩
    · have := World.block_lt_of_cell? w _ hx
      rwa [Go.Proofs.Ytoobofnpdiapgaa.Bk.add_block] at this
    · obtain ⟨ad', e, hx⟩ := Kd.at_int h (j : Int) (by omega) (by rw [hn]; omega)
      injection e with e
      subst e
      rw [Int.toNat_natCast] at hx
      rw [hx, show rd (List.map (·.1) (z :: zs)) (j : Int) = (List.map (·.1) (z :: zs)).getD j 0 by simp [rd], List.getD_eq_getElem?_getD, List.getElem?_map, List.getElem?_eq_getElem hj]
      rfl
attribute [local go_sem] Oper.semAt_some in
set_option maxRecDepth 100000 in
set_option maxHeartbeats 4000000 in
theorem impl_reduced.calls (A0 : Option Addr) (c0 : Nat) (l0 : List Int) (a1 : Int) (r : Int) (w : World) (hr0 : Kd.C (Kd.int .i64) w A0 l0.length l0) (hc0 : l0.length ≤ c0) (h : impl_reduced.f l0 a1 = some r) :
    Calls Try.prog 98 #[.slice A0 l0.length c0, .int .i64 a1] w fun e w' => e = .returned (.int .i64 r) ∧ Below w.heap.size w w' := by
  unfold impl_reduced.f at h
  split at h
  · rename_i hg
    obtain ⟨hg, hm⟩ := hg
    obtain rfl := Option.some.inj h
    clear h
    obtain ⟨zs, rfl⟩ := lift_good l0 hg
    rw [← sumB_all]
    have hI := Hid.mk (ints_of_C hr0)
    simp only [List.length_map] at hm hc0 ⊢
    have HC := Hid.mk hm
    clear hr0 hg hm hc0
    refine (callsIn_wide (n := 4)).1 ?_
    refine callsIn_of_wp_marks Try.func98 rfl trivial ?_ rfl
    simp only [Try.ntmps98, List.size_toArray, List.length_cons, List.length_nil, Nat.reduceAdd, Nat.reduceSub, Array.replicate_succ, Array.replicate_zero, List.push_toArray, List.append_toArray, List.nil_append, List.cons_append]
    gi_wp2_with (refine ⟨trivial, ?_⟩; gi_at_call 120; refine (back_in Fence.wide _ trivial rfl _ _ _ _).mono ?_; rintro e w' ⟨rfl, rfl⟩)
    have bR : Boxed (w.alloc (.cells #[.int .i64 a1] 3)) w.heap.size 3 (.int .i64 a1) := Boxed.new w 3 _
    have bS : Boxed ((w.alloc (.cells #[.int .i64 a1] 3)).alloc (.cells #[.slice A0 zs.length c0] 22)) (w.heap.size + 1) 22 (.slice A0 zs.length c0) := by
      have := Boxed.new (w.alloc (.cells #[.int .i64 a1] 3)) 22 (.slice A0 zs.length c0)
      rwa [World.size_alloc] at this
    have hB0 : Below w.heap.size w ((w.alloc (.cells #[.int .i64 a1] 3)).alloc (.cells #[.slice A0 zs.length c0] 22)) := ((Below.refl _ w).alloc (Nat.le_refl _) _).alloc (by simp) _
    refine wpIn_rangeFunc_ownF rfl (by omega) (gf := 130) (lb := #[.pointer (some ⟨w.heap.size + 1, 0, none⟩)]) rfl trivial (enters_of Try.func130 (by kernel_rfl) rfl)
      (back_stops Fence.wide _ trivial rfl (by omega) (w.heap.size + 1) w.heap.size c0 A0 zs (by have := HC.out; omega) _ (by simp) (by simp; omega) bS.cell (hI.out.below hB0)) KB.trans (KB_b (by simp; omega) (by simp)) (Below.refl _ _) (fun _ => rfl)
      (fun pre W => (W.cell? ⟨w.heap.size, 0, none⟩ = some (.int .i64 (sumB a1 pre)) ∧ W.frozen? ⟨w.heap.size, 0, none⟩ = false) ∧ Below w.heap.size w W)
      (fun _ _ _ => False)
      (OwnFrom.and (Own.from (fun s A B row hs hg hr => ⟨cell_kept hs.1 hg hr, (frozen_kept hs.1 hg hr).trans hs.2⟩) _) (ownFrom_below (Nat.le_refl _) (by simp; omega)))
      (fun _ _ _ _ _ hs _ _ => hs)
      ⟨⟨(bR.alloc _).cell, (bR.alloc _).frozen⟩, hB0⟩
      (fun x => { tmps := #[.slice A0 zs.length c0, .int .i64 a1, undef, .pointer (some ⟨w.heap.size, 0, none⟩), .int .i64 0, undef, .int .i64 x.2.1, .slice A0 zs.length c0, .func (.func 130) #[] #[.pointer (some ⟨w.heap.size + 1, 0, none⟩)], .int .i64 (x.1 : Int), .int .i64 x.2.1, undef, undef, undef, undef, undef, undef, undef, undef], defers := [] }) ?assign ?body ?done ?stop
    case assign =>
      intro l x W K hK
      gi_wp2
      exact hK
    case body =>
      rintro l pre ⟨i, ⟨b, hb0, hb1⟩⟩ W ⟨⟨hc, hf⟩, hB⟩ _
      have hmx : Try.prog.follows .mixedOrders = true := by kernel_rfl
      have ht := top_good hb0 hb1
      have h1 := fun w => impl_top.calls b _ w ht.1
      have h2 := fun w => impl_has.calls (sumB a1 pre) (tpI b) _ w (has_good _ ht.2)
      have HN := Hid.mk (sumB_snoc a1 pre (i, ⟨b, hb0, hb1⟩))
      unfold stepI at HN
      dsimp only at HN ⊢
      generalize hs : sumB a1 pre = s at hc h2 HN
      generalize hp : tpI b = p at h1 h2 HN
      generalize hh : hasI s p = q at h2 HN
      clear ht hs hp hh bR bS hB0
      have kd : ∀ m, KeepsOthers W (W.drewN m) := fun m => ⟨Nat.le_refl _, fun _ _ h _ => h⟩
      have kb : ∀ m, KB w.heap.size (w.heap.size + 1) W (W.drewN m) := fun m => ⟨pw_below_drewN (Below.refl _ _) m, rfl⟩
      have hBd : ∀ m, Below w.heap.size w (W.drewN m) := fun m => pw_below_drewN hB m
      gi_wp2
      gi_region_with_o (first | (refine ⟨trivial, ?_⟩; gi_at_call 119; refine (CallsIn.inRound l (callsIn_wide.2 (h1 _))).mono ?_; rintro e w' ⟨rfl, ⟨nd, rfl⟩⟩) | (refine ⟨trivial, ?_⟩; gi_at_call 92; refine (CallsIn.inRound l (callsIn_wide.2 (h2 _))).mono ?_; rintro e w' ⟨rfl, ⟨nd2, rfl⟩⟩))
      all_goals
        cases q with
        | true =>
          gi_wp2
          exact ⟨(kd _).trans (KeepsOthers.setCell _ _ _), (kb _).trans ⟨(Below.refl w.heap.size _).setCell (p := ⟨w.heap.size, 0, none⟩) (Nat.le_refl _) _, Below.heap_setCell _ _ _ _ (by simp)⟩, ⟨by rw [HN.out]; exact World.cell?_setCell_same' _ _ _ (by rw [World.cell?_drewN, hc]; rfl), by rw [World.frozen?_setCell]; exact hf⟩, (hBd _).setCell (p := ⟨w.heap.size, 0, none⟩) (Nat.le_refl _) _⟩
        | false =>
          gi_wp2
          exact ⟨kd _, kb _, ⟨by rw [HN.out]; exact hc, hf⟩, hBd _⟩
    case done =>
      rintro D ys W hD rfl ⟨⟨hc, _⟩, hB⟩ hK
      gi_wp2
      refine ⟨by simp, .inl ⟨_, _, rfl, run_takeDeferred hK, ?_⟩⟩
      exact ⟨_, results_tmp rfl _ _ _, rfl, hB.trans (belowK_b (w := w) (Nat.le_refl _) W D _ _ (by simp at hD; omega) hK rfl rfl)⟩
    case stop =>
      rintro D c pre W _ _ h _
      exact h.elim
  · cases h
end
/-! ### impl_solver_reach: function 97 -/
-- BY HAND
section
open Go.Proofs.Ytoobofnpdiapgaa.Bk Go.Shelf
/-- The first place, from i on, at which p holds; -1 where there is none. -/
def idxQ {α : Type} (p : α → Bool) : List α → Nat → Int
  | [], _ => -1
  | x :: l, i => if p x = true then (i : Int) else idxQ p l (i + 1)
theorem idxQ_step {α : Type} (z : α) (p : α → Bool) (l : List α) (k : Nat) (h : k < l.length) : idxQ p (l.drop k) k = if p (l.getD k z) = true then (k : Int) else idxQ p (l.drop (k + 1)) (k + 1) := by
  rw [List.drop_eq_getElem_cons h]
  simp [idxQ, List.getD_eq_getElem?_getD, h]
theorem idxQ_end {α : Type} (p : α → Bool) (l : List α) : idxQ p (l.drop l.length) l.length = -1 := by simp [idxQ]
theorem idxQ_lt {α : Type} (p : α → Bool) : ∀ (l : List α) (i : Nat), -1 ≤ idxQ p l i ∧ idxQ p l i < (l.length + i : Nat)
  | [], i => by simp [idxQ]; omega
  | x :: l, i => by
    have := idxQ_lt p l (i + 1)
    rw [idxQ, List.length_cons]
    split <;> omega
abbrev pairK : Kd (Int × Int) := Kd.pair (Kd.int .i64) (Kd.int .i64)
theorem addr_add_add (ad : Addr) (a b : Nat) : (ad.add a).add b = ad.add (a + b) := by
  unfold Addr.add
  by_cases ha : a = 0
  · subst ha; simp
  · by_cases hb : b = 0
    · subst hb; simp
    · simp [ha, hb]; omega
theorem pair_at {w : World} {A : Option Addr} {n : Nat} {ps : List (Int × Int)} (h : pairK.C w A n ps) (i : Int) (h0 : 0 ≤ i) (h1 : i < n) :
    ∃ ad, A = some ad ∧ w.cell? (ad.add (i.toNat * 2)) = some (.int .i64 (ps.getD i.toNat (0, 0)).1) ∧ w.cell? ⟨(ad.add (i.toNat * 2)).block, (ad.add (i.toNat * 2)).off + 1, none⟩ = some (.int .i64 (ps.getD i.toNat (0, 0)).2) := by
  obtain ⟨ad, c, hA, hcl, hK, hc⟩ := Kd.C_get h (0, 0) i h0 h1
  obtain ⟨c0, c1, rfl, e0, e1⟩ := hK
  obtain rfl : c0 = _ := e0
  obtain rfl : c1 = _ := e1
  exact ⟨ad, hA, hc 0 _ rfl, by have h1 := hc 1 _ rfl; rw [show i.toNat * pairK.sz + 1 = i.toNat * 2 + 1 from rfl, ← addr_add_add] at h1; exact h1⟩
set_option maxHeartbeats 4000000 in
set_option maxRecDepth 100000 in
theorem slices_IndexFunc_pair.calls (g : Nat) (lb : Array Value) (p : Int × Int → Bool) (A0 : Option Addr) (c0 : Nat) (l0 : List (Int × Int)) (w : World)
    (hp : ∀ (W : World) (x : Int × Int), x ∈ l0 → Below w.heap.size w W → Calls Try.prog g (#[.agg #[.int .i64 x.1, .int .i64 x.2]] ++ lb) W fun e w' => e = .returned (.bool (p x)) ∧ Below W.heap.size W w')
    (eg : ∀ args w, (callFunc g args).run Try.prog w = .ok (.enter g args) w)
    (hr0 : pairK.C w A0 l0.length l0) :
    Calls Try.prog 117 #[.slice A0 l0.length c0, .func (.func g) #[] lb] w fun e w' => e = .returned (.int .i64 (idxQ p l0 0)) ∧ Below w.heap.size w w' := by
  have hm : l0.length ≤ 9223372036854775807 := hr0.2.1
  have HR0 := Aside0.mk hr0
  clear hr0
  go_enter Try.func117, Try.ntmps117
  go_wp2
  go_loopg [5, 8] l0.length (fun kq _ v8 w' => ∃ kk : Nat, kk ≤ l0.length ∧ l0.length - kk ≤ kq ∧ v8 = .int .i64 kk ∧ Aside0 (idxQ p l0 0 = idxQ p (l0.drop kk) kk) ∧ Aside0 (Below w.heap.size w w'))
  case atStart => exact ⟨0, Nat.zero_le _, by omega, rfl, ⟨rfl⟩, ⟨Below.refl _ _⟩⟩
  case round =>
    obtain ⟨kk, hkk, hg, rfl, HA, HB⟩ := hrel
    by_cases hlt : kk < l0.length
    · have hltz : (kk : Int) < (l0.length : Int) := by omega
      have hstep := idxQ_step (0, 0) p l0 kk hlt
      have p101 : 0 ≤ (kk : Int) := by omega
      obtain ⟨ad, e101, hx0, hx1⟩ := pair_at (Kd.C_below HR0.out HB.out) kk p101 hltz
      cases e101
      rw [Int.toNat_natCast] at hx0 hx1
      have hcall := hp wr (l0.getD kk (0, 0)) (by rw [List.getD_eq_getElem?_getD, List.getElem?_eq_getElem hlt]; exact List.getElem_mem hlt) HB.out
      generalize l0.getD kk (0, 0) = x at hcall hx0 hx1 hstep
      cases hq : p x with
      | true =>
        rw [hq] at hcall
        rw [hq, if_pos rfl] at hstep
        have HS := Aside0.mk (HA.out.trans hstep)
        clear hstep HA hq
        have HB2 := HB
        clear HB hp
        go_wp2_with (go_at_fn g; refine hcall.mono ?_; rintro e w' ⟨rfl, hb⟩)
        go_ret
        exact ⟨by first | (rw [HS.out]; done) | (rw [HS.out]; rfl), HB2.out.trans (hb.mono HB2.out.size)⟩
      | false =>
        rw [hq] at hcall
        rw [hq, if_neg (by simp)] at hstep
        have HS := Aside0.mk (HA.out.trans hstep)
        clear hstep HA hq
        have HB2 := HB
        clear HB hp
        go_wp2_with (go_at_fn g; refine hcall.mono ?_; rintro e w' ⟨rfl, hb⟩)
        go_roundg (l0.length - (kk + 1))
        case measure => omega
        case rel => exact ⟨kk + 1, by omega, by omega, by go_num, HS, ⟨HB2.out.trans (hb.mono HB2.out.size)⟩⟩
    · have hltz : ¬ (kk : Int) < (l0.length : Int) := by omega
      obtain rfl : kk = l0.length := by omega
      have HS := Aside0.mk (HA.out.trans (idxQ_end p l0))
      clear HA hp
      go_wp2
      go_ret
      exact ⟨by first | (rw [HS.out]; done) | (rw [HS.out]; rfl), HB.out⟩
attribute [local go_sem] Oper.semAt_some
theorem of_good {b : Int} (h : good b = true) : 0 < b ∧ b < 4611686018427387904 := by simpa [good] using h
set_option maxHeartbeats 4000000 in
set_option maxRecDepth 100000 in
theorem impl_reach_1.calls (B : Nat) (x y s : Int) (w : World) (hg : good x = true) (hs : good s = true) (hc : w.cell? ⟨B, 0, none⟩ = some (.int .i64 s)) :
    Calls Try.prog 118 #[.agg #[.int .i64 x, .int .i64 y], .pointer (some ⟨B, 0, none⟩)] w fun e w' => e = .returned (.bool (tpI x == tpI s)) ∧ Below w.heap.size w w' := by
  have h1 := fun w => impl_top.calls x _ w (top_good (of_good hg).1 (of_good hg).2).1
  have h2 := fun w => impl_top.calls s _ w (top_good (of_good hs).1 (of_good hs).2).1
  have hc' : (w.alloc (.cells #[.int .i64 x, .int .i64 y] 91)).cell? ⟨B, 0, none⟩ = some (.int .i64 s) := (((Below.refl w.heap.size w).alloc (Nat.le_refl _) _).cell (p := ⟨B, 0, none⟩) (World.block_lt_of_cell? w _ hc)).trans hc
  have hB0 : ∀ m, Below w.heap.size w ((w.alloc (.cells #[.int .i64 x, .int .i64 y] 91)).drewN m) := fun m => pw_below_drewN ((Below.refl _ w).alloc (Nat.le_refl _) _) m
  have hmx : Try.prog.follows .mixedOrders = true := by kernel_rfl
  generalize tpI x = px at h1 ⊢
  generalize tpI s = ps at h2 ⊢
  clear hg hs
  refine (callsIn_wide (n := 4)).1 ?_
  refine callsIn_of_wp Try.func118 rfl trivial ?_ rfl
  simp only [Try.ntmps118, List.size_toArray, List.length_cons, List.length_nil, Nat.reduceAdd, Nat.reduceSub, Array.replicate_succ, Array.replicate_zero, List.push_toArray, List.append_toArray, List.nil_append, List.cons_append]
  gi_wp2
  gi_region_with_o (first | (refine ⟨trivial, ?_⟩; gi_at_call 119; with_reducible refine (callsIn_wide.2 (h1 _)).mono ?_; rintro e w' ⟨rfl, ⟨nd, rfl⟩⟩) | (refine ⟨trivial, ?_⟩; gi_at_call 119; with_reducible refine (callsIn_wide.2 (h2 _)).mono ?_; rintro e w' ⟨rfl, ⟨nd2, rfl⟩⟩))
  all_goals gi_wp2
  all_goals (go_ret; exact ⟨rfl, hB0 _⟩)
/-- Pairs are added until nothing is left, or none fits. -/
def reachL (ps : List (Int × Int)) : Nat → Int → Int → Option (Int × Int)
  | 0, _, _ => none
  | k + 1, l, p => if l = 0 then some (l, p) else if good l = true ∧ (∀ x ∈ ps, good x.1 = true) then
      if idxQ (fun x => tpI x.1 == tpI l) ps 0 < 0 then some (l, p)
      else reachL ps k (Go.bits .xor .i64 l (ps.getD (idxQ (fun x => tpI x.1 == tpI l) ps 0).toNat (0, 0)).1) (Go.bits .xor .i64 p (ps.getD (idxQ (fun x => tpI x.1 == tpI l) ps 0).toNat (0, 0)).2)
    else none
set_option maxHeartbeats 4000000 in
set_option maxRecDepth 100000 in
theorem impl_reach.calls (k : Nat) (g : Nat) (vq vi : Value) (A : Option Addr) (c : Nat) (ps : List (Int × Int)) (l rl rp : Int) (w : World) (hb : w.heap[g]? = some (.cells #[.slice A ps.length c, vq, vi] 49 (0, 0))) (hr0 : pairK.C w A ps.length ps) (h : reachL ps k l 0 = some (rl, rp)) :
    Calls Try.prog 97 #[.pointer (some ⟨g, 0, none⟩), .int .i64 l] w fun e w' => e = .returned (.tuple #[.int .i64 rl, .int .i64 rp]) ∧ Below w.heap.size w w' := by
  have hm : ps.length ≤ 9223372036854775807 := hr0.2.1
  have hcg : ∀ W, Below w.heap.size w W → W.cell? ⟨g, 0, none⟩ = some (.slice A ps.length c) := fun W hW => by
    have hg := (Array.getElem?_eq_some_iff.1 hb).1
    refine (hW.cell (p := ⟨g, 0, none⟩) hg).trans ?_
    exact (blk_cell hb 0).trans rfl
  have HCG := Aside0.mk hcg
  have HR0 := Aside0.mk hr0
  have H := Aside0.mk h
  have eg := enters_of Try.func118 (by kernel_rfl) rfl
  have hmx : Try.prog.follows .mixedOrders = true := by kernel_rfl
  clear hr0 hb hcg h
  go_enter Try.func97, Try.ntmps97
  go_wp2
  go_loopg [6] k (fun kq v6 w' => ∃ (lq pq : Int), v6 = .int .i64 pq ∧ Aside0 (reachL ps kq lq pq = some (rl, rp)) ∧ Aside0 (w'.cell? ⟨w.heap.size, 0, none⟩ = some (.int .i64 lq) ∧ w'.frozen? ⟨w.heap.size, 0, none⟩ = false) ∧ Aside0 (Below w.heap.size w w'))
  case atStart => exact ⟨l, 0, by first | rfl | go_num, H, ⟨by simp, by simp⟩, ⟨(Below.refl _ w).alloc (Nat.le_refl _) _⟩⟩
  case round =>
    obtain ⟨lq, pq, rfl, HA, HC, HB⟩ := hrel
    cases gk with
    | zero => exact absurd HA.out (by simp [reachL])
    | succ k1 =>
      have H := HA.out
      clear HA
      rw [reachL] at H
      have hcb := HC.out.1
      have hfb := HC.out.2
      have hcg := HCG.out wr HB.out
      by_cases c0 : lq = 0
      · rw [if_pos c0] at H
        subst c0
        injection H with H
        injection H with h1 h2
        subst h1 h2
        go_wp2
        go_ret2
        exact ⟨by first | rfl | (simp; done), HB.out⟩
      · rw [if_neg c0] at H
        by_cases c1 : good lq = true ∧ (∀ x ∈ ps, good x.1 = true)
        · rw [if_pos c1] at H
          have hix := fun (W : World) (hW : Below wr.heap.size wr W) => slices_IndexFunc_pair.calls 118 #[.pointer (some ⟨w.heap.size, 0, none⟩)] (fun x => tpI x.1 == tpI lq) A c ps W
            (fun W' x hx hB => by
              have hW' := hW.trans (hB.mono hW.size)
              exact impl_reach_1.calls w.heap.size x.1 x.2 lq W' (c1.2 x hx) c1.1 ((hW'.cell (p := ⟨w.heap.size, 0, none⟩) (World.block_lt_of_cell? wr _ hcb)).trans hcb)) eg (Kd.C_below HR0.out (HB.out.trans (hW.mono HB.out.size)))
          have HI := Aside0.mk hix
          have hlim := idxQ_lt (fun x => tpI x.1 == tpI lq) ps 0
          generalize hi : idxQ (fun x => tpI x.1 == tpI lq) ps 0 = i at HI H hlim
          clear hix c1 hi eg
          have d0 : (lq != 0) = true := by simpa using c0
          by_cases c2 : i < 0
          · rw [if_pos c2] at H
            injection H with H
            injection H with h1 h2
            subst h1 h2
            have d2 : decide (i < 0) = true := decide_eq_true c2
            clear c0 c2 hlim
            go_wp2_with (go_at_call 117; refine (HI.out _ (by first | exact Below.refl _ _)).mono ?_; rintro e w2 ⟨rfl, hb⟩; have hbk := hb.block w.heap.size (World.block_lt_of_cell? wr _ hcb); have hcb2 : w2.cell? ⟨w.heap.size, 0, none⟩ = some (.int .i64 lq) := (by rw [← hcb]; simp only [World.cell?, hbk]); have HB2 := Aside0.mk (HB.out.trans (hb.mono HB.out.size)); clear hcb hfb hcg hb hbk)
            go_ret2
            exact ⟨by first | rfl | (simp; done), HB2.out⟩
          · rw [if_neg c2] at H
            have h0 : 0 ≤ i := by omega
            have h1 : i < (ps.length : Int) := by simpa using hlim.2
            have d2 : decide (i < 0) = false := decide_eq_false c2
            have d3 : decide (0 ≤ i) = true := decide_eq_true h0
            have d4 : decide (i < (ps.length : Int)) = true := decide_eq_true h1
            obtain ⟨ad, eA, hx0, hx1⟩ := pair_at HR0.out i h0 h1
            cases eA
            generalize ps.getD i.toNat (0, 0) = x at hx0 hx1 H
            have HX := Aside0.mk (fun W (hW : Below w.heap.size w W) => And.intro ((hW.cell (World.block_lt_of_cell? w _ hx0)).trans hx0) ((hW.cell (World.block_lt_of_cell? w _ hx1)).trans hx1))
            clear c0 c2 hlim hx0 hx1
            go_wp2_with (go_at_call 117; refine (HI.out _ (by first | exact Below.refl _ _)).mono ?_; rintro e w2 ⟨rfl, hb⟩; have hbk := hb.block w.heap.size (World.block_lt_of_cell? wr _ hcb); have hcb2 : w2.cell? ⟨w.heap.size, 0, none⟩ = some (.int .i64 lq) := (by rw [← hcb]; simp only [World.cell?, hbk]); have hfb2 : w2.frozen? ⟨w.heap.size, 0, none⟩ = false := (by rw [← hfb]; simp only [World.frozen?, hbk]); have HB2 := Aside0.mk (HB.out.trans (hb.mono HB.out.size)); have hcg2 := HCG.out w2 HB2.out; have hy0 := (HX.out w2 HB2.out).1; clear hcb hfb hcg hb hbk)
            go_region
            have HB5 := Aside0.mk (below_drew1 (HB2.out.setCell (p := ⟨w.heap.size, 0, none⟩) (Nat.le_refl _) (.int .i64 (Go.bits .xor .i64 lq x.1))))
            have hcb5 : (w2.setCell ⟨w.heap.size, 0, none⟩ (.int .i64 (Go.bits .xor .i64 lq x.1))).drew.cell? ⟨w.heap.size, 0, none⟩ = some (.int .i64 (Go.bits .xor .i64 lq x.1)) := by
              rw [World.cell?_drew]; exact World.cell?_setCell_same' _ _ _ (by rw [hcb2]; rfl)
            have hfb5 : (w2.setCell ⟨w.heap.size, 0, none⟩ (.int .i64 (Go.bits .xor .i64 lq x.1))).drew.frozen? ⟨w.heap.size, 0, none⟩ = false := by
              rw [World.frozen?_drew, World.frozen?_setCell]; exact hfb2
            generalize (w2.setCell ⟨w.heap.size, 0, none⟩ (.int .i64 (Go.bits .xor .i64 lq x.1))).drew = w5 at HB5 hcb5 hfb5 ⊢
            have hcg5 := HCG.out w5 HB5.out
            obtain ⟨hz0, hz1⟩ := HX.out w5 HB5.out
            clear hcb2 hfb2 HB2 hcg2 hy0
            go_wp2
            go_roundg k1
            case measure => omega
            case rel => exact ⟨_, _, by first | rfl | go_num, ⟨H⟩, ⟨hcb5, hfb5⟩, HB5⟩
        · rw [if_neg c1] at H
          cases H
/-- A solver in memory: its block, its pairs, the quiet patterns' basis, the effects' basis. -/
structure SV (base g : Nat) (vp vq vi : Value) (ps : List (Int × Int)) (qs is : List Int) (W : World) : Prop where
  b : W.heap[g]? = some (.cells #[vp, vq, vi] 49 (0, 0))
  g0 : base ≤ g
  P : pairK.R 91 W base (fun k => some k = vp.ownBlock) vp ps
  Q : (Kd.int .i64).R 3 W base (fun k => some k = vq.ownBlock) vq qs
  I : (Kd.int .i64).R 3 W base (fun k => some k = vi.ownBlock) vi is
  ne : ∀ k, vq.ownBlock = some k → vi.ownBlock ≠ some k
section
variable {base g : Nat} {vp vq vi v' : Value} {ps : List (Int × Int)} {qs is xs : List Int} {W W' : World}
theorem SV.below (h : SV base g vp vq vi ps qs is W) (hb : Below W.heap.size W W') : SV base g vp vq vi ps qs is W' :=
  ⟨blk_below h.b hb, h.g0, Kd.R_below h.P hb, Kd.R_below h.Q hb, Kd.R_below h.I hb, h.ne⟩
theorem SV.gi (h : SV base g vp vq vi ps qs is W) : ¬ some g = vi.ownBlock := fun e => by
  obtain ⟨cs, hc⟩ := Kd.R_typed h.I g e.symm
  exact blk_ne h.b hc (by decide) rfl
theorem SV.gq (h : SV base g vp vq vi ps qs is W) : ¬ some g = vq.ownBlock := fun e => by
  obtain ⟨cs, hc⟩ := Kd.R_typed h.Q g e.symm
  exact blk_ne h.b hc (by decide) rfl
theorem SV.gp (h : SV base g vp vq vi ps qs is W) : some g ≠ vp.ownBlock := fun e => by
  obtain ⟨cs, hc⟩ := Kd.R_typed h.P g e.symm
  exact blk_ne h.b hc (by decide) rfl
theorem SV.pi (h : SV base g vp vq vi ps qs is W) : ∀ k, some k = vp.ownBlock → ¬ some k = vi.ownBlock := fun k e e2 => by
  obtain ⟨cs, hc⟩ := Kd.R_typed h.I k e2.symm
  obtain ⟨cs', hc'⟩ := Kd.R_typed h.P k e.symm
  exact blk_ne hc hc' (by decide) rfl
theorem SV.pq (h : SV base g vp vq vi ps qs is W) : ∀ k, some k = vp.ownBlock → ¬ some k = vq.ownBlock := fun k e e2 => by
  obtain ⟨cs, hc⟩ := Kd.R_typed h.Q k e2.symm
  obtain ⟨cs', hc'⟩ := Kd.R_typed h.P k e.symm
  exact blk_ne hc hc' (by decide) rfl
theorem SV.image (h : SV base g vp vq vi ps qs is W) (hR : (Kd.int .i64).R 3 W' base (fun k => some k = vi.ownBlock ∨ W.heap.size ≤ k) v' xs) (hK : Kept W W' (fun k => some k = vi.ownBlock)) :
    SV base g vp vq v' ps qs xs (W'.setCell ⟨g, 2, none⟩ v') := by
  have hb := blk_kept h.b hK h.gi
  refine ⟨blk_put hb 2 v' rfl, h.g0, Kd.R_set (Kd.R_kept h.P hK h.pi) hb (by decide) 2 v', Kd.R_set (Kd.R_kept h.Q hK (fun k e e2 => h.ne k e.symm e2.symm)) hb (by decide) 2 v', Kd.R_set (Kd.R_tight rfl hR) hb (by decide) 2 v', fun k e e2 => ?_⟩
  rcases hR.1 k e2 with h1 | h1
  · exact h.ne k e h1.symm
  · have := Kd.R_lt h.Q k e; omega
theorem SV.quiet (h : SV base g vp vq vi ps qs is W) (hR : (Kd.int .i64).R 3 W' base (fun k => some k = vq.ownBlock ∨ W.heap.size ≤ k) v' xs) (hK : Kept W W' (fun k => some k = vq.ownBlock)) :
    SV base g vp v' vi ps xs is (W'.setCell ⟨g, 1, none⟩ v') := by
  have hb := blk_kept h.b hK h.gq
  refine ⟨blk_put hb 1 v' rfl, h.g0, Kd.R_set (Kd.R_kept h.P hK h.pq) hb (by decide) 1 v', Kd.R_set (Kd.R_tight rfl hR) hb (by decide) 1 v', Kd.R_set (Kd.R_kept h.I hK (fun k e e2 => h.ne k e2.symm e.symm)) hb (by decide) 1 v', fun k e e2 => ?_⟩
  rcases hR.1 k e with h1 | h1
  · exact h.ne k h1.symm e2
  · have := Kd.R_lt h.I k e2; omega
theorem SV.pairs {xs : List (Int × Int)} {ok : Nat → Prop} (h : SV base g vp vq vi ps qs is W) (hR : pairK.R 91 W' base ok v' xs) (hg : W.grownBy W' vp.ownBlock) :
    SV base g v' vq vi xs qs is (W'.setCell ⟨g, 0, none⟩ v') := by
  have hb := blk_grown h.b hg h.gp
  exact ⟨blk_put hb 0 v' rfl, h.g0, Kd.R_set (Kd.R_tight rfl hR) hb (by decide) 0 v', Kd.R_set (Kd.R_grown h.Q hg (fun k e e2 => h.pq k e2 e)) hb (by decide) 0 v', Kd.R_set (Kd.R_grown h.I hg (fun k e e2 => h.pi k e2 e)) hb (by decide) 0 v', h.ne⟩
end
def SVx (base g : Nat) (ps : List (Int × Int)) (qs is : List Int) (W : World) : Prop := ∃ vp vq vi, SV base g vp vq vi ps qs is W
theorem SV.lower {base base' g : Nat} {vp vq vi : Value} {ps : List (Int × Int)} {qs is : List Int} {W : World} (h : SV base g vp vq vi ps qs is W) (hb : base' ≤ base) : SV base' g vp vq vi ps qs is W :=
  ⟨h.b, Nat.le_trans hb h.g0, Kd.R_lower h.P hb, Kd.R_lower h.Q hb, Kd.R_lower h.I hb, h.ne⟩
end
/-! ### pseudo_sortTop: function 162 -/
-- BY HAND
section
open Go.Shelf
def tpA (b : Int) : Int := (Go.Lib.bitLen (IntKind.u64.wrap b).toNat : Int) - 1
theorem u64_range (b : Int) : 0 ≤ IntKind.u64.wrap b ∧ IntKind.u64.wrap b < 18446744073709551616 := by simp [IntKind.wrap, IntKind.bits, IntKind.signed]; omega
theorem tpA_range (b : Int) : -1 ≤ tpA b ∧ tpA b ≤ 63 := by
  have h := u64_range b
  have := Go.Lib.bitLen_le (IntKind.u64.wrap b).toNat 64 (by omega) (by omega)
  unfold tpA; omega
theorem top_any (b : Int) : impl_top.f b = some (tpA b) := by
  have h := u64_range b
  have h2 := tpA_range b
  unfold tpA at h2 ⊢
  unfold impl_top.f bits_Len.f bits_Len64.f
  rw [if_pos (by omega)]
  simp only [Option.bind_some]
  unfold wrap64
  congr 1; omega
theorem tpA_good {b : Int} (h : good b = true) : tpA b = tpI b := by
  have h2 : 0 < b ∧ b < 4611686018427387904 := by simpa [good] using h
  have e : IntKind.u64.wrap b = b := by simp [IntKind.wrap, IntKind.bits, IntKind.signed]; omega
  unfold tpA tpI; rw [e]
def cfT (x y : Int) : Int := tpA x - tpA y
theorem ltT (x y : Int) : ltOf cfT x y = decide (tpA x < tpA y) := by
  unfold ltOf cfT
  by_cases h : tpA x < tpA y
  · rw [decide_eq_true h, decide_eq_true (by omega)]
  · rw [decide_eq_false h, decide_eq_false (by omega)]
theorem swoT : Go.Sort.SWO (ltOf cfT) where
  irrefl x := by rw [ltT]; simp
  trans x y z h1 h2 := by rw [ltT] at *; simp at *; omega
  ntrans x y z h1 h2 := by rw [ltT] at *; simp at *; omega
set_option maxHeartbeats 4000000 in
set_option maxRecDepth 100000 in
theorem impl_extended_1.calls (x y : Int) (w : World) : Calls Try.prog 122 #[.int .i64 x, .int .i64 y] w fun e w' => e = .returned (.int .i64 (cfT x y)) ∧ ∃ q, w' = w.drewN q := by
  have h1 := fun w => impl_top.calls x _ w (top_any x)
  have h2 := fun w => impl_top.calls y _ w (top_any y)
  have e : cfT x y = wrap64 (tpA x - tpA y) := by
    have := tpA_range x; have := tpA_range y
    unfold cfT wrap64; omega
  rw [e]
  clear e
  generalize tpA x = a at h1 ⊢
  generalize tpA y = b at h2 ⊢
  go_enter Try.func122, Try.ntmps122
  go_wp2_with (first | (go_at_call 119; with_reducible refine (h1 _).mono ?_; rintro e w' ⟨rfl, ⟨nd, rfl⟩⟩) | (go_at_call 119; with_reducible refine (h2 _).mono ?_; rintro e w' ⟨rfl, ⟨nd, rfl⟩⟩))
  go_ret
  exact ⟨by first | rfl | (simp; done), ⟨_, by first | rfl | (simp; done)⟩⟩
theorem nodup_inj {α β : Type} (f : α → β) : ∀ (l : List α), (l.map f).Nodup → ∀ a ∈ l, ∀ b ∈ l, f a = f b → a = b
  | [], _, _, h, _, _, _ => by cases h
  | c :: l, hn, a, ha, b, hb, e => by
    rw [List.map_cons, List.nodup_cons] at hn
    rcases List.mem_cons.1 ha with ea | ha <;> rcases List.mem_cons.1 hb with eb | hb
    · rw [ea, eb]
    · exact absurd (List.mem_map.2 ⟨b, hb, by rw [← e, ea]⟩) hn.1
    · exact absurd (List.mem_map.2 ⟨a, ha, by rw [e, eb]⟩) hn.1
    · exact nodup_inj f l hn.2 a ha b hb e
theorem sort_one {l : List Int} (hg : l.all good = true) (hn : (l.map tpI).Nodup) {d' : Array Int} (hP : Go.Sort.PermIn 0 l.toArray.size l.toArray d') (hS : Go.Sort.SortedIn (ltOf cfT) 0 l.toArray.size d') :
    d' = (l.mergeSort fun x y => decide (tpI x ≤ tpI y)).toArray := by
  obtain ⟨hsz, _, hperm⟩ := hP
  have e1 : d'.extract 0 l.toArray.size = d' := by rw [← hsz]; exact Array.extract_size
  rw [e1, Array.extract_size] at hperm
  have hperm : d'.toList.Perm l := hperm
  have hgd : ∀ x ∈ d'.toList, good x = true := fun x hx => List.all_eq_true.1 hg x (hperm.mem_iff.1 hx)
  have : d'.toList = l.mergeSort fun x y => decide (tpI x ≤ tpI y) := by
    refine List.Perm.eq_of_pairwise (le := fun x y => tpI x ≤ tpI y) ?_ ?_ ?_ (hperm.trans (List.mergeSort_perm _ _).symm)
    · intro a b ha hb h1 h2
      exact nodup_inj tpI l hn a (hperm.mem_iff.1 ha) b ((List.mergeSort_perm _ _).mem_iff.1 hb) (by omega)
    · rw [List.pairwise_iff_getElem]
      intro i j hi hj hij
      have hi' : i < d'.size := by simpa using hi
      have hj' : j < d'.size := by simpa using hj
      have := hS i j (Nat.zero_le _) hij (by omega)
      rw [getElem!_pos d' j hj', getElem!_pos d' i hi', ltT, tpA_good (hgd _ (by simp)), tpA_good (hgd _ (by simp))] at this
      simp at this
      simpa using this
    · have := List.pairwise_mergeSort (le := fun x y => decide (tpI x ≤ tpI y)) (fun a b c h1 h2 => by simp at *; omega) (fun a b => by simp; omega) l
      exact this.imp (fun h => by simpa using h)
  rw [← this]
def pseudo_sortTop.f (l0 : List Int) : Option (List Int) := if l0.all good = true ∧ (l0.map tpI).Nodup ∧ l0.length < 4611686018427387904 then some (l0.mergeSort fun x y => decide (tpI x ≤ tpI y)) else none
set_option maxHeartbeats 4000000 in
theorem pseudo_sortTop.calls (P0_ : Nat → Prop) (u9000_ : Value) (l0 : List Int) (r : List Int) (w0 w : World) (hB : Below w0.heap.size w0 w) (ho0 : Kd.R (Kd.int .i64) 3 w w0.heap.size P0_ u9000_ l0) (h : pseudo_sortTop.f l0 = some r) :
    Calls Try.prog 121 #[u9000_, .func (.func 122) #[] #[]] w fun e w' => e = .returned (.tuple #[]) ∧ Kd.R (Kd.int .i64) 3 w' w0.heap.size (fun k_ => (P0_ k_ ∨ w.heap.size ≤ k_)) u9000_ r ∧ Below w0.heap.size w0 w' ∧ Kept w w' (fun k_ => P0_ k_) := by
  unfold pseudo_sortTop.f at h
  split at h
  · rename_i hgg
    obtain ⟨hg, hn, hlen⟩ := hgg
    obtain rfl := Option.some.inj h
    have hown := Kd.own_of_R ho0
    have hP := ho0.1
    rcases hown.2 with ⟨rfl, hn⟩ | ⟨g, cap, cur, rfl, hbase, hb, h1, h2, h3, h4⟩
    · obtain rfl : l0 = [] := List.eq_nil_of_length_eq_zero hn
      refine (Try.slices_SortFunc_none none 0 _ w).mono ?_
      rintro e w' ⟨rfl, rfl⟩
      exact ⟨rfl, (by rw [List.mergeSort_nil]; exact Kd.R_nil _ _ _ _ _), hB, Kept.refl _ _⟩
    · have ht : cur.toList.take l0.length = l0.map (Value.int .i64) := by simpa [encs] using h4
      have hs : l0.toArray.size = l0.length := by simp
      have hc := Try.slices_SortFunc (Value.int .i64) (fun _ => rfl) cfT swoT 122 #[] g 0 cap l0.toArray w (enters_of Try.func122 (by kernel_rfl) rfl) (CmpReads.lays (fun _ _ _ _ x y => impl_extended_1.calls x y _)) (holds_of_blockI hb ht) (Array.getElem?_eq_some_iff.1 hb).1 (by rw [hs]; exact hlen)
      rw [hs] at hc
      refine hc.mono ?_
      rintro e w' ⟨rfl, d', n, os, hPm, hSo, rfl⟩
      obtain rfl := sort_one hg hn (by rw [hs]; exact hPm) (by rw [hs]; exact hSo)
      have hg' := grownBy_sortedI (w := w) (g := g) (n := n) (os := os) (l0.mergeSort fun x y => decide (tpI x ≤ tpI y)).toArray
      have hl : (l0.mergeSort fun x y => decide (tpI x ≤ tpI y)).length = l0.length := by simp
      have hs := ownsRow_sortedI (n := n) (os := os) hl hbase hb h1 h2 h3
      refine ⟨rfl, Kd.R_of_own ?_ (fun k hk => .inl (hP k (by simpa [Value.ownBlock] using hk))), pw_below_grown hB (some g) hB.size hg' (fun k hk => by injection hk with hk; omega), Kept.of_grown hg' (Kept.refl _ _) (fun k e_ => .inl (hP k (by simpa [Value.ownBlock] using e_)))⟩
      rw [hl]
      exact hs
  · cases h
end
end Go.Proofs.Ytoobofnpdiapgaa.P
