/- slices.Backward over a row of numbers: what a loop over it is handed. -/
import Derived.RangeFuncNested
import Derived.RangeFuncBound
import Derived.RangeFuncCalls
import Derived.RangeFuncLeaves
import Derived.RangeFuncFrom
import Derived.Shelf.Abstract
import Derived.Shelf.RegionOpen
import Derived.WalkKit
import Derived.OwnWalkIn
import Derived.TacticsInMore
import Derived.LoopNIn
import Derived.LoopIn
import Derived.RangeFuncBox
import Derived.Test.YtdpdmhjmmpncoaaProg
namespace Go.Proofs.Ytdpdmhjmmpncoaa.Bn
open Go.RowKit Go.Shelf
attribute [local go_sem] Oper.semAt_some

/-- What lies at a place. -/
def atI (zs : List Int) (x : Fin zs.length) : Int := zs.getD x.1 0
/-- The places that have come when d rounds are over. -/
def dn (n d : Nat) : List (Fin n) := (List.finRange n).reverse.take d
theorem dn_length (n d : Nat) (h : d ≤ n) : (dn n d).length = d := by simp [dn]; omega
theorem dn_succ {n d : Nat} (h : d < n) : dn n (d + 1) = dn n d ++ [⟨n - 1 - d, by omega⟩] := by
  unfold dn
  rw [List.take_succ_eq_append_getElem (by simpa using h)]
  congr 2
  simp
theorem dn_all (n : Nat) : dn n n = (List.finRange n).reverse := by
  unfold dn
  rw [List.take_of_length_le (by simp)]
theorem add_block (a : Addr) (n : Nat) : (a.add n).block = a.block := by unfold Addr.add; split <;> rfl
structure Hid (p : Prop) : Prop where
  out : p
/-- What a round keeps: all that lay below n₀, and the iterator's own box. -/
def KB (n₀ Bs : Nat) (W W' : World) : Prop := Below n₀ W W' ∧ W'.heap[Bs]? = W.heap[Bs]?
theorem KB.refl (n₀ Bs : Nat) (W : World) : KB n₀ Bs W W := ⟨Below.refl _ _, rfl⟩
theorem KB.trans {n₀ Bs : Nat} {A B C : World} (h : KB n₀ Bs A B) (k : KB n₀ Bs B C) : KB n₀ Bs A C := ⟨h.1.trans k.1, k.2.trans h.2⟩
theorem KB.cell {n₀ Bs : Nat} {A B : World} (h : KB n₀ Bs A B) {v : Value} (hc : A.cell? ⟨Bs, 0, none⟩ = some v) : B.cell? ⟨Bs, 0, none⟩ = some v := by
  rw [← hc]; simp only [World.cell?, h.2]
theorem KB_b {n₀ Bs : Nat} {w : World} (hn : n₀ ≤ w.heap.size) (hB : Bs < w.heap.size) (W : World) (l : Nat) (o o' : Obj) (hl : w.heap.size ≤ l) (h : W.heap[l]? = some o) (h1 : o.isCells = false) (h2 : o.isWalk = false) : KB n₀ Bs W (W.putObj l o') :=
  ⟨belowK_b hn W l o o' hl h h1 h2, (belowK_b (n₀ := Bs + 1) hB W l o o' hl h h1 h2).block Bs (by omega)⟩
set_option maxRecDepth 100000 in
set_option maxHeartbeats 2000000 in
theorem back1_in (F : Fence) (n : Nat) (h7 : F.fn 96) (hro : F.round = none) (hn : 1 ≤ n) (l Bs n₀ cap : Nat) (ad : Addr) (zs : List Int) (hreach : zs.length * 8 ≤ 140737488351232) (hb : ad.block < n₀) (J Jx : List (Fin zs.length) → World → Prop)
    (hY : ∀ pre x W, J pre W → pre.length < zs.length → YieldAt F (n - 1) Try.prog l #[.int .i64 (x.1 : Int), .int .i64 (atI zs x)] W fun e W' =>
      (e = .returned (.bool true) ∧ J (pre ++ [x]) W' ∧ KB n₀ Bs W W') ∨ (e = .returned (.bool false) ∧ Jx (pre ++ [x]) W'))
    (W : World) (hBs : W.cell? ⟨Bs, 0, none⟩ = some (.slice (some ad) zs.length cap)) (hc : ∀ j, j < zs.length → W.cell? (ad.add j) = some (.int .i64 (zs.getD j 0))) (h0 : J [] W) :
    CallsIn F n Try.prog 96 #[.func (.yield l) #[] #[], .pointer (some ⟨Bs, 0, none⟩)] W fun e W' => (∃ v, e = .returned v) ∧
      ((∃ ys, ys = dn zs.length zs.length ∧ J ys W') ∨ (∃ pre, (∃ k, k ≤ zs.length ∧ pre = dn zs.length k) ∧ Jx pre W')) := by
  refine callsIn_of_wp Try.func96 rfl h7 ?_ hro
  simp only [Try.ntmps96, List.size_toArray, List.length_cons, List.length_nil, Nat.reduceAdd, Nat.reduceSub, Array.replicate_succ, Array.replicate_zero, List.push_toArray, List.append_toArray, List.nil_append, List.cons_append]
  gi_wp2
  gi_loopw [3] (fun i wr => ∃ (m : Nat) (iv : Int), m ≤ zs.length ∧ iv = (m : Int) - 1 ∧ i = .int .i64 iv ∧ J (dn zs.length (zs.length - m)) wr ∧ KB n₀ Bs W wr)
    (fun i _ => (intOf i + 1).toNat)
  case atStart => exact ⟨zs.length, _, Nat.le_refl _, rfl, by go_num, by rw [Nat.sub_self]; exact h0, KB.refl _ _ _⟩
  case round =>
    obtain ⟨m, iv, hm, hiv, rfl, hJs, hnx⟩ := hrel
    have hBs' := hnx.cell hBs
    by_cases h0 : 0 ≤ iv
    · have h1 : iv < (zs.length : Int) := by omega
      have e1 : zs.length - 1 - (zs.length - m) = iv.toNat := by omega
      have hcx : wr.cell? (ad.add iv.toNat) = some (.int .i64 (zs.getD iv.toNat 0)) := (hnx.1.cell (p := ad.add iv.toNat) (by rw [add_block]; exact hb)).trans (hc _ (by omega))
      obtain ⟨x, hx⟩ : ∃ x : Fin zs.length, x.1 = iv.toNat := ⟨⟨iv.toNat, by omega⟩, rfl⟩
      have HX := Hid.mk (show dn zs.length (zs.length - m + 1) = dn zs.length (zs.length - m) ++ [x] by rw [dn_succ (by omega)]; congr 2; exact Fin.ext (by rw [hx]; exact e1))
      obtain ⟨fn, tmps, assign, body, hy, hR⟩ := hY _ x wr hJs (by rw [dn_length _ _ (by omega)]; omega)
      rw [show atI zs x = zs.getD iv.toNat 0 by unfold atI; rw [hx], hx] at hy
      clear hx
      rw [Int.toNat_of_nonneg h0] at hy
      obtain ⟨z, hz⟩ : ∃ z, z = zs.getD iv.toNat 0 := ⟨_, rfl⟩
      rw [← hz] at hcx hy
      clear hz
      have d0 : decide (0 ≤ iv) = true := decide_eq_true h0
      have d1 : decide (iv < (zs.length : Int)) = true := decide_eq_true h1
      have HM := Hid.mk (And.intro hm hiv)
      clear hm hiv
      gi_wp2
      refine hR.mono ?_
      rintro e W3 (⟨rfl, hJ3, hk3⟩ | ⟨rfl, hJx3⟩)
      · gi_wp2
        go_roundw
        case rel => obtain ⟨hm, hiv⟩ := HM.out; exact ⟨m - 1, iv - 1, by omega, by omega, by go_num, by rw [show zs.length - (m - 1) = (zs.length - m) + 1 by omega, HX.out]; exact hJ3, hnx.trans hk3⟩
        case measure => simp [intOf]; omega
      · gi_wp2
        refine bodyPost_ret (results_none rfl _ _ _) rfl ?_
        obtain ⟨hm, hiv⟩ := HM.out
        exact ⟨⟨_, rfl⟩, .inr ⟨_, ⟨zs.length - m + 1, by omega, HX.out.symm⟩, hJx3⟩⟩
    · obtain rfl : m = 0 := by omega
      have d0 : decide (0 ≤ iv) = false := decide_eq_false h0
      clear hm hiv
      gi_wp2
      go_end0
      exact ⟨⟨_, rfl⟩, .inl (by simpa using hJs)⟩
set_option maxRecDepth 100000 in
set_option maxHeartbeats 1000000 in
/-- No element. -/
theorem back1_nil_in (F : Fence) (n : Nat) (h7 : F.fn 96) (hro : F.round = none) (l Bs cap : Nat) (A : Option Addr) {β : Type} (J : List β → World → Prop) (W : World) (hBs : W.cell? ⟨Bs, 0, none⟩ = some (.slice A 0 cap)) (h0 : J [] W) :
    CallsIn F n Try.prog 96 #[.func (.yield l) #[] #[], .pointer (some ⟨Bs, 0, none⟩)] W fun e W' => (∃ v, e = .returned v) ∧ J [] W' := by
  refine callsIn_of_wp Try.func96 rfl h7 ?_ hro
  simp only [Try.ntmps96, List.size_toArray, List.length_cons, List.length_nil, Nat.reduceAdd, Nat.reduceSub, Array.replicate_succ, Array.replicate_zero, List.push_toArray, List.append_toArray, List.nil_append, List.cons_append]
  gi_wp2
  gi_loopw [3] (fun i wr => i = .int .i64 (-1) ∧ J [] wr) (fun _ _ => 0)
  case atStart => exact ⟨by go_num, h0⟩
  case round =>
    obtain ⟨rfl, hJs⟩ := hrel
    gi_wp2
    go_end0
    exact ⟨⟨_, rfl⟩, hJs⟩
set_option maxHeartbeats 1000000 in
theorem back_in (F : Fence) (n : Nat) (h5 : F.fn 89) (hro : F.round = none) (a : Option Addr) (len cap : Nat) (w : World) :
    CallsIn F n Try.prog 89 #[.slice a len cap] w fun e w' => e = .returned (.func (.func 96) #[] #[.pointer (some ⟨w.heap.size, 0, none⟩)]) ∧ w' = w.alloc (.cells #[.slice a len cap] 22) := by
  refine callsIn_of_wp Try.func89 rfl h5 ?_ hro
  simp only [Try.ntmps89, List.size_toArray, List.length_cons, List.length_nil, Nat.reduceAdd, Nat.reduceSub, Array.replicate_succ, Array.replicate_zero, List.push_toArray, List.append_toArray, List.nil_append, List.cons_append]
  gi_wp2
  go_ret
  exact ⟨rfl, rfl⟩
/-- The slice holds such numbers, in a block below n₀. -/
def Ints (n₀ : Nat) (W : World) (A : Option Addr) (zs : List Int) : Prop :=
  zs = [] ∨ ∃ ad, A = some ad ∧ ad.block < n₀ ∧ ∀ j, j < zs.length → W.cell? (ad.add j) = some (.int .i64 (zs.getD j 0))
theorem Ints.below {n₀ : Nat} {U V : World} (h : Below n₀ U V) {A : Option Addr} {zs : List Int} : Ints n₀ U A zs → Ints n₀ V A zs
  | .inl e => .inl e
  | .inr ⟨ad, e, hb, hc⟩ => .inr ⟨ad, e, hb, fun j hj => (h.cell (p := ad.add j) (by rw [add_block]; exact hb)).trans (hc j hj)⟩
theorem back_stops (F : Fence) (n : Nat) (h8 : F.fn 96) (hro : F.round = none) (hn : 1 ≤ n) (Bs n₀ cap : Nat) (A : Option Addr) (zs : List Int) (hreach : zs.length * 8 ≤ 140737488351232) (w : World) (hBs : Bs < w.heap.size) (hn₀ : n₀ ≤ w.heap.size)
    (hc : w.cell? ⟨Bs, 0, none⟩ = some (.slice A zs.length cap)) (hI : Ints n₀ w A zs) :
    SeqStopsK F n Try.prog 96 #[.pointer (some ⟨Bs, 0, none⟩)] (fun x : Fin zs.length => #[Value.int .i64 (x.1 : Int), Value.int .i64 (atI zs x)]) (KB n₀ Bs) (fun ys => ys = dn zs.length zs.length)
      (fun pre => ∃ k, k ≤ zs.length ∧ pre = dn zs.length k) zs.length w := fun l J Jx W hW _ _ hY h0 => by
  have hc' := (hW.cell (p := ⟨Bs, 0, none⟩) hBs).trans hc
  rcases hI.below (hW.mono hn₀) with rfl | ⟨ad, rfl, hb, hcs⟩
  · exact (back1_nil_in F n h8 hro l Bs cap A J W hc' h0).mono fun e W' ⟨he, hj⟩ => ⟨he, .inl ⟨_, rfl, hj⟩⟩
  · exact back1_in F n h8 hro hn l Bs n₀ cap ad zs hreach hb J Jx hY W hc' hcs h0
end Go.Proofs.Ytdpdmhjmmpncoaa.Bn
