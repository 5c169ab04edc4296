/- The edges, and 'is it a forest': the program's two ways, in step with the plain law. -/
import Derived.Test.YtdpdmhjmmpncoaaBfsAll
import Derived.Test.YtdpdmhjmmpncoaaParts
import Derived.Test.YtdpdmhjmmpncoaaPx10
import Derived.Test.YtdpdmhjmmpncoaaPx9
namespace Go.Proofs.Ytdpdmhjmmpncoaa.Gr
open Go.RowKit Go.Proofs.Ytdpdmhjmmpncoaa.P Go.Proofs.Ytdpdmhjmmpncoaa.Bt Go.Proofs.Ytdpdmhjmmpncoaa.Lw Go.Proofs.Ytdpdmhjmmpncoaa.Cl Go.Proofs.Ytdpdmhjmmpncoaa.Bf Go.Proofs.YtdpdmhjmmpncoaaW.PrintWords Go.Proofs.YtdpdmhjmmpncoaaW.PrintLast Go.Proofs.YtdpdmhjmmpncoaaW.PrintMore
set_option linter.unusedVariables false
set_option linter.unusedSimpArgs false

theorem partsOf_R (l : List Int) : ∀ d i see acc, partsOf l d i see acc = partsR (nr l) l.length d i see acc := by
  intro d
  induction d with
  | zero => intro i see acc; rfl
  | succ d ih => intro i see acc; rw [partsOf, partsR, ih, ih]
def rowE (R : Nat → Nat) (i : Nat) : Nat → Nat → List (List Int)
  | 0, _ => []
  | d + 1, j => (if (R i).testBit j = true then [[(i : Int), (j : Int)]] else []) ++ rowE R i d (j + 1)
theorem rowE_length (R : Nat → Nat) (i : Nat) : ∀ d j, (rowE R i d j).length = cnt (R i) d j := by
  intro d
  induction d with
  | zero => intro j; rfl
  | succ d ih =>
    intro j
    rw [rowE, cnt, List.length_append, ih]
    split <;> rfl
theorem cnt_le (S : Nat) : ∀ d w, cnt S d w ≤ d := by
  intro d
  induction d with
  | zero => intro w; exact Nat.le_refl _
  | succ d ih => intro w; have := ih (w + 1); rw [cnt]; split <;> omega
def edgesR (R : Nat → Nat) (n : Nat) : Nat → List (List Int)
  | 0 => []
  | k + 1 => edgesR R n k ++ rowE R k (n - (k + 1)) (k + 1)
theorem edgesR_length (R : Nat → Nat) (n : Nat) : ∀ k, (edgesR R n k).length = edg R n k := by
  intro k
  induction k with
  | zero => rfl
  | succ k ih => rw [edgesR, edg, List.length_append, ih, rowE_length]
theorem edg_le (R : Nat → Nat) (n : Nat) : ∀ k, edg R n k ≤ k * n := by
  intro k
  induction k with
  | zero => simp [edg]
  | succ k ih =>
    have := cnt_le (R k) (n - (k + 1)) (k + 1)
    rw [edg, Nat.add_mul]; omega
section
variable (l : List Int) (own : Bool) (hl : l.length ≤ 16) (hr : Rng l)
include hl hr
theorem spec_row (i : Nat) (hi : i < l.length) (r : List (List Int)) : ∀ (d j : Nat) (acc : List (List Int)), j + d = l.length → acc.length + d ≤ 1000 →
    Ev (fun k => spec_grEdges.l0 k (acc ++ rowE (nr l) i d j) l (l.length : Int) ((i + 1 : Nat) : Int) l own) r →
    Ev (fun k => spec_grEdges.l1 k acc (i : Int) (nr l i : Int) (j : Int) l (l.length : Int) (i : Int) l own) r := by
  have hsm := nr_small hl hr hi
  intro d
  induction d with
  | zero =>
    intro j acc hj ha h
    refine Ev.succ h 0 fun k _ => ?_
    rw [spec_grEdges.l1, if_neg (by omega), step1 (by omega), rowE, List.append_nil]
  | succ d ih =>
    intro j acc hj ha h
    rw [rowE, ← List.append_assoc] at h
    by_cases c : (nr l i).testBit j = true
    · rw [if_pos c] at h
      refine Ev.succ (ih (j + 1) (acc ++ [[(i : Int), (j : Int)]]) (by omega) (by simp; omega) h) 0 fun k _ => ?_
      rw [spec_grEdges.l1, if_pos (by omega), grIn_nat (nr l i) j (by omega), c]
      simp only [Option.bind_some, if_true]
      rw [if_pos (by omega), step1 (by omega)]
    · rw [if_neg c, List.append_nil] at h
      refine Ev.succ (ih (j + 1) acc (by omega) (by omega) h) 0 fun k _ => ?_
      rw [spec_grEdges.l1, if_pos (by omega), grIn_nat (nr l i) j (by omega), Bool.eq_false_iff.mpr c]
      simp only [Option.bind_some]
      rw [if_neg (by simp), step1 (by omega)]
theorem impl_row (i : Nat) (hi : i < l.length) (r : List (List Int)) : ∀ (d j : Nat) (acc : List (List Int)), j + d = l.length → acc.length + d ≤ 1000 →
    Ev (fun k => impl_Graph_edges.l0 k (acc ++ rowE (nr l) i d j) l (l.length : Int) ((i + 1 : Nat) : Int) l own) r →
    Ev (fun k => impl_Graph_edges.l1 k acc (i : Int) (nr l i : Int) (j : Int) l (l.length : Int) (i : Int) l own) r := by
  have hsm := nr_small hl hr hi
  intro d
  induction d with
  | zero =>
    intro j acc hj ha h
    refine Ev.succ h 0 fun k _ => ?_
    rw [impl_Graph_edges.l1, if_neg (by omega), step1 (by omega), rowE, List.append_nil]
  | succ d ih =>
    intro j acc hj ha h
    rw [rowE, ← List.append_assoc] at h
    by_cases c : (nr l i).testBit j = true
    · rw [if_pos c] at h
      refine Ev.succ (ih (j + 1) (acc ++ [[(i : Int), (j : Int)]]) (by omega) (by simp; omega) h) 0 fun k _ => ?_
      rw [impl_Graph_edges.l1, if_pos (by omega), has_nat (nr l i) j (by omega), c]
      simp only [Option.bind_some, if_true]
      rw [if_pos (by omega), step1 (by omega)]
    · rw [if_neg c, List.append_nil] at h
      refine Ev.succ (ih (j + 1) acc (by omega) (by omega) h) 0 fun k _ => ?_
      rw [impl_Graph_edges.l1, if_pos (by omega), has_nat (nr l i) j (by omega), Bool.eq_false_iff.mpr c]
      simp only [Option.bind_some]
      rw [if_neg (by simp), step1 (by omega)]
theorem edges_loops : ∀ (d i : Nat), i + d = l.length →
    Ev (fun k => spec_grEdges.l0 k (edgesR (nr l) l.length i) l (l.length : Int) (i : Int) l own) (edgesR (nr l) l.length l.length) ∧ Ev (fun k => impl_Graph_edges.l0 k (edgesR (nr l) l.length i) l (l.length : Int) (i : Int) l own) (edgesR (nr l) l.length l.length) := by
  intro d
  induction d with
  | zero =>
    intro i hi
    have : i = l.length := by omega
    rw [this]
    refine ⟨Ev.konst 1 fun k hk => ?_, Ev.konst 1 fun k hk => ?_⟩
    · obtain ⟨k, rfl⟩ : ∃ m, k = m + 1 := ⟨k - 1, by omega⟩
      rw [spec_grEdges.l0, if_neg (by omega)]
    · obtain ⟨k, rfl⟩ : ∃ m, k = m + 1 := ⟨k - 1, by omega⟩
      rw [impl_Graph_edges.l0, if_neg (by omega)]
  | succ d ih =>
    intro i hi
    obtain ⟨e1, e2⟩ := ih (i + 1) (by omega)
    have hlen : (edgesR (nr l) l.length i).length ≤ 16 * 16 := by
      rw [edgesR_length]
      exact Nat.le_trans (edg_le _ _ _) (Nat.mul_le_mul (by omega) hl)
    have hri : rd l (i : Int) = (nr l i : Int) := by rw [rd_nat]; exact nr_cast hr (by omega)
    have f1 := spec_row l own hl hr i (by omega) _ (l.length - (i + 1)) (i + 1) (edgesR (nr l) l.length i) (by omega) (by omega) e1
    have f2 := impl_row l own hl hr i (by omega) _ (l.length - (i + 1)) (i + 1) (edgesR (nr l) l.length i) (by omega) (by omega) e2
    refine ⟨Ev.succ f1 0 fun k _ => ?_, Ev.succ f2 0 fun k _ => ?_⟩
    · rw [spec_grEdges.l0, if_pos (by omega), if_pos (by omega), if_pos (by omega), hri, step1 (by omega)]
    · rw [impl_Graph_edges.l0, if_pos (by omega), if_pos (by omega), if_pos (by omega), hri, step1 (by omega)]
theorem edges_ev : Ev (fun k => spec_grEdges.f k l own) (edgesR (nr l) l.length l.length) ∧ Ev (fun k => impl_Graph_edges.f k l own) (edgesR (nr l) l.length l.length) :=
  edges_loops l own hl hr l.length 0 (by omega)
end
theorem good_sym {l : List Int} (G : Good l) : ∀ a b, a < l.length → b < l.length → (nr l a).testBit b = true → (nr l b).testBit a = true := fun a b ha hb h => (G.2.2.2 a ha b hb h).2
theorem good_loop {l : List Int} (G : Good l) : ∀ a, a < l.length → (nr l a).testBit a = false := fun a ha => by
  rw [Bool.eq_false_iff]; exact fun h => (G.2.2.2 a ha a ha h).1 rfl
theorem good_lt {l : List Int} (G : Good l) : ∀ a, a < l.length → nr l a < 2 ^ l.length := fun a ha => nr_lt G.2.2.1 ha
/-- How many edges close a circle, counted twice. -/
def badOf (l : List Int) : Nat := (roots (nr l) l.length l.length 0 (Bf.start l.length, 0)).1.bad
theorem count_graph {l : List Int} (G : Good l) : 2 * (edgesR (nr l) l.length l.length).length + 2 * (up (partsOf l l.length 0 0 [])).length = 2 * l.length + badOf l := by
  rw [edgesR_length, up_length, partsOf_R]
  exact count_all (nr l) (good_sym G) (good_loop G) (good_lt G)
theorem edges_short {l : List Int} (hl : l.length ≤ 16) : (edgesR (nr l) l.length l.length).length ≤ 256 := by
  rw [edgesR_length]
  exact Nat.le_trans (edg_le _ _ _) (Nat.mul_le_mul hl hl)
theorem parts_short (l : List Int) (hl : l.length ≤ 16) : (up (partsOf l l.length 0 0 [])).length ≤ 16 := by
  have := partsOf_length l l.length 0 0 []
  simp only [up_length, List.length_nil] at *
  omega
end Go.Proofs.Ytdpdmhjmmpncoaa.Gr
