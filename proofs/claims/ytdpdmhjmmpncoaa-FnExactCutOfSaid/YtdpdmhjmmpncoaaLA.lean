/- What the laws' own helpers answer: comparisons, marks. What the laws' own helpers answer: copies. What the laws' helpers on graphs answer. A graph's copy, and its size. Laws over rows of rows: equal, marked, held. -/
import Derived.Test.YtdpdmhjmmpncoaaGA
import Derived.Test.YtdpdmhjmmpncoaaPx2
import Derived.Test.YtdpdmhjmmpncoaaPx6
import Derived.Test.YtdpdmhjmmpncoaaPx1
import Derived.Test.YtdpdmhjmmpncoaaPx15
import Derived.Test.YtdpdmhjmmpncoaaPx26
import Derived.Test.YtdpdmhjmmpncoaaPx27
namespace Go.Proofs.Ytdpdmhjmmpncoaa.Lw
set_option linter.unusedVariables false
set_option linter.unusedSimpArgs false
open Go.RowKit Go.Proofs.Ytdpdmhjmmpncoaa.P Go.Proofs.YtdpdmhjmmpncoaaW.PrintWords Go.Proofs.YtdpdmhjmmpncoaaW.PrintLast Go.Proofs.YtdpdmhjmmpncoaaW.PrintMore

theorem set_take (l : List Int) (n i : Nat) (hn : l.length = n) (h : i < n) : (l.take i ++ List.replicate (n - i) 0).set i (l.getD i 0) = l.take (i + 1) ++ List.replicate (n - (i + 1)) 0 := by
  obtain ⟨m, hm⟩ : ∃ m, n - i = m + 1 := ⟨n - i - 1, by omega⟩
  have h1 : (l.take i).length = i := by rw [List.length_take]; omega
  rw [List.set_append_right _ _ (by omega), h1, Nat.sub_self, hm, List.replicate_succ, List.set_cons_zero, show n - (i + 1) = m by omega, List.take_succ_eq_append_getElem (by omega), List.append_assoc, List.getD_eq_getElem?_getD, List.getElem?_eq_getElem (by omega)]
  rfl
theorem eqIntS_l0 (l : List Int) (hl : l.length ≤ 4611686018427387904) : ∀ (d i k : Nat), l.length - i = d → i ≤ l.length → d < k → laws_eqIntS.l0 k l l (i : Int) = some true := by
  intro d
  induction d with
  | zero =>
    intro i k hd hi hk
    obtain ⟨k, rfl⟩ : ∃ m, k = m + 1 := ⟨k - 1, by omega⟩
    rw [laws_eqIntS.l0, if_neg (by omega)]
  | succ d ih =>
    intro i k hd hi hk
    obtain ⟨k, rfl⟩ : ∃ m, k = m + 1 := ⟨k - 1, by omega⟩
    rw [laws_eqIntS.l0, if_pos (by omega), if_pos (by omega), if_pos (by omega), if_pos rfl, wrap_id (by omega) (by omega), show ((i : Int) + 1) = ((i + 1 : Nat) : Int) from by omega]
    exact ih (i + 1) k (by omega) (by omega) (by omega)
theorem eqIntS_ev (l : List Int) (hl : l.length ≤ 4611686018427387904) : Ev (fun k => laws_eqIntS.f k l l) true := by
  refine ⟨l.length + 1, fun k hk => ?_⟩
  show laws_eqIntS.f k l l = _
  unfold laws_eqIntS.f
  rw [if_pos rfl]
  exact eqIntS_l0 l hl l.length 0 k (by omega) (by omega) (by omega)
def marks (a : Int) (n : Nat) : List Int := (List.range n).map fun (i : Nat) => a + (i : Int)
theorem marks_length (a : Int) (n : Nat) : (marks a n).length = n := by simp [marks]
theorem marks_get (a : Int) (n i : Nat) (h : i < n) : (marks a n).getD i 0 = a + i := by simp [marks, List.getD_eq_getElem?_getD, h]
theorem marks_succ (a : Int) (n : Nat) : marks a (n + 1) = marks a n ++ [a + (n : Int)] := by simp [marks, List.range_succ]
theorem set_marks (a : Int) (l : List Int) (i : Nat) (h : i < l.length) : (marks a i ++ l.drop i).set i (a + (i : Int)) = marks a (i + 1) ++ l.drop (i + 1) := by
  rw [List.set_append_right _ _ (by rw [marks_length]; omega), marks_length, Nat.sub_self, List.drop_eq_getElem_cons h, List.set_cons_zero, marks_succ, List.append_assoc]
  rfl
theorem markIntS_l0 (a : Int) (l : List Int) (ha : 0 ≤ a) (hb : a + l.length ≤ 4611686018427387904) : ∀ (d i k : Nat), l.length - i = d → i ≤ l.length → d < k →
    laws_markIntS.l0 k (marks a i ++ l.drop i) (a + (i : Int)) (i : Int) = some (a + (l.length : Int), marks a l.length) := by
  intro d
  induction d with
  | zero =>
    intro i k hd hi hk
    obtain ⟨k, rfl⟩ : ∃ m, k = m + 1 := ⟨k - 1, by omega⟩
    have : i = l.length := by omega
    subst this
    rw [laws_markIntS.l0, if_neg (by simp [marks_length])]
    simp
  | succ d ih =>
    intro i k hd hi hk
    obtain ⟨k, rfl⟩ : ∃ m, k = m + 1 := ⟨k - 1, by omega⟩
    rw [laws_markIntS.l0, if_pos (by simp [marks_length]; omega), if_pos (by omega), Int.toNat_natCast, set_marks a l i (by omega), wrap_id (by omega) (by omega), wrap_id (by omega) (by omega)]
    rw [show (a + (i : Int) + 1) = a + ((i + 1 : Nat) : Int) from by omega, show ((i : Int) + 1) = ((i + 1 : Nat) : Int) from by omega]
    exact ih (i + 1) k (by omega) (by omega) (by omega)
theorem markIntS_ev (l : List Int) (a : Int) (ha : 0 ≤ a) (hb : a + l.length ≤ 4611686018427387904) : Ev (fun k => laws_markIntS.f k l a) (a + (l.length : Int), marks a l.length) := by
  refine ⟨l.length + 1, fun k hk => ?_⟩
  show laws_markIntS.f k l a = _
  unfold laws_markIntS.f
  have := markIntS_l0 a l ha hb l.length 0 k (by omega) (by omega) (by omega)
  simpa [marks] using this
theorem heldIntS_l0 (a : Int) (n : Nat) (ha : 0 ≤ a) (hb : a + n ≤ 4611686018427387904) : ∀ (d i k : Nat), n - i = d → i ≤ n → d < k →
    laws_heldIntS.l0 k (marks a n) (a + (i : Int)) (i : Int) = some (a + (n : Int)) := by
  intro d
  induction d with
  | zero =>
    intro i k hd hi hk
    obtain ⟨k, rfl⟩ : ∃ m, k = m + 1 := ⟨k - 1, by omega⟩
    have : i = n := by omega
    subst this
    rw [laws_heldIntS.l0, if_neg (by rw [marks_length]; omega)]
  | succ d ih =>
    intro i k hd hi hk
    obtain ⟨k, rfl⟩ : ∃ m, k = m + 1 := ⟨k - 1, by omega⟩
    rw [laws_heldIntS.l0, if_pos (by rw [marks_length]; omega), if_pos (by omega), rd_nat, marks_get a n i (by omega), if_pos rfl, wrap_id (by omega) (by omega), wrap_id (by omega) (by omega)]
    rw [show (a + (i : Int) + 1) = a + ((i + 1 : Nat) : Int) from by omega, show ((i : Int) + 1) = ((i + 1 : Nat) : Int) from by omega]
    exact ih (i + 1) k (by omega) (by omega) (by omega)
theorem heldIntS_ev (a : Int) (n : Nat) (ha : 0 ≤ a) (hb : a + n ≤ 4611686018427387904) : Ev (fun k => laws_heldIntS.f k (marks a n) a) (a + (n : Int)) := by
  refine ⟨n + 1, fun k hk => ?_⟩
  show laws_heldIntS.f k (marks a n) a = _
  unfold laws_heldIntS.f
  have := heldIntS_l0 a n ha hb n 0 k (by omega) (by omega) (by omega)
  simpa using this
end Go.Proofs.Ytdpdmhjmmpncoaa.Lw

namespace Go.Proofs.Ytdpdmhjmmpncoaa.Lw
set_option linter.unusedVariables false
set_option linter.unusedSimpArgs false
open Go.RowKit Go.Proofs.Ytdpdmhjmmpncoaa.P Go.Proofs.YtdpdmhjmmpncoaaW.PrintWords Go.Proofs.YtdpdmhjmmpncoaaW.PrintLast Go.Proofs.YtdpdmhjmmpncoaaW.PrintMore

theorem toIntS_l0 (l : List Int) (hl : l.length ≤ 35184372088832) : ∀ (d i k : Nat), l.length - i = d → i ≤ l.length → d < k →
    laws_toIntS.l0 k l (l.take i ++ List.replicate (l.length - i) 0) (i : Int) = some l := by
  intro d
  induction d with
  | zero =>
    intro i k hd hi hk
    obtain ⟨k, rfl⟩ : ∃ m, k = m + 1 := ⟨k - 1, by omega⟩
    have : i = l.length := by omega
    subst this
    rw [laws_toIntS.l0, if_neg (by omega)]
    simp
  | succ d ih =>
    intro i k hd hi hk
    obtain ⟨k, rfl⟩ : ∃ m, k = m + 1 := ⟨k - 1, by omega⟩
    rw [laws_toIntS.l0, if_pos (by omega), if_pos (by omega), if_pos (by simp; omega), rd_nat, Int.toNat_natCast, set_take l l.length i rfl (by omega)]
    rw [show ((i : Int) + 1) = ((i + 1 : Nat) : Int) from by omega, wrap_id (by omega) (by omega)]
    exact ih (i + 1) k (by omega) (by omega) (by omega)
theorem toIntS_ev (l : List Int) (hl : l.length ≤ 35184372088832) : Ev (fun k => laws_toIntS.f k l) l := by
  refine ⟨l.length + 1, fun k hk => ?_⟩
  show laws_toIntS.f k l = _
  unfold laws_toIntS.f
  rw [if_pos (by omega), if_pos (by simpa using hl)]
  have := toIntS_l0 l hl l.length 0 k (by omega) (by omega) (by omega)
  simpa using this
end Go.Proofs.Ytdpdmhjmmpncoaa.Lw

namespace Go.Proofs.Ytdpdmhjmmpncoaa.Lw
open Go.RowKit Go.Proofs.Ytdpdmhjmmpncoaa.P Go.Proofs.YtdpdmhjmmpncoaaW.PrintWords Go.Proofs.YtdpdmhjmmpncoaaW.PrintLast Go.Proofs.YtdpdmhjmmpncoaaW.PrintMore
set_option linter.unusedVariables false
set_option linter.unusedSimpArgs false

theorem eqGraph_ev (l : List Int) (b : Bool) (hl : l.length ≤ 4611686018427387904) : Ev (fun k => laws_eqGraph.f k l b l b) true := by
  obtain ⟨K, h⟩ := eqIntS_ev l hl
  refine ⟨K, fun k hk => ?_⟩
  show laws_eqGraph.f k l b l b = _
  unfold laws_eqGraph.f
  have := h k hk
  simp only at this
  rw [this]
  simp
theorem markGraph_ev (l : List Int) (b : Bool) (a : Int) (ha : 0 ≤ a) (hb : a + l.length ≤ 4611686018427387904) : Ev (fun k => laws_markGraph.f k l b a) (a + (l.length : Int), marks a l.length) := by
  obtain ⟨K, h⟩ := markIntS_ev l a ha hb
  refine ⟨K, fun k hk => ?_⟩
  show laws_markGraph.f k l b a = _
  unfold laws_markGraph.f
  have := h k hk
  simp only at this
  rw [this]
  simp
end Go.Proofs.Ytdpdmhjmmpncoaa.Lw

namespace Go.Proofs.Ytdpdmhjmmpncoaa.Gr
open Go.RowKit Go.Proofs.Ytdpdmhjmmpncoaa.P Go.Proofs.Ytdpdmhjmmpncoaa.Bt Go.Proofs.Ytdpdmhjmmpncoaa.Lw Go.Proofs.YtdpdmhjmmpncoaaW.PrintWords Go.Proofs.YtdpdmhjmmpncoaaW.PrintLast Go.Proofs.YtdpdmhjmmpncoaaW.PrintMore
set_option linter.unusedVariables false
set_option linter.unusedSimpArgs false

theorem toGraph_ev (l : List Int) (b : Bool) (hl : l.length ≤ 35184372088832) : Ev (fun k => laws_toGraph.f k l b) (l, b) := by
  obtain ⟨K, h⟩ := toIntS_ev l hl
  refine ⟨K, fun k hk => ?_⟩
  show laws_toGraph.f k l b = _
  unfold laws_toGraph.f
  have := h k hk
  simp only at this
  rw [this]; rfl
theorem szGraph_small (l : List Int) (b : Bool) (h : l.length ≤ 1048576) : laws_szGraph.f l b 1048576 = some (1048576 - (l.length : Int)) := by
  unfold laws_szGraph.f laws_szIntS.f
  rw [Bt.wrap_id (by omega) (by omega), if_neg (by omega)]
  simp only [Option.bind_some]
  rw [if_neg (by omega)]
theorem szGraph_big (l : List Int) (b : Bool) (hl : l.length ≤ 9223372036854775807) (h : ¬ l.length ≤ 1048576) : laws_szGraph.f l b 1048576 = some (-1) := by
  unfold laws_szGraph.f laws_szIntS.f
  rw [Bt.wrap_id (by omega) (by omega), if_pos (by omega)]
  rfl
end Go.Proofs.Ytdpdmhjmmpncoaa.Gr

namespace Go.Proofs.Ytdpdmhjmmpncoaa.Lw
open Go.RowKit Go.Proofs.Ytdpdmhjmmpncoaa.P Go.Proofs.YtdpdmhjmmpncoaaW.PrintWords Go.Proofs.YtdpdmhjmmpncoaaW.PrintLast Go.Proofs.YtdpdmhjmmpncoaaW.PrintMore
set_option linter.unusedVariables false
set_option linter.unusedSimpArgs false

/-- Rows marked one after the other, from a on. -/
def marksS : Int → List (List Int) → List (List Int)
  | _, [] => []
  | a, x :: xs => marks a x.length :: marksS (a + (x.length : Int)) xs
/-- How many numbers rows hold. -/
def sizeS : List (List Int) → Nat
  | [] => 0
  | x :: xs => x.length + sizeS xs
theorem marksS_length : ∀ (a : Int) (xs : List (List Int)), (marksS a xs).length = xs.length
  | _, [] => rfl
  | a, x :: xs => by rw [marksS, List.length_cons, List.length_cons, marksS_length]
theorem mkSS_at : ∀ (xs : List (List Int)) (a : Int), 0 ≤ a → a + sizeS xs ≤ 4611686018427387904 → Ev (fun k => mkSS k xs a) (a + (sizeS xs : Int), marksS a xs)
  | [], a, _, _ => ⟨0, fun k _ => by show mkSS k [] a = _; rw [mkSS, sizeS, marksS]; simp⟩
  | x :: xs, a, h0, h1 => by
    rw [sizeS] at h1
    obtain ⟨K1, e1⟩ := markIntS_ev x a h0 (by omega)
    obtain ⟨K2, e2⟩ := mkSS_at xs (a + (x.length : Int)) (by omega) (by omega)
    refine ⟨K1 + K2, fun k hk => ?_⟩
    simp only at e1 e2
    show mkSS k (x :: xs) a = _
    rw [mkSS, e1 k (by omega)]
    simp only [Option.bind_some]
    rw [e2 k (by omega)]
    simp only [Option.bind_some]
    rw [sizeS, marksS, show a + (x.length : Int) + (sizeS xs : Int) = a + ((x.length + sizeS xs : Nat) : Int) by omega]
theorem rdL1_at (xs : List (List Int)) {i : Nat} (h : i < xs.length) : rd_L1 xs (i : Int) = xs[i] := by simp [rd_L1, h]
theorem heldSS_l0 : ∀ (xs ys : List (List Int)) (pre : List (List Int)) (a : Int), ys = pre ++ marksS a xs → 0 ≤ a → a + sizeS xs ≤ 4611686018427387904 → ys.length ≤ 1000000 →
    Ev (fun k => laws_heldIntSS.l0 k ys a (pre.length : Int)) (a + (sizeS xs : Int))
  | [], ys, pre, a, hy, _, _, _ => ⟨1, fun k hk => by
    obtain ⟨k, rfl⟩ : ∃ m, k = m + 1 := ⟨k - 1, by omega⟩
    show laws_heldIntSS.l0 (k + 1) ys a (pre.length : Int) = _
    have : ys.length = pre.length := by rw [hy, marksS, List.append_nil]
    rw [laws_heldIntSS.l0, if_neg (by omega), sizeS]; simp⟩
  | x :: xs, ys, pre, a, hy, h0, h1, hl => by
    rw [sizeS] at h1
    obtain ⟨K1, e1⟩ := heldIntS_ev a x.length h0 (by omega)
    obtain ⟨K2, e2⟩ := heldSS_l0 xs ys (pre ++ [marks a x.length]) (a + (x.length : Int)) (by rw [hy, marksS]; simp) (by omega) (by omega) hl
    refine ⟨K1 + K2 + 1, fun k hk => ?_⟩
    obtain ⟨k, rfl⟩ : ∃ m, k = m + 1 := ⟨k - 1, by omega⟩
    simp only at e1 e2
    have hlen : ys.length = pre.length + (xs.length + 1) := by rw [hy, List.length_append, marksS, List.length_cons, marksS_length]
    have hrow : rd_L1 ys (pre.length : Int) = marks a x.length := by
      rw [rdL1_at ys (by omega)]
      simp only [hy, marksS]
      rw [List.getElem_append_right (by omega)]
      simp
    show laws_heldIntSS.l0 (k + 1) ys a (pre.length : Int) = _
    rw [laws_heldIntSS.l0, if_pos (by omega), if_pos (by omega), hrow, e1 k (by omega)]
    simp only [Option.bind_some]
    rw [if_neg (by omega), show wrap64 ((pre.length : Int) + 1) = ((pre ++ [marks a x.length]).length : Int) by rw [wrap_id (by omega) (by omega)]; simp, e2 k (by omega), sizeS]
    congr 1; omega
theorem heldSS_ev (a : Int) (xs : List (List Int)) (h0 : 0 ≤ a) (h1 : a + sizeS xs ≤ 4611686018427387904) (hl : xs.length ≤ 1000000) : Ev (fun k => laws_heldIntSS.f k (marksS a xs) a) (a + (sizeS xs : Int)) :=
  heldSS_l0 xs (marksS a xs) [] a (by simp) h0 h1 (by rw [marksS_length]; exact hl)
theorem eqSS_l0 (xs : List (List Int)) (hl : xs.length ≤ 1000000) (hs : ∀ x ∈ xs, x.length ≤ 1000000) : ∀ (d i : Nat), i + d = xs.length → Ev (fun k => laws_eqIntSS.l0 k xs xs (i : Int)) true
  | 0, i, hi => ⟨1, fun k hk => by
    obtain ⟨k, rfl⟩ : ∃ m, k = m + 1 := ⟨k - 1, by omega⟩
    show laws_eqIntSS.l0 (k + 1) xs xs (i : Int) = _
    rw [laws_eqIntSS.l0, if_neg (by omega)]⟩
  | d + 1, i, hi => by
    have hlt : i < xs.length := by omega
    obtain ⟨K1, e1⟩ := eqIntS_ev xs[i] (by have := hs _ (List.getElem_mem hlt); omega)
    obtain ⟨K2, e2⟩ := eqSS_l0 xs hl hs d (i + 1) (by omega)
    refine ⟨K1 + K2 + 1, fun k hk => ?_⟩
    obtain ⟨k, rfl⟩ : ∃ m, k = m + 1 := ⟨k - 1, by omega⟩
    simp only at e1 e2
    show laws_eqIntSS.l0 (k + 1) xs xs (i : Int) = _
    rw [laws_eqIntSS.l0]
    repeat rw [if_pos (by omega)]
    rw [rdL1_at xs hlt, e1 k (by omega)]
    simp only [Option.bind_some, if_true]
    rw [show wrap64 ((i : Int) + 1) = ((i + 1 : Nat) : Int) by rw [wrap_id (by omega) (by omega)]; simp]
    exact e2 k (by omega)
theorem eqSS_ev (xs : List (List Int)) (hl : xs.length ≤ 1000000) (hs : ∀ x ∈ xs, x.length ≤ 1000000) : Ev (fun k => laws_eqIntSS.f k xs xs) true := by
  obtain ⟨K, e⟩ := eqSS_l0 xs hl hs xs.length 0 (by omega)
  refine ⟨K, fun k hk => ?_⟩
  simp only at e
  show laws_eqIntSS.f k xs xs = _
  unfold laws_eqIntSS.f
  first
    | exact e k hk
    | (rw [if_pos (by simp)]; exact e k hk)
    | (rw [if_neg (by simp)]; exact e k hk)
end Go.Proofs.Ytdpdmhjmmpncoaa.Lw
