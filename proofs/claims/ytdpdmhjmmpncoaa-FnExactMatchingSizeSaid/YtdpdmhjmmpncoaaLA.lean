/- What the laws' own helpers answer: comparisons, marks. What the laws' own helpers answer: copies. What the laws' helpers on graphs answer. A graph's copy, and its size. -/
import Derived.Test.YtdpdmhjmmpncoaaGA
import Derived.Test.YtdpdmhjmmpncoaaPx2
import Derived.Test.YtdpdmhjmmpncoaaPx6
import Derived.Test.YtdpdmhjmmpncoaaPx1
namespace Go.Proofs.Ytdpdmhjmmpncoaa.Lw
set_option linter.unusedVariables false
set_option linter.unusedSimpArgs false
open Go.RowKit Go.Proofs.Ytdpdmhjmmpncoaa.P Go.Proofs.YtdpdmhjmmpncoaaW.PrintWords Go.Proofs.YtdpdmhjmmpncoaaW.PrintLast Go.Proofs.YtdpdmhjmmpncoaaW.PrintMore

theorem set_take (l : List Int) (n i : Nat) (hn : l.length = n) (h : i < n) : (l.take i ++ List.replicate (n - i) 0).set i (l.getD i 0) = l.take (i + 1) ++ List.replicate (n - (i + 1)) 0 := by
  obtain ⟨m, hm⟩ : ∃ m, n - i = m + 1 := ⟨n - i - 1, by omega⟩
  have h1 : (l.take i).length = i := by rw [List.length_take]; omega
  rw [List.set_append_right _ _ (by omega), h1, Nat.sub_self, hm, List.replicate_succ, List.set_cons_zero, show n - (i + 1) = m by omega, List.take_succ_eq_append_getElem (by omega), List.append_assoc, List.getD_eq_getElem?_getD, List.getElem?_eq_getElem (by omega)]
  rfl
theorem eqIntS_l0 (l : List Int) (hl : l.length ≤ 4611686018427387904) : ∀ (d i k : Nat), l.length - i = d → i ≤ l.length → d < k → laws_eqIntS.l0 k l l (i : Int) = some true := by
  intro d
  induction d with
  | zero =>
    intro i k hd hi hk
    obtain ⟨k, rfl⟩ : ∃ m, k = m + 1 := ⟨k - 1, by omega⟩
    rw [laws_eqIntS.l0, if_neg (by omega)]
  | succ d ih =>
    intro i k hd hi hk
    obtain ⟨k, rfl⟩ : ∃ m, k = m + 1 := ⟨k - 1, by omega⟩
    rw [laws_eqIntS.l0, if_pos (by omega), if_pos (by omega), if_pos (by omega), if_pos rfl, wrap_id (by omega) (by omega), show ((i : Int) + 1) = ((i + 1 : Nat) : Int) from by omega]
    exact ih (i + 1) k (by omega) (by omega) (by omega)
theorem eqIntS_ev (l : List Int) (hl : l.length ≤ 4611686018427387904) : Ev (fun k => laws_eqIntS.f k l l) true := by
  refine ⟨l.length + 1, fun k hk => ?_⟩
  show laws_eqIntS.f k l l = _
  unfold laws_eqIntS.f
  rw [if_pos rfl]
  exact eqIntS_l0 l hl l.length 0 k (by omega) (by omega) (by omega)
def marks (a : Int) (n : Nat) : List Int := (List.range n).map fun (i : Nat) => a + (i : Int)
theorem marks_length (a : Int) (n : Nat) : (marks a n).length = n := by simp [marks]
theorem marks_get (a : Int) (n i : Nat) (h : i < n) : (marks a n).getD i 0 = a + i := by simp [marks, List.getD_eq_getElem?_getD, h]
theorem marks_succ (a : Int) (n : Nat) : marks a (n + 1) = marks a n ++ [a + (n : Int)] := by simp [marks, List.range_succ]
theorem set_marks (a : Int) (l : List Int) (i : Nat) (h : i < l.length) : (marks a i ++ l.drop i).set i (a + (i : Int)) = marks a (i + 1) ++ l.drop (i + 1) := by
  rw [List.set_append_right _ _ (by rw [marks_length]; omega), marks_length, Nat.sub_self, List.drop_eq_getElem_cons h, List.set_cons_zero, marks_succ, List.append_assoc]
  rfl
theorem markIntS_l0 (a : Int) (l : List Int) (ha : 0 ≤ a) (hb : a + l.length ≤ 4611686018427387904) : ∀ (d i k : Nat), l.length - i = d → i ≤ l.length → d < k →
    laws_markIntS.l0 k (marks a i ++ l.drop i) (a + (i : Int)) (i : Int) = some (a + (l.length : Int), marks a l.length) := by
  intro d
  induction d with
  | zero =>
    intro i k hd hi hk
    obtain ⟨k, rfl⟩ : ∃ m, k = m + 1 := ⟨k - 1, by omega⟩
    have : i = l.length := by omega
    subst this
    rw [laws_markIntS.l0, if_neg (by simp [marks_length])]
    simp
  | succ d ih =>
    intro i k hd hi hk
    obtain ⟨k, rfl⟩ : ∃ m, k = m + 1 := ⟨k - 1, by omega⟩
    rw [laws_markIntS.l0, if_pos (by simp [marks_length]; omega), if_pos (by omega), Int.toNat_natCast, set_marks a l i (by omega), wrap_id (by omega) (by omega), wrap_id (by omega) (by omega)]
    rw [show (a + (i : Int) + 1) = a + ((i + 1 : Nat) : Int) from by omega, show ((i : Int) + 1) = ((i + 1 : Nat) : Int) from by omega]
    exact ih (i + 1) k (by omega) (by omega) (by omega)
theorem markIntS_ev (l : List Int) (a : Int) (ha : 0 ≤ a) (hb : a + l.length ≤ 4611686018427387904) : Ev (fun k => laws_markIntS.f k l a) (a + (l.length : Int), marks a l.length) := by
  refine ⟨l.length + 1, fun k hk => ?_⟩
  show laws_markIntS.f k l a = _
  unfold laws_markIntS.f
  have := markIntS_l0 a l ha hb l.length 0 k (by omega) (by omega) (by omega)
  simpa [marks] using this
theorem heldIntS_l0 (a : Int) (n : Nat) (ha : 0 ≤ a) (hb : a + n ≤ 4611686018427387904) : ∀ (d i k : Nat), n - i = d → i ≤ n → d < k →
    laws_heldIntS.l0 k (marks a n) (a + (i : Int)) (i : Int) = some (a + (n : Int)) := by
  intro d
  induction d with
  | zero =>
    intro i k hd hi hk
    obtain ⟨k, rfl⟩ : ∃ m, k = m + 1 := ⟨k - 1, by omega⟩
    have : i = n := by omega
    subst this
    rw [laws_heldIntS.l0, if_neg (by rw [marks_length]; omega)]
  | succ d ih =>
    intro i k hd hi hk
    obtain ⟨k, rfl⟩ : ∃ m, k = m + 1 := ⟨k - 1, by omega⟩
    rw [laws_heldIntS.l0, if_pos (by rw [marks_length]; omega), if_pos (by omega), rd_nat, marks_get a n i (by omega), if_pos rfl, wrap_id (by omega) (by omega), wrap_id (by omega) (by omega)]
    rw [show (a + (i : Int) + 1) = a + ((i + 1 : Nat) : Int) from by omega, show ((i : Int) + 1) = ((i + 1 : Nat) : Int) from by omega]
    exact ih (i + 1) k (by omega) (by omega) (by omega)
theorem heldIntS_ev (a : Int) (n : Nat) (ha : 0 ≤ a) (hb : a + n ≤ 4611686018427387904) : Ev (fun k => laws_heldIntS.f k (marks a n) a) (a + (n : Int)) := by
  refine ⟨n + 1, fun k hk => ?_⟩
  show laws_heldIntS.f k (marks a n) a = _
  unfold laws_heldIntS.f
  have := heldIntS_l0 a n ha hb n 0 k (by omega) (by omega) (by omega)
  simpa using this
end Go.Proofs.Ytdpdmhjmmpncoaa.Lw

namespace Go.Proofs.Ytdpdmhjmmpncoaa.Lw
set_option linter.unusedVariables false
set_option linter.unusedSimpArgs false
open Go.RowKit Go.Proofs.Ytdpdmhjmmpncoaa.P Go.Proofs.YtdpdmhjmmpncoaaW.PrintWords Go.Proofs.YtdpdmhjmmpncoaaW.PrintLast Go.Proofs.YtdpdmhjmmpncoaaW.PrintMore

theorem toIntS_l0 (l : List Int) (hl : l.length ≤ 35184372088832) : ∀ (d i k : Nat), l.length - i = d → i ≤ l.length → d < k →
    laws_toIntS.l0 k l (l.take i ++ List.replicate (l.length - i) 0) (i : Int) = some l := by
  intro d
  induction d with
  | zero =>
    intro i k hd hi hk
    obtain ⟨k, rfl⟩ : ∃ m, k = m + 1 := ⟨k - 1, by omega⟩
    have : i = l.length := by omega
    subst this
    rw [laws_toIntS.l0, if_neg (by omega)]
    simp
  | succ d ih =>
    intro i k hd hi hk
    obtain ⟨k, rfl⟩ : ∃ m, k = m + 1 := ⟨k - 1, by omega⟩
    rw [laws_toIntS.l0, if_pos (by omega), if_pos (by omega), if_pos (by simp; omega), rd_nat, Int.toNat_natCast, set_take l l.length i rfl (by omega)]
    rw [show ((i : Int) + 1) = ((i + 1 : Nat) : Int) from by omega, wrap_id (by omega) (by omega)]
    exact ih (i + 1) k (by omega) (by omega) (by omega)
theorem toIntS_ev (l : List Int) (hl : l.length ≤ 35184372088832) : Ev (fun k => laws_toIntS.f k l) l := by
  refine ⟨l.length + 1, fun k hk => ?_⟩
  show laws_toIntS.f k l = _
  unfold laws_toIntS.f
  rw [if_pos (by omega), if_pos (by simpa using hl)]
  have := toIntS_l0 l hl l.length 0 k (by omega) (by omega) (by omega)
  simpa using this
end Go.Proofs.Ytdpdmhjmmpncoaa.Lw

namespace Go.Proofs.Ytdpdmhjmmpncoaa.Lw
open Go.RowKit Go.Proofs.Ytdpdmhjmmpncoaa.P Go.Proofs.YtdpdmhjmmpncoaaW.PrintWords Go.Proofs.YtdpdmhjmmpncoaaW.PrintLast Go.Proofs.YtdpdmhjmmpncoaaW.PrintMore
set_option linter.unusedVariables false
set_option linter.unusedSimpArgs false

theorem eqGraph_ev (l : List Int) (b : Bool) (hl : l.length ≤ 4611686018427387904) : Ev (fun k => laws_eqGraph.f k l b l b) true := by
  obtain ⟨K, h⟩ := eqIntS_ev l hl
  refine ⟨K, fun k hk => ?_⟩
  show laws_eqGraph.f k l b l b = _
  unfold laws_eqGraph.f
  have := h k hk
  simp only at this
  rw [this]
  simp
theorem markGraph_ev (l : List Int) (b : Bool) (a : Int) (ha : 0 ≤ a) (hb : a + l.length ≤ 4611686018427387904) : Ev (fun k => laws_markGraph.f k l b a) (a + (l.length : Int), marks a l.length) := by
  obtain ⟨K, h⟩ := markIntS_ev l a ha hb
  refine ⟨K, fun k hk => ?_⟩
  show laws_markGraph.f k l b a = _
  unfold laws_markGraph.f
  have := h k hk
  simp only at this
  rw [this]
  simp
end Go.Proofs.Ytdpdmhjmmpncoaa.Lw

namespace Go.Proofs.Ytdpdmhjmmpncoaa.Gr
open Go.RowKit Go.Proofs.Ytdpdmhjmmpncoaa.P Go.Proofs.Ytdpdmhjmmpncoaa.Bt Go.Proofs.Ytdpdmhjmmpncoaa.Lw Go.Proofs.YtdpdmhjmmpncoaaW.PrintWords Go.Proofs.YtdpdmhjmmpncoaaW.PrintLast Go.Proofs.YtdpdmhjmmpncoaaW.PrintMore
set_option linter.unusedVariables false
set_option linter.unusedSimpArgs false

theorem toGraph_ev (l : List Int) (b : Bool) (hl : l.length ≤ 35184372088832) : Ev (fun k => laws_toGraph.f k l b) (l, b) := by
  obtain ⟨K, h⟩ := toIntS_ev l hl
  refine ⟨K, fun k hk => ?_⟩
  show laws_toGraph.f k l b = _
  unfold laws_toGraph.f
  have := h k hk
  simp only at this
  rw [this]; rfl
theorem szGraph_small (l : List Int) (b : Bool) (h : l.length ≤ 1048576) : laws_szGraph.f l b 1048576 = some (1048576 - (l.length : Int)) := by
  unfold laws_szGraph.f laws_szIntS.f
  rw [Bt.wrap_id (by omega) (by omega), if_neg (by omega)]
  simp only [Option.bind_some]
  rw [if_neg (by omega)]
theorem szGraph_big (l : List Int) (b : Bool) (hl : l.length ≤ 9223372036854775807) (h : ¬ l.length ≤ 1048576) : laws_szGraph.f l b 1048576 = some (-1) := by
  unfold laws_szGraph.f laws_szIntS.f
  rw [Bt.wrap_id (by omega) (by omega), if_pos (by omega)]
  rfl
end Go.Proofs.Ytdpdmhjmmpncoaa.Gr
