/- The program's ColoursText returns what the reference's returns. No condition. -/
import Derived.Test.YtcdobojoijmaaaaAll
import Derived.Test.YtcdobojoijmaaaaPx5
import Derived.Test.YtcdobojoijmaaaaPx8
namespace Go.Proofs.Ytcdobojoijmaaaa.Pure
open Go.RowKit Go.Proofs.Ytcdobojoijmaaaa.P Go.Proofs.Ytcdobojoijmaaaa.Lw Go.Proofs.YtcdobojoijmaaaaW.PrintWords Go.Proofs.YtcdobojoijmaaaaW.PrintLast Go.Proofs.YtcdobojoijmaaaaW.PrintMore
set_option linter.unusedVariables false
set_option linter.unusedSimpArgs false

def digs (l : List Int) : List Int := l.map fun x => wrap64 (48 + x) % 256
theorem str_append (a b : List Int) : strOfNums a ++ strOfNums b = strOfNums (a ++ b) := by
  apply ByteArray.ext
  rw [ByteArray.data_append]
  simp [strOfNums]
theorem str_size (a : List Int) : (strOfNums a).size = a.length := by
  show (strOfNums a).data.size = _
  simp [strOfNums]
theorem digs_snoc (l : List Int) (i : Nat) (h : i < l.length) : digs (l.take i) ++ [wrap64 (48 + l.getD i 0) % 256] = digs (l.take (i + 1)) := by
  rw [List.take_succ_eq_append_getElem h, digs, digs, List.map_append, List.getD_eq_getElem?_getD, List.getElem?_eq_getElem h]
  rfl
theorem digs_length (l : List Int) : (digs l).length = l.length := by simp [digs]
theorem spec_loop (l : List Int) (hl : l.length ≤ 10) (hall : ∀ x ∈ l, 0 ≤ x ∧ x ≤ 9) : ∀ (d i k : Nat), l.length - i = d → i ≤ l.length → d + 1 < k →
    spec_ColoursText.l0 k (strOfNums (digs (l.take i))) l (l.length : Int) (i : Int) = some (strOfNums (digs l), true) := by
  intro d
  induction d with
  | zero =>
    intro i k hd hi hk
    obtain ⟨k, rfl⟩ : ∃ m, k = m + 1 := ⟨k - 1, by omega⟩
    rw [spec_ColoursText.l0, if_neg (by omega), List.take_of_length_le (by omega)]
  | succ d ih =>
    intro i k hd hi hk
    obtain ⟨k, rfl⟩ : ∃ m, k = m + 2 := ⟨k - 2, by omega⟩
    have hx := hall (l.getD i 0) (by rw [List.getD_eq_getElem?_getD, List.getElem?_eq_getElem (by omega)]; exact List.getElem_mem _)
    have e1 : spec_l1Num.f (k + 1) (l.getD i 0) = some (strOfNums [wrap64 (48 + l.getD i 0) % 256]) := by
      rw [spec_l1Num.f, if_pos (by omega)]
    rw [spec_ColoursText.l0, if_pos (by omega), if_pos (by omega), if_pos (by omega), rd_nat, e1]
    simp only [Option.bind_some]
    rw [if_pos (by rw [str_size, str_size, digs_length, List.length_take]; simp; omega), str_append, digs_snoc l i (by omega), wrap_id (by omega) (by omega), show ((i : Int) + 1) = ((i + 1 : Nat) : Int) from by omega]
    exact ih (i + 1) (k + 1) (by omega) (by omega) (by omega)
theorem impl_loop (l : List Int) (hl : l.length ≤ 10) : ∀ (d i k : Nat), l.length - i = d → i ≤ l.length → d < k →
    impl_ColoursText.l0 k (digs (l.take i)) l (l.length : Int) (i : Int) = some (strOfNums (digs l), true) := by
  intro d
  induction d with
  | zero =>
    intro i k hd hi hk
    obtain ⟨k, rfl⟩ : ∃ m, k = m + 1 := ⟨k - 1, by omega⟩
    rw [impl_ColoursText.l0, if_neg (by omega), List.take_of_length_le (by omega)]
  | succ d ih =>
    intro i k hd hi hk
    obtain ⟨k, rfl⟩ : ∃ m, k = m + 1 := ⟨k - 1, by omega⟩
    rw [impl_ColoursText.l0, if_pos (by omega), if_pos (by omega), if_pos (by omega), rd_nat, if_pos (by rw [digs_length, List.length_take]; omega), digs_snoc l i (by omega), wrap_id (by omega) (by omega), show ((i : Int) + 1) = ((i + 1 : Nat) : Int) from by omega]
    exact ih (i + 1) k (by omega) (by omega) (by omega)
theorem FnExactColoursText : laws_FnExactColoursText.Pure := by
  intro l _ _ _
  by_cases hbig : (l.length : Int) > 1048576
  · exact ⟨0, by unfold laws_FnExactColoursText.f; rw [if_pos hbig]⟩
  · obtain ⟨K3, t⟩ := toIntS_ev l (by omega)
    obtain ⟨K4, e⟩ := eqIntS_ev l (by omega)
    simp only at t e
    have both : ∃ r : ByteArray × Bool, (∀ k, l.length + 20 < k → spec_ColoursText.f k l = some r) ∧ (∀ k, l.length + 20 < k → impl_ColoursText.f k l = some r) := by
      by_cases c : (decide (1 ≤ (l.length : Int)) && decide ((l.length : Int) ≤ 10) && l.all fun x => decide (0 ≤ x) && decide (x ≤ 9)) = true
      · refine ⟨(strOfNums (digs l), true), fun k hk => ?_, fun k hk => ?_⟩
        · obtain ⟨k, rfl⟩ : ∃ m, k = m + 1 := ⟨k - 1, by omega⟩
          rw [Bool.and_eq_true] at c
          unfold spec_ColoursText.f
          rw [l1In_val, c.1, l1All_at l 0 9 (by omega) (k + 1) (by omega), c.2]
          simp only [Option.bind_some, if_true, Bool.not_true]
          have hc := c.1
          simp only [Bool.and_eq_true, decide_eq_true_eq] at hc
          have hc2 := c.2
          simp only [List.all_eq_true, Bool.and_eq_true, decide_eq_true_eq] at hc2
          rw [spec_ColoursText.j0, if_neg (by simp)]
          exact spec_loop l (by omega) hc2 l.length 0 k (by omega) (by omega) (by omega)
        · unfold impl_ColoursText.f impl_isDigits.f
          rw [c]
          simp only [Option.bind_some, if_true]
          simp only [Bool.and_eq_true, decide_eq_true_eq] at c
          exact impl_loop l (by omega) l.length 0 k (by omega) (by omega) (by omega)
      · refine ⟨(⟨#[]⟩, false), fun k hk => ?_, fun k hk => ?_⟩
        · obtain ⟨k, rfl⟩ : ∃ m, k = m + 1 := ⟨k - 1, by omega⟩
          unfold spec_ColoursText.f
          rw [l1In_val]
          simp only [Option.bind_some]
          have j0t : spec_ColoursText.j0 (k + 1) l true = some (⟨#[]⟩, false) := by rw [spec_ColoursText.j0]; simp
          rw [j0t]
          by_cases c1 : (decide (1 ≤ (l.length : Int)) && decide ((l.length : Int) ≤ 10)) = true
          · rw [if_pos c1, l1All_at l 0 9 (by omega) (k + 1) (by omega)]
            simp only [Option.bind_some]
            have : (l.all fun x => decide (0 ≤ x) && decide (x ≤ 9)) = false := by
              rw [Bool.eq_false_iff]; intro h; rw [c1, h] at c; exact c rfl
            rw [this, Bool.not_false, j0t]
          · rw [if_neg c1]
        · unfold impl_ColoursText.f impl_isDigits.f
          rw [Bool.eq_false_iff.mpr c]; rfl
    obtain ⟨⟨s, ok⟩, h1, h2⟩ := both
    refine ⟨K3 + K4 + l.length + 30, ?_⟩
    generalize hk : K3 + K4 + l.length + 29 = K
    rw [show K3 + K4 + l.length + 30 = K + 1 by omega]
    unfold laws_FnExactColoursText.f
    rw [if_neg hbig, t (K + 1) (by omega)]
    simp only [Option.bind_some]
    rw [h1 (K + 1) (by omega), h2 (K + 1) (by omega)]
    simp only [Option.bind_some, if_true, bne_self_eq_false]
    rw [laws_FnExactColoursText.j0, if_neg (by simp), t K (by omega)]
    simp only [Option.bind_some]
    rw [e K (by omega)]
    simp
end Go.Proofs.Ytcdobojoijmaaaa.Pure
