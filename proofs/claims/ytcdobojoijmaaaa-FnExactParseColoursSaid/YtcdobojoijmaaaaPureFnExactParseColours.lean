/- The program's ParseColours returns what the reference's returns. No condition. -/
import Derived.Test.YtcdobojoijmaaaaAll
import Derived.Test.YtcdobojoijmaaaaPx1
import Derived.Test.YtcdobojoijmaaaaPx3
import Derived.Test.YtcdobojoijmaaaaPx4
import Derived.Test.YtcdobojoijmaaaaPx5
namespace Go.Proofs.Ytcdobojoijmaaaa.Pure
open Go.RowKit Go.Proofs.Ytcdobojoijmaaaa.P Go.Proofs.Ytcdobojoijmaaaa.Lw Go.Proofs.YtcdobojoijmaaaaW.PrintWords Go.Proofs.YtcdobojoijmaaaaW.PrintLast Go.Proofs.YtcdobojoijmaaaaW.PrintMore
set_option linter.unusedVariables false
set_option linter.unusedSimpArgs false

/-- The bytes from i on, less 48. -/
def valsFrom (s : ByteArray) : Nat → Nat → List Int
  | 0, _ => []
  | d + 1, i => (bt s (i : Int) - 48) :: valsFrom s d (i + 1)
def okDig (x : Int) : Bool := decide (0 ≤ x) && decide (x ≤ 9)
theorem valsFrom_length (s : ByteArray) : ∀ d i, (valsFrom s d i).length = d
  | 0, _ => rfl
  | d + 1, i => by simp [valsFrom, valsFrom_length s d (i + 1)]
theorem impl_loop' (s : ByteArray) (hs : s.size ≤ 10) : ∀ (d i k : Nat) (acc : List Int), s.size - i = d → i ≤ s.size → acc.length = i → d < k →
    impl_ParseColours.l0 k s acc (s.size : Int) (i : Int) = (impl_isDigits.f (acc ++ valsFrom s d i)).bind fun t => if t = true then some (acc ++ valsFrom s d i, true) else some ([], false) := by
  intro d
  induction d with
  | zero =>
    intro i k acc hd hi ha hk
    obtain ⟨k, rfl⟩ : ∃ m, k = m + 1 := ⟨k - 1, by omega⟩
    rw [impl_ParseColours.l0, if_neg (by omega), valsFrom, List.append_nil]
  | succ d ih =>
    intro i k acc hd hi ha hk
    obtain ⟨k, rfl⟩ : ∃ m, k = m + 1 := ⟨k - 1, by omega⟩
    have hb := bt_range s (i : Int)
    rw [impl_ParseColours.l0, if_pos (by omega), if_pos (by omega), if_pos (by omega), if_pos (by omega), wrap_id (x := bt s (i : Int)) (by omega) (by omega), wrap_id (x := bt s (i : Int) - 48) (by omega) (by omega), wrap_id (by omega) (by omega), show ((i : Int) + 1) = ((i + 1 : Nat) : Int) from by omega]
    rw [ih (i + 1) k (acc ++ [bt s (i : Int) - 48]) (by omega) (by omega) (by simp; omega) (by omega), valsFrom, List.append_assoc]
    rfl
theorem spec_loop' (s : ByteArray) (hs : s.size ≤ 10) : ∀ (d i k : Nat) (acc : List Int), s.size - i = d → i ≤ s.size → acc.length = i → d < k →
    spec_clParse.l0 k s acc (i : Int) = if (valsFrom s d i).all okDig = true then some (acc ++ valsFrom s d i, true) else some ([], false) := by
  intro d
  induction d with
  | zero =>
    intro i k acc hd hi ha hk
    obtain ⟨k, rfl⟩ : ∃ m, k = m + 1 := ⟨k - 1, by omega⟩
    rw [spec_clParse.l0, if_neg (by omega)]
    simp [valsFrom]
  | succ d ih =>
    intro i k acc hd hi ha hk
    obtain ⟨k, rfl⟩ : ∃ m, k = m + 1 := ⟨k - 1, by omega⟩
    have hb := bt_range s (i : Int)
    rw [spec_clParse.l0, if_pos (by omega), if_pos (by omega), valsFrom, List.all_cons]
    by_cases c1 : bt s (i : Int) < 48
    · have : okDig (bt s (i : Int) - 48) = false := by simp [okDig]; omega
      rw [if_pos c1, this, Bool.false_and, if_neg (by simp)]
    · by_cases c2 : bt s (i : Int) > 57
      · have : okDig (bt s (i : Int) - 48) = false := by simp [okDig]; omega
        rw [if_neg c1, if_pos c2, this, Bool.false_and, if_neg (by simp)]
      · have : okDig (bt s (i : Int) - 48) = true := by simp [okDig]; omega
        rw [if_neg c1, if_neg c2, if_pos (by omega), this, Bool.true_and, show (bt s (i : Int) - 48) % 256 = bt s (i : Int) - 48 from by omega, wrap_id (by omega) (by omega), show ((i : Int) + 1) = ((i + 1 : Nat) : Int) from by omega]
        rw [ih (i + 1) k (acc ++ [bt s (i : Int) - 48]) (by omega) (by omega) (by simp; omega) (by omega), List.append_assoc]
        rfl
theorem in_val (a b c : Int) : impl_in.f a b c = some (decide (b ≤ a) && decide (a ≤ c)) := by
  unfold impl_in.f
  by_cases h : b ≤ a
  · rw [if_pos h]; simp [h]
  · rw [if_neg h]; simp [h]
theorem FnExactParseColours : laws_FnExactParseColours.Pure := by
  intro s _
  by_cases hbig : (s.size : Int) > 1048576
  · exact ⟨0, by unfold laws_FnExactParseColours.f; rw [if_pos hbig]⟩
  · have both : ∃ r : List Int × Bool, r.1.length ≤ 10 ∧ (∀ k, 20 < k → spec_ParseColours.f k s = some r) ∧ (∀ k, 20 < k → impl_ParseColours.f k s = some r) := by
      by_cases c : (decide (1 ≤ (s.size : Int)) && decide ((s.size : Int) ≤ 10)) = true
      · have hc := c
        simp only [Bool.and_eq_true, decide_eq_true_eq] at hc
        have hlen := valsFrom_length s s.size 0
        by_cases a : (valsFrom s s.size 0).all okDig = true
        · refine ⟨(valsFrom s s.size 0, true), by show (valsFrom s s.size 0).length ≤ 10; omega, fun k hk => ?_, fun k hk => ?_⟩
          · unfold spec_ParseColours.f spec_clParse.f
            rw [l1In_val, c]
            simp only [Option.bind_some, if_true]
            have sl : spec_clParse.l0 k s [] 0 = _ := spec_loop' s (by omega) s.size 0 k [] (by omega) (by omega) rfl (by omega)
            rw [sl, if_pos a]
            rfl
          · unfold impl_ParseColours.f
            rw [in_val, c]
            simp only [Option.bind_some, if_true]
            have il : impl_ParseColours.l0 k s [] (s.size : Int) 0 = _ := impl_loop' s (by omega) s.size 0 k [] (by omega) (by omega) rfl (by omega)
            rw [il]
            unfold impl_isDigits.f
            rw [List.nil_append, hlen, c]
            have a' := a
            unfold okDig at a'
            simp only [Option.bind_some, Bool.true_and]
            rw [a', if_pos rfl]
        · refine ⟨([], false), by simp, fun k hk => ?_, fun k hk => ?_⟩
          · unfold spec_ParseColours.f spec_clParse.f
            rw [l1In_val, c]
            simp only [Option.bind_some, if_true]
            have sl : spec_clParse.l0 k s [] 0 = _ := spec_loop' s (by omega) s.size 0 k [] (by omega) (by omega) rfl (by omega)
            rw [sl, if_neg a]
            rfl
          · unfold impl_ParseColours.f
            rw [in_val, c]
            simp only [Option.bind_some, if_true]
            have il : impl_ParseColours.l0 k s [] (s.size : Int) 0 = _ := impl_loop' s (by omega) s.size 0 k [] (by omega) (by omega) rfl (by omega)
            rw [il]
            unfold impl_isDigits.f
            rw [List.nil_append, hlen, c]
            have a' := Bool.eq_false_iff.mpr a
            unfold okDig at a'
            simp only [Option.bind_some, Bool.true_and]
            rw [a', if_neg (by simp)]
      · refine ⟨([], false), by simp, fun k hk => ?_, fun k hk => ?_⟩
        · unfold spec_ParseColours.f spec_clParse.f
          rw [l1In_val, Bool.eq_false_iff.mpr c]; rfl
        · unfold impl_ParseColours.f
          rw [in_val, Bool.eq_false_iff.mpr c]; rfl
    obtain ⟨⟨l, ok⟩, hl, h1, h2⟩ := both
    simp only at hl
    obtain ⟨K4, e⟩ := eqIntS_ev l (by omega)
    obtain ⟨K5, m⟩ := markIntS_ev l 1 (by omega) (by omega)
    obtain ⟨K6, hd⟩ := heldIntS_ev 1 l.length (by omega) (by omega)
    simp only at e m hd
    refine ⟨K4 + K5 + K6 + 30, ?_⟩
    generalize hk : K4 + K5 + K6 + 28 = K
    rw [show K4 + K5 + K6 + 30 = K + 2 by omega]
    unfold laws_FnExactParseColours.f
    rw [if_neg hbig, h1 (K + 2) (by omega), h2 (K + 2) (by omega)]
    simp only [Option.bind_some]
    rw [e (K + 2) (by omega)]
    simp only [Option.bind_some, if_true, bne_self_eq_false]
    rw [laws_FnExactParseColours.j0, if_neg (by simp), m (K + 1) (by omega)]
    simp only [Option.bind_some]
    rw [hd (K + 1) (by omega)]
    simp only [Option.bind_some]
    rw [if_neg (by omega), if_pos (by trivial), h2 (K + 1) (by omega)]
    simp only [Option.bind_some]
    rw [e (K + 1) (by omega)]
    simp only [Option.bind_some, if_true, bne_self_eq_false]
    rw [laws_FnExactParseColours.j1, if_neg (by simp), hd K (by omega)]
    simp only [Option.bind_some]
    rw [if_neg (by omega), if_pos (by trivial)]
end Go.Proofs.Ytcdobojoijmaaaa.Pure
