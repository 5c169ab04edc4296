/- The program's FromParents returns what the reference's returns. No condition. -/
import Derived.Test.YtcdobojoijmaaaaLawG
import Derived.Test.YtcdobojoijmaaaaWMore
import Derived.Test.YtcdobojoijmaaaaPx1
import Derived.Test.YtcdobojoijmaaaaPx6
import Derived.Test.YtcdobojoijmaaaaPx7
import Derived.Test.YtcdobojoijmaaaaPx8
import Derived.Test.YtcdobojoijmaaaaPx9
import Derived.Test.YtcdobojoijmaaaaPx10
namespace Go.Proofs.Ytcdobojoijmaaaa.Pure
open Go.RowKit Go.Proofs.Ytcdobojoijmaaaa.P Go.Proofs.Ytcdobojoijmaaaa.Lw Go.Proofs.YtcdobojoijmaaaaW.PrintWords Go.Proofs.YtcdobojoijmaaaaW.PrintLast Go.Proofs.YtcdobojoijmaaaaW.PrintMore
set_option linter.unusedVariables false
set_option linter.unusedSimpArgs false

theorem rd_set_ne (l : List Int) (i j : Int) (x : Int) (hi : 0 ≤ i) (hj : 0 ≤ j) (h : i ≠ j) : rd (l.set i.toNat x) j = rd l j := by
  unfold rd
  rw [List.getD_eq_getElem?_getD, List.getD_eq_getElem?_getD, List.getElem?_set_ne (by omega)]
/-- Adding an edge from either end. -/
theorem add_join (l : List Int) (b : Bool) (p i : Int) (hp : 0 ≤ p) (hpi : p < i) (hi : i < l.length) :
    ∃ l' : List Int, l'.length = l.length ∧ spec_grAdd.f l b p i = some l' ∧ impl_Graph_join.f l b i p = some l' := by
  refine ⟨(l.set p.toNat (Go.bits .or .i64 (rd l p) (shl .i64 1 i))).set i.toNat (Go.bits .or .i64 (rd l i) (shl .i64 1 p)), by simp, ?_, ?_⟩
  · unfold spec_grAdd.f
    rw [if_pos hp, if_pos (by omega), if_pos (by omega)]
    simp only [Option.bind_some]
    rw [if_pos hi, rd_set_ne _ _ _ _ hp (by omega) (by omega)]
  · unfold impl_Graph_join.f
    rw [if_pos (by omega), if_pos hi, if_pos (by omega)]
    simp only [Option.bind_some]
    rw [if_pos (by omega), rd_set_ne _ _ _ _ (by omega) hp (by omega), List.set_comm _ _ (by omega)]
theorem loops (l : List Int) (hl : l.length ≤ 16) (b : Bool) : ∀ (d i k : Nat) (near : List Int), l.length - i = d → i ≤ l.length → near.length = l.length → d < k →
    ∃ r : List Int × Bool × Bool, r.1.length ≤ 16 ∧ spec_FromParents.l0 k l (l.length : Int) (i : Int) near b = some r ∧ impl_FromParents.l0 k l (l.length : Int) (i : Int) near b = some r := by
  intro d
  induction d with
  | zero =>
    intro i k near hd hi hn hk
    obtain ⟨k, rfl⟩ : ∃ m, k = m + 1 := ⟨k - 1, by omega⟩
    refine ⟨(near, b, true), by show near.length ≤ 16; omega, ?_, ?_⟩
    · rw [spec_FromParents.l0, if_neg (by omega)]
    · rw [impl_FromParents.l0, if_neg (by omega)]
  | succ d ih =>
    intro i k near hd hi hn hk
    obtain ⟨k, rfl⟩ : ∃ m, k = m + 1 := ⟨k - 1, by omega⟩
    rw [spec_FromParents.l0, impl_FromParents.l0]
    simp only [show (i : Int) < (l.length : Int) from by omega, show (0 : Int) ≤ (i : Int) from by omega, if_true]
    rw [wrap_id (by omega) (by omega), wrap_id (by omega) (by omega), show ((i : Int) + 1) = ((i + 1 : Nat) : Int) from by omega]
    generalize rd l (i : Int) = p
    have e1 : spec_l1In.f p (-1) ((i : Int) - 1) = some (decide (-1 ≤ p) && decide (p ≤ (i : Int) - 1)) := by
      unfold spec_l1In.f
      by_cases c : (-1 : Int) ≤ p
      · rw [if_pos c]; simp [c]
      · rw [if_neg c]; simp [c]
    have e2 : impl_in.f p (-1) ((i : Int) - 1) = some (decide (-1 ≤ p) && decide (p ≤ (i : Int) - 1)) := by
      unfold impl_in.f
      by_cases c : (-1 : Int) ≤ p
      · rw [if_pos c]; simp [c]
      · rw [if_neg c]; simp [c]
    rw [e1, e2]
    simp only [Option.bind_some]
    by_cases c : (decide (-1 ≤ p) && decide (p ≤ (i : Int) - 1)) = true
    · simp only [c, if_true]
      simp only [Bool.and_eq_true, decide_eq_true_eq] at c
      by_cases c0 : p ≥ 0
      · obtain ⟨l', h1, h2, h3⟩ := add_join near b p (i : Int) c0 (by omega) (by omega)
        simp only [c0, if_true, h2, h3, Option.bind_some]
        exact ih (i + 1) k l' (by omega) (by omega) (by omega) (by omega)
      · simp only [c0, if_false]
        exact ih (i + 1) k near (by omega) (by omega) hn (by omega)
    · simp only [c, if_false]
      exact ⟨([], false, false), by simp, rfl, rfl⟩
theorem both (l : List Int) (b : Bool) : ∃ r : List Int × Bool × Bool, r.1.length ≤ 16 ∧ Ev (fun k => spec_FromParents.f k l b) r ∧ Ev (fun k => impl_FromParents.f k l b) r := by
  have e1 : spec_grSize.f (l.length : Int) = some (decide (1 ≤ (l.length : Int)) && decide ((l.length : Int) ≤ 16)) := by
    unfold spec_grSize.f spec_l1In.f
    by_cases c : (1 : Int) ≤ (l.length : Int)
    · rw [if_pos c]; simp [c]
    · rw [if_neg c]; simp [c]
  have e2 : impl_isCount.f (l.length : Int) = some (decide (1 ≤ (l.length : Int)) && decide ((l.length : Int) ≤ 16)) := by
    unfold impl_isCount.f impl_in.f
    by_cases c : (1 : Int) ≤ (l.length : Int)
    · rw [if_pos c]; simp [c]
    · rw [if_neg c]; simp [c]
  by_cases c : (decide (1 ≤ (l.length : Int)) && decide ((l.length : Int) ≤ 16)) = true
  · have hc := c
    simp only [Bool.and_eq_true, decide_eq_true_eq] at hc
    obtain ⟨r, h1, h2, h3⟩ := loops l (by omega) b l.length 0 (l.length + 1) (List.replicate l.length 0) (by omega) (by omega) (by simp) (by omega)
    refine ⟨r, h1, Ev.of (k := l.length + 1) (fun k => spec_FromParents.mono l b k) ?_, Ev.of (k := l.length + 1) (fun k => impl_FromParents.mono l b k) ?_⟩
    · unfold spec_FromParents.f
      rw [e1, c]
      simp only [Option.bind_some, if_true]
      rw [if_pos (by omega), Int.toNat_natCast, if_pos (by omega)]
      exact h2
    · unfold impl_FromParents.f
      rw [e2, c]
      simp only [Option.bind_some, if_true]
      rw [if_pos (by omega), Int.toNat_natCast, if_pos (by omega)]
      exact h3
  · refine ⟨([], false, false), by simp, ⟨0, fun k _ => ?_⟩, ⟨0, fun k _ => ?_⟩⟩
    · show spec_FromParents.f k l b = _
      unfold spec_FromParents.f
      rw [e1, Bool.eq_false_iff.mpr c]; rfl
    · show impl_FromParents.f k l b = _
      unfold impl_FromParents.f
      rw [e2, Bool.eq_false_iff.mpr c]; rfl
theorem FnExactFromParents : laws_FnExactFromParents.Pure := by
  intro l b _ _ _
  by_cases hbig : (l.length : Int) > 1048576
  · exact ⟨0, by unfold laws_FnExactFromParents.f; rw [if_pos hbig]⟩
  · obtain ⟨⟨near, own, ok⟩, hr, ⟨K1, s⟩, ⟨K2, i⟩⟩ := both l b
    simp only at hr s i
    obtain ⟨K3, t⟩ := toIntS_ev l (by omega)
    obtain ⟨K4, e⟩ := eqIntS_ev l (by omega)
    obtain ⟨K5, m⟩ := markIntS_ev l 1 (by omega) (by omega)
    obtain ⟨K6, eg⟩ := eqGraph_ev near own (by omega)
    obtain ⟨K7, mg⟩ := markGraph_ev near own 1 (by omega) (by omega)
    obtain ⟨K8, hg⟩ := heldGraph_ev 1 near.length own (by omega) (by omega)
    simp only at t e m eg mg hg
    refine ⟨K1 + K2 + K3 + K4 + K5 + K6 + K7 + K8 + 3, ?_⟩
    generalize hk : K1 + K2 + K3 + K4 + K5 + K6 + K7 + K8 = K
    unfold laws_FnExactFromParents.f
    rw [if_neg hbig, t (K + 3) (by omega)]
    simp only [Option.bind_some]
    rw [s (K + 3) (by omega)]
    simp only [Option.bind_some]
    rw [i (K + 3) (by omega)]
    simp only [Option.bind_some]
    rw [eg (K + 3) (by omega)]
    simp only [Option.bind_some, if_true, bne_self_eq_false]
    rw [laws_FnExactFromParents.j0, if_neg (by simp), t (K + 2) (by omega)]
    simp only [Option.bind_some]
    rw [e (K + 2) (by omega)]
    simp only [Option.bind_some, if_true]
    rw [m (K + 2) (by omega)]
    simp only [Option.bind_some]
    rw [if_neg (by omega), eg (K + 2) (by omega)]
    simp only [Option.bind_some, if_true, bne_self_eq_false]
    rw [laws_FnExactFromParents.j1, if_neg (by simp), mg (K + 1) (by omega)]
    simp only [Option.bind_some]
    rw [hg (K + 1) (by omega)]
    simp only [Option.bind_some]
    rw [if_neg (by omega), if_pos (by trivial), t (K + 1) (by omega)]
    simp only [Option.bind_some]
    rw [i (K + 1) (by omega)]
    simp only [Option.bind_some]
    rw [eg (K + 1) (by omega)]
    simp only [Option.bind_some, if_true, bne_self_eq_false]
    rw [laws_FnExactFromParents.j2, if_neg (by simp), hg K (by omega)]
    simp only [Option.bind_some]
    rw [if_neg (by omega), if_pos (by trivial)]
end Go.Proofs.Ytcdobojoijmaaaa.Pure
