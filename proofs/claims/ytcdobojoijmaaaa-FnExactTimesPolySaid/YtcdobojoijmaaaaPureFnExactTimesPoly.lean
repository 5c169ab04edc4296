/- The program's TimesPoly returns what the reference's returns. No condition. -/
import Derived.Test.YtcdobojoijmaaaaPolyF
import Derived.Test.YtcdobojoijmaaaaPx19
import Derived.Test.YtcdobojoijmaaaaPx20
namespace Go.Proofs.Ytcdobojoijmaaaa.Pure
open Go.RowKit Go.Proofs.Ytcdobojoijmaaaa.P Go.Proofs.Ytcdobojoijmaaaa.Bt Go.Proofs.Ytcdobojoijmaaaa.Pf Go.Proofs.Ytcdobojoijmaaaa.Gf Go.Proofs.YtcdobojoijmaaaaW.PrintWords Go.Proofs.YtcdobojoijmaaaaW.PrintLast
set_option linter.unusedVariables false
set_option linter.unusedSimpArgs false

theorem FnExactTimesPoly : laws_FnExactTimesPoly.Pure := by
  intro p q _ _
  refine ⟨300, ?_⟩
  unfold laws_FnExactTimesPoly.f spec_TimesPoly.f impl_TimesPoly.f impl_isPoly.f
  rw [poGood_at, poGood_at]
  simp only [Option.bind_some, List.all_cons, List.all_nil, Bool.and_true]
  by_cases h : (decide (0 ≤ p) && decide (p ≤ 2199023255551)) = true
  · by_cases h' : (decide (0 ≤ q) && decide (q ≤ 2199023255551)) = true
    · rw [h, h']
      simp only [Bool.and_eq_true, decide_eq_true_eq] at h h'
      obtain ⟨p, rfl⟩ := Int.eq_ofNat_of_zero_le h.1
      obtain ⟨q, rfl⟩ := Int.eq_ofNat_of_zero_le h'.1
      have hp := bl41 h.2
      have hq := bl41 h'.2
      simp only [Bool.and_self, if_true]
      rw [poDegree_at p (by omega) 300 (by omega), poDegree_at q (by omega) 300 (by omega), degree_at p (by omega), degree_at q (by omega)]
      simp only [Option.bind_some]
      rw [wrap_id (by omega) (by omega)]
      by_cases hs : (bl p : Int) - 1 + ((bl q : Int) - 1) > 40
      · rw [if_pos hs]
        have hp0 : ¬ (p : Int) = 0 := fun e => by have : p = 0 := by omega
                                                  subst this; rw [bl_zero] at hs; omega
        have hq0 : ¬ (q : Int) = 0 := fun e => by have : q = 0 := by omega
                                                  subst this; rw [bl_zero] at hs; omega
        rw [if_neg hp0, if_neg hq0, if_pos hs]
        simp
      · rw [if_neg hs, if_neg hs, poTimes_at p q (by omega) 300 (by omega), times_at p q (by omega) 300 (by omega)]
        simp
    · rw [h, Bool.eq_false_iff.mpr h']; simp
  · rw [Bool.eq_false_iff.mpr h]; simp
end Go.Proofs.Ytcdobojoijmaaaa.Pure
