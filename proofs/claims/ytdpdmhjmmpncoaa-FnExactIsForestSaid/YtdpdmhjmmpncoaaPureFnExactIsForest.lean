/- The law FnExactIsForest, with no program in sight. -/
import Derived.Test.YtdpdmhjmmpncoaaTree
import Derived.Test.YtdpdmhjmmpncoaaSets
import Derived.Test.YtdpdmhjmmpncoaaSayFnExactIsForest
import Derived.Test.YtdpdmhjmmpncoaaPx8
import Derived.Test.YtdpdmhjmmpncoaaSayFnExactIsForest
namespace Go.Proofs.Ytdpdmhjmmpncoaa.Pure
open Go.RowKit Go.Proofs.Ytdpdmhjmmpncoaa.P Go.Proofs.Ytdpdmhjmmpncoaa.Bt Go.Proofs.Ytdpdmhjmmpncoaa.Lw Go.Proofs.Ytdpdmhjmmpncoaa.Gr Go.Proofs.YtdpdmhjmmpncoaaW.PrintWords Go.Proofs.YtdpdmhjmmpncoaaW.PrintLast Go.Proofs.YtdpdmhjmmpncoaaW.PrintMore
set_option linter.unusedVariables false
set_option linter.unusedSimpArgs false

theorem both (l : List Int) (own : Bool) (hlen : l.length ≤ 4611686018427387904) : ∃ r : Bool × Bool, Ev (fun k => spec_IsForest.f k l own) r ∧ Ev (fun k => impl_IsForest.f k l own) r := by
  obtain ⟨b, hb, ⟨K1, e1⟩, ⟨K2, e2⟩⟩ := good_both l own hlen
  simp only at e1 e2
  cases b with
  | false =>
    refine ⟨(false, false), ⟨K1, fun k hk => ?_⟩, ⟨K2, fun k hk => ?_⟩⟩
    · show spec_IsForest.f k l own = _
      unfold spec_IsForest.f; rw [e1 k hk]; rfl
    · show impl_IsForest.f k l own = _
      unfold impl_IsForest.f; rw [e2 k hk]; rfl
  | true =>
    have G := hb.1 rfl
    obtain ⟨K3, e3⟩ := tr_ev l own G
    obtain ⟨K4, e4⟩ := forest_ev l own G
    simp only at e3 e4
    refine ⟨(badOf l == 0, true), ⟨K1 + K3, fun k hk => ?_⟩, ⟨K2 + K4, fun k hk => ?_⟩⟩
    · show spec_IsForest.f k l own = _
      unfold spec_IsForest.f; rw [e1 k (by omega)]
      simp only [Option.bind_some, if_true]
      rw [e3 k (by omega)]
      simp only [Option.bind_some]
      by_cases c : badOf l = 0
      · rw [if_pos c, c]; rfl
      · rw [if_neg c, beq_eq_false_iff_ne.mpr c]
    · show impl_IsForest.f k l own = _
      unfold impl_IsForest.f; rw [e2 k (by omega)]
      simp only [Option.bind_some, if_true]
      rw [e4 k (by omega)]
      rfl
theorem FnExactIsForest : laws_FnExactIsForest.Pure := by
  intro l b hl _
  have hm : maxLen = 9223372036854775807 := by decide
  rw [hm] at hl
  by_cases hbig : l.length ≤ 1048576
  · obtain ⟨⟨r1, r2⟩, ⟨K1, s⟩, ⟨K2, i⟩⟩ := both l b (by omega)
    obtain ⟨K3, t⟩ := toGraph_ev l b (by omega)
    obtain ⟨K4, e⟩ := eqGraph_ev l b (by omega)
    simp only at s i t e
    refine ⟨K1 + K2 + K3 + K4 + 1, ?_⟩
    generalize hk : K1 + K2 + K3 + K4 = K
    unfold laws_FnExactIsForest.f
    rw [szGraph_small l b hbig]
    simp only [Option.bind_some]
    rw [if_neg (by omega), t (K + 1) (by omega)]
    simp only [Option.bind_some]
    rw [s (K + 1) (by omega)]
    simp only [Option.bind_some]
    rw [i (K + 1) (by omega)]
    simp only [Option.bind_some, bne_self_eq_false, Bool.false_eq_true, if_false]
    rw [laws_FnExactIsForest.j0, if_neg (by simp), t K (by omega)]
    simp only [Option.bind_some]
    rw [e K (by omega)]
    rfl
  · exact ⟨0, by unfold laws_FnExactIsForest.f; rw [szGraph_big l b hl hbig]; rfl⟩
end Go.Proofs.Ytdpdmhjmmpncoaa.Pure
