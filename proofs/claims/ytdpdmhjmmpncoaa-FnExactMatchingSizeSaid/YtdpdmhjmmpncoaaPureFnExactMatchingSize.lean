/- The law FnExactMatchingSize, with no program in sight. -/
import Derived.Test.YtdpdmhjmmpncoaaMB
import Derived.Test.YtdpdmhjmmpncoaaLA
import Derived.Test.YtdpdmhjmmpncoaaSayFnExactMatchingSize
import Derived.Test.YtdpdmhjmmpncoaaPx42
namespace Go.Proofs.Ytdpdmhjmmpncoaa.Pure
open Go.RowKit Go.Proofs.Ytdpdmhjmmpncoaa.P Go.Proofs.Ytdpdmhjmmpncoaa.Bt Go.Proofs.Ytdpdmhjmmpncoaa.Lw Go.Proofs.Ytdpdmhjmmpncoaa.Gr Go.Proofs.YtdpdmhjmmpncoaaW.PrintWords Go.Proofs.YtdpdmhjmmpncoaaW.PrintLast Go.Proofs.YtdpdmhjmmpncoaaW.PrintMore
set_option linter.unusedVariables false
set_option linter.unusedSimpArgs false

theorem FnExactMatchingSize : laws_FnExactMatchingSize.Pure := by
  intro l b hl _
  have hm : maxLen = 9223372036854775807 := by decide
  rw [hm] at hl
  by_cases hbig : l.length ≤ 1048576
  · obtain ⟨E, r2, hE, -, -, ⟨K1, s⟩, ⟨K2, i⟩⟩ := mat_both l b (by omega)
    obtain ⟨K3, t⟩ := toGraph_ev l b (by omega)
    obtain ⟨K4, e⟩ := eqGraph_ev l b (by omega)
    simp only at s i t e
    refine ⟨K1 + K2 + K3 + K4 + 1, ?_⟩
    generalize hk : K1 + K2 + K3 + K4 = K
    unfold laws_FnExactMatchingSize.f
    rw [szGraph_small l b hbig]
    simp only [Option.bind_some]
    rw [if_neg (by omega), t (K + 1) (by omega)]
    simp only [Option.bind_some]
    rw [s (K + 1) (by omega)]
    simp only [Option.bind_some]
    rw [i (K + 1) (by omega)]
    simp only [Option.bind_some, bne_self_eq_false, if_true]
    rw [laws_FnExactMatchingSize.j0, if_neg (by simp), t K (by omega)]
    simp only [Option.bind_some]
    rw [e K (by omega)]
    rfl
  · exact ⟨0, by unfold laws_FnExactMatchingSize.f; rw [szGraph_big l b hl hbig]; rfl⟩
end Go.Proofs.Ytdpdmhjmmpncoaa.Pure
