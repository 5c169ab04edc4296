/- The law FnExactMatchingOf, with no program in sight. -/
import Derived.Test.YtdpdmhjmmpncoaaMB
import Derived.Test.YtdpdmhjmmpncoaaMarkSS
import Derived.Test.YtdpdmhjmmpncoaaLA
import Derived.Test.YtdpdmhjmmpncoaaSayFnExactMatchingOf
import Derived.Test.YtdpdmhjmmpncoaaPx45
namespace Go.Proofs.Ytdpdmhjmmpncoaa.Pure
open Go.RowKit Go.Proofs.Ytdpdmhjmmpncoaa.P Go.Proofs.Ytdpdmhjmmpncoaa.Bt Go.Proofs.Ytdpdmhjmmpncoaa.Lw Go.Proofs.Ytdpdmhjmmpncoaa.Gr Go.Proofs.YtdpdmhjmmpncoaaW.PrintWords Go.Proofs.YtdpdmhjmmpncoaaW.PrintLast Go.Proofs.YtdpdmhjmmpncoaaW.PrintMore
set_option linter.unusedVariables false
set_option linter.unusedSimpArgs false

theorem toE_size : ∀ E : List (Nat × Nat), sizeS (E.map toE) = 2 * E.length
  | [] => rfl
  | p :: E => by
    rw [List.map_cons, sizeS, toE_size E, List.length_cons, show (toE p).length = 2 from rfl]; omega
theorem FnExactMatchingOf : laws_FnExactMatchingOf.Pure := by
  intro l b hl _
  have hm : maxLen = 9223372036854775807 := by decide
  rw [hm] at hl
  by_cases hbig : l.length ≤ 1048576
  · obtain ⟨E, r2, hE, ⟨K1, s⟩, ⟨K2, i⟩, -, -⟩ := mat_both l b (by omega)
    obtain ⟨K3, t⟩ := toGraph_ev l b (by omega)
    obtain ⟨K4, e⟩ := eqGraph_ev l b (by omega)
    have hsz := toE_size E
    obtain ⟨K5, er⟩ := eqSS_ev (E.map toE) (by rw [List.length_map]; omega) (fun x hx => by
      obtain ⟨p, _, rfl⟩ := List.mem_map.1 hx
      rw [show (toE p).length = 2 from rfl]; omega)
    obtain ⟨K6, mg⟩ := markGraph_ev l b 1 (by omega) (by omega)
    obtain ⟨K7, mr⟩ := mkSS_at (E.map toE) 1 (by omega) (by omega)
    obtain ⟨K8, hd⟩ := heldSS_ev 1 (E.map toE) (by omega) (by omega) (by rw [List.length_map]; omega)
    simp only at s i t e er mg mr hd
    refine ⟨K1 + K2 + K3 + K4 + K5 + K6 + K7 + K8, ?_⟩
    generalize hk : K1 + K2 + K3 + K4 + K5 + K6 + K7 + K8 = K
    unfold laws_FnExactMatchingOf.f
    rw [szGraph_small l b hbig]
    simp only [Option.bind_some]
    rw [if_neg (by omega), t K (by omega)]
    simp only [Option.bind_some]
    rw [s K (by omega)]
    simp only [Option.bind_some]
    rw [i K (by omega)]
    simp only [Option.bind_some]
    rw [er K (by omega)]
    simp only [Option.bind_some]
    rw [e K (by omega)]
    simp only [Option.bind_some]
    rw [mg K (by omega)]
    simp only [Option.bind_some]
    rw [mr K (by omega)]
    simp only [Option.bind_some]
    rw [hd K (by omega)]
    simp only [Option.bind_some]
    rw [if_pos (by refine ⟨?_, ?_, ?_, ?_, ?_, ?_⟩ <;> first | trivial | omega)]
  · exact ⟨0, by unfold laws_FnExactMatchingOf.f; rw [szGraph_big l b hl hbig]; rfl⟩
end Go.Proofs.Ytdpdmhjmmpncoaa.Pure
