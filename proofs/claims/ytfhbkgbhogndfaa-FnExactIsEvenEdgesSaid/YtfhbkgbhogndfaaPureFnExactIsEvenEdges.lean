/- The law FnExactIsEvenEdges, with no program in sight. -/
import Derived.Test.YtfhbkgbhogndfaaEdges
import Derived.Test.YtfhbkgbhogndfaaLawSS
import Derived.Test.YtfhbkgbhogndfaaSayFnExactIsEvenEdges
import Derived.Test.YtfhbkgbhogndfaaPx7
namespace Go.Proofs.Ytfhbkgbhogndfaa.Pure
open Go.RowKit Go.Proofs.Ytfhbkgbhogndfaa.P Go.Proofs.Ytfhbkgbhogndfaa.Bt Go.Proofs.Ytfhbkgbhogndfaa.Lw Go.Proofs.Ytfhbkgbhogndfaa.Gr Go.Proofs.Ytfhbkgbhogndfaa.Ed Go.Proofs.YtfhbkgbhogndfaaW.PrintWords Go.Proofs.YtfhbkgbhogndfaaW.PrintLast Go.Proofs.YtfhbkgbhogndfaaW.PrintMore
set_option linter.unusedVariables false
set_option linter.unusedSimpArgs false
theorem FnExactIsEvenEdges : laws_FnExactIsEvenEdges.Pure := by
  intro l b L hl _ hL hLs
  have hm : maxLen = 9223372036854775807 := by decide
  rw [hm] at hl hL
  have hLs' : ∀ e ∈ L, e.length ≤ 9223372036854775807 := fun e he => by have := hLs e he; rw [hm] at this; exact this
  by_cases hbig : l.length ≤ 1048576
  · obtain ⟨z, ⟨K0, hz⟩, hr⟩ := szSS_ev L hL hLs' (1048576 - (l.length : Int)) (by omega) (by omega)
    simp only at hz
    by_cases c : z < 0
    · refine ⟨K0, ?_⟩
      unfold laws_FnExactIsEvenEdges.f
      rw [szGraph_small l b hbig]
      simp only [Option.bind_some]
      rw [if_neg (by omega), hz K0 (Nat.le_refl _)]
      simp only [Option.bind_some]
      rw [if_pos c]
    · obtain ⟨h1, h2⟩ := hr (by omega)
      obtain ⟨⟨r1, r2⟩, ⟨K1, s⟩, ⟨K2, i⟩⟩ := edges_both l b (by omega) L (by omega)
      obtain ⟨K3, t⟩ := toGraph_ev l b (by omega)
      obtain ⟨K4, e⟩ := eqGraph_ev l b (by omega)
      obtain ⟨K5, ts⟩ := toSS_ev L (by omega) (fun x hx => by have := h2 x hx; omega)
      obtain ⟨K6, es⟩ := eqSS_ev L (by omega) (fun x hx => by have := h2 x hx; omega)
      simp only at s i t e ts es
      refine ⟨K0 + K1 + K2 + K3 + K4 + K5 + K6 + 1, ?_⟩
      generalize hk : K0 + K1 + K2 + K3 + K4 + K5 + K6 = K
      unfold laws_FnExactIsEvenEdges.f
      rw [szGraph_small l b hbig]
      simp only [Option.bind_some]
      rw [if_neg (by omega), hz (K + 1) (by omega)]
      simp only [Option.bind_some]
      rw [if_neg c, t (K + 1) (by omega)]
      simp only [Option.bind_some]
      rw [ts (K + 1) (by omega)]
      simp only [Option.bind_some]
      rw [s (K + 1) (by omega)]
      simp only [Option.bind_some]
      rw [i (K + 1) (by omega)]
      simp only [Option.bind_some, bne_self_eq_false, Bool.false_eq_true, if_false]
      rw [laws_FnExactIsEvenEdges.j0, if_neg (by simp), t K (by omega)]
      simp only [Option.bind_some]
      rw [e K (by omega)]
      simp only [Option.bind_some, if_true]
      rw [ts K (by omega)]
      simp only [Option.bind_some]
      rw [es K (by omega)]
      rfl
  · exact ⟨0, by unfold laws_FnExactIsEvenEdges.f; rw [szGraph_big l b hl hbig]; rfl⟩
end Go.Proofs.Ytfhbkgbhogndfaa.Pure
