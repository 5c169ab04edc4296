/- The law FnExactPartsOf, with no program in sight. -/
import Derived.Test.YtdpdmhjmmpncoaaParts
import Derived.Test.YtdpdmhjmmpncoaaSets
import Derived.Test.YtdpdmhjmmpncoaaSayFnExactPartsOf
import Derived.Test.YtdpdmhjmmpncoaaPx4
import Derived.Test.YtdpdmhjmmpncoaaSayFnExactPartsOf
namespace Go.Proofs.Ytdpdmhjmmpncoaa.Pure
open Go.RowKit Go.Proofs.Ytdpdmhjmmpncoaa.P Go.Proofs.Ytdpdmhjmmpncoaa.Bt Go.Proofs.Ytdpdmhjmmpncoaa.Lw Go.Proofs.Ytdpdmhjmmpncoaa.Gr Go.Proofs.YtdpdmhjmmpncoaaW.PrintWords Go.Proofs.YtdpdmhjmmpncoaaW.PrintLast Go.Proofs.YtdpdmhjmmpncoaaW.PrintMore
set_option linter.unusedVariables false
set_option linter.unusedSimpArgs false

theorem both (l : List Int) (own : Bool) (hlen : l.length ≤ 4611686018427387904) : ∃ r : List Int × Bool, r.1.length ≤ 16 ∧ Ev (fun k => spec_PartsOf.f k l own) r ∧ Ev (fun k => impl_PartsOf.f k l own) r := by
  obtain ⟨b, hb, ⟨K1, e1⟩, ⟨K2, e2⟩⟩ := good_both l own hlen
  simp only at e1 e2
  cases b with
  | false =>
    refine ⟨([], false), by simp, ⟨K1, fun k hk => ?_⟩, ⟨K2, fun k hk => ?_⟩⟩
    · show spec_PartsOf.f k l own = _
      unfold spec_PartsOf.f; rw [e1 k hk]; rfl
    · show impl_PartsOf.f k l own = _
      unfold impl_PartsOf.f; rw [e2 k hk]; rfl
  | true =>
    have G := hb.1 rfl
    obtain ⟨⟨K3, e3⟩, ⟨K4, e4⟩⟩ := parts_ev l own G.2.1 G.2.2.1
    simp only at e3 e4
    refine ⟨(up (partsOf l l.length 0 0 []), true), ?_, ⟨K1 + K3, fun k hk => ?_⟩, ⟨K2 + K4, fun k hk => ?_⟩⟩
    · have := partsOf_length l l.length 0 0 []
      have := G.2.1
      simp only [up_length, List.length_nil] at *
      omega
    · show spec_PartsOf.f k l own = _
      unfold spec_PartsOf.f; rw [e1 k (by omega)]
      simp only [Option.bind_some, if_true]
      rw [e3 k (by omega)]; rfl
    · show impl_PartsOf.f k l own = _
      unfold impl_PartsOf.f; rw [e2 k (by omega)]
      simp only [Option.bind_some, if_true]
      rw [e4 k (by omega)]; rfl
theorem FnExactPartsOf : laws_FnExactPartsOf.Pure := by
  intro l b hl _
  have hm : maxLen = 9223372036854775807 := by decide
  rw [hm] at hl
  by_cases hbig : l.length ≤ 1048576
  · obtain ⟨⟨r1, r2⟩, hr, ⟨K1, s⟩, ⟨K2, i⟩⟩ := both l b (by omega)
    obtain ⟨K3, t⟩ := toGraph_ev l b (by omega)
    obtain ⟨K4, e⟩ := eqGraph_ev l b (by omega)
    simp only at hr
    obtain ⟨K5, er⟩ := eqIntS_ev r1 (by omega)
    obtain ⟨K6, mg⟩ := markGraph_ev l b 1 (by omega) (by omega)
    obtain ⟨K7, mr⟩ := markIntS_ev r1 1 (by omega) (by omega)
    obtain ⟨K8, hr8⟩ := heldIntS_ev 1 r1.length (by omega) (by omega)
    simp only at s i t e er mg mr hr8
    refine ⟨K1 + K2 + K3 + K4 + K5 + K6 + K7 + K8 + 3, ?_⟩
    generalize hk : K1 + K2 + K3 + K4 + K5 + K6 + K7 + K8 = K
    unfold laws_FnExactPartsOf.f
    rw [szGraph_small l b hbig]
    simp only [Option.bind_some]
    rw [if_neg (by omega), t (K + 3) (by omega)]
    simp only [Option.bind_some]
    rw [s (K + 3) (by omega)]
    simp only [Option.bind_some]
    rw [i (K + 3) (by omega)]
    simp only [Option.bind_some, bne_self_eq_false]
    rw [er (K + 3) (by omega)]
    simp only [Option.bind_some, if_true]
    rw [laws_FnExactPartsOf.j0, if_neg (by simp), t (K + 2) (by omega)]
    simp only [Option.bind_some]
    rw [e (K + 2) (by omega)]
    simp only [Option.bind_some, if_true]
    rw [mg (K + 2) (by omega)]
    simp only [Option.bind_some]
    rw [if_neg (by omega), er (K + 2) (by omega)]
    simp only [Option.bind_some, if_true, bne_self_eq_false]
    rw [laws_FnExactPartsOf.j1, if_neg (by simp), mr (K + 1) (by omega)]
    simp only [Option.bind_some]
    rw [hr8 (K + 1) (by omega)]
    simp only [Option.bind_some]
    rw [if_neg (by omega), if_pos (by trivial), t (K + 1) (by omega)]
    simp only [Option.bind_some]
    rw [i (K + 1) (by omega)]
    simp only [Option.bind_some, bne_self_eq_false]
    rw [er (K + 1) (by omega)]
    simp only [Option.bind_some, if_true]
    rw [laws_FnExactPartsOf.j2, if_neg (by simp), hr8 K (by omega)]
    simp only [Option.bind_some]
    rw [if_neg (by omega), if_pos (by trivial)]
  · exact ⟨0, by unfold laws_FnExactPartsOf.f; rw [szGraph_big l b hl hbig]; rfl⟩
end Go.Proofs.Ytdpdmhjmmpncoaa.Pure
