/- The law FnExactParentsOf, with no program in sight. -/
import Derived.Test.YtdpdmhjmmpncoaaReach
import Derived.Test.YtdpdmhjmmpncoaaBundleA
import Derived.Test.YtdpdmhjmmpncoaaSayFnExactParentsOf
import Derived.Test.YtdpdmhjmmpncoaaPx27
import Derived.Test.YtdpdmhjmmpncoaaPx7
namespace Go.Proofs.Ytdpdmhjmmpncoaa.Pure
open Go.RowKit Go.Proofs.Ytdpdmhjmmpncoaa.P Go.Proofs.Ytdpdmhjmmpncoaa.Bt Go.Proofs.Ytdpdmhjmmpncoaa.Lw Go.Proofs.Ytdpdmhjmmpncoaa.Gr Go.Proofs.Ytdpdmhjmmpncoaa.Bf Go.Proofs.YtdpdmhjmmpncoaaW.PrintWords Go.Proofs.YtdpdmhjmmpncoaaW.PrintLast Go.Proofs.YtdpdmhjmmpncoaaW.PrintMore
set_option linter.unusedVariables false
set_option linter.unusedSimpArgs false

theorem both (l : List Int) (own : Bool) (hlen : l.length ≤ 4611686018427387904) : ∃ r : List Int × Bool, r.1.length ≤ 100 ∧ Ev (fun k => spec_ParentsOf.f k l own) r ∧ Ev (fun k => impl_ParentsOf.f k l own) r := by
  obtain ⟨b, hb, ⟨K1, e1⟩, ⟨K2, e2⟩⟩ := good_both l own hlen
  simp only at e1 e2
  cases b with
  | false =>
    refine ⟨([], false), Nat.zero_le _, ⟨K1, fun k hk => ?_⟩, ⟨K2, fun k hk => ?_⟩⟩
    · show spec_ParentsOf.f k l own = _
      unfold spec_ParentsOf.f; rw [e1 k hk]; rfl
    · show impl_ParentsOf.f k l own = _
      unfold impl_ParentsOf.f impl_isForest.f; rw [e2 k hk]; rfl
  | true =>
    have G := hb.1 rfl
    have hl := G.2.1
    obtain ⟨K3, e3⟩ := tr_ev l own G
    obtain ⟨K4, e4⟩ := forest_ev l own G
    simp only at e3 e4
    by_cases c : badOf l = 0
    · obtain ⟨K5, e5⟩ := reached_ev l own G G.1 c
      simp only at e5
      rw [if_pos c] at e3
      rw [c] at e4
      have hp := (roots_inv (nr l) (good_sym G) (good_lt G) l.length 0 (Bf.start l.length) 0 (by omega) (start_rest (nr l) l.length)).1.len
      refine ⟨((bfs l).par, true), ?_, ⟨K1 + K3, fun k hk => ?_⟩, ⟨K4 + K5, fun k hk => ?_⟩⟩
      · show (bfs l).par.length ≤ 100
        unfold bfs
        omega
      · show spec_ParentsOf.f k l own = _
        unfold spec_ParentsOf.f; rw [e1 k (by omega), Option.bind_some, if_pos rfl, e3 k (by omega)]
        rfl
      · show impl_ParentsOf.f k l own = _
        unfold impl_ParentsOf.f; rw [e4 k (by omega), Option.bind_some, if_pos (by decide), e5 k (by omega)]
        rfl
    · rw [if_neg c] at e3
      rw [beq_eq_false_iff_ne.mpr c] at e4
      refine ⟨([], false), Nat.zero_le _, ⟨K1 + K3, fun k hk => ?_⟩, ⟨K4, fun k hk => ?_⟩⟩
      · show spec_ParentsOf.f k l own = _
        unfold spec_ParentsOf.f; rw [e1 k (by omega), Option.bind_some, if_pos rfl, e3 k (by omega)]
        rfl
      · show impl_ParentsOf.f k l own = _
        unfold impl_ParentsOf.f; rw [e4 k (by omega)]
        rfl
theorem FnExactParentsOf : laws_FnExactParentsOf.Pure := by
  intro l b hl _
  have hm : maxLen = 9223372036854775807 := by decide
  rw [hm] at hl
  by_cases hbig : l.length ≤ 1048576
  · obtain ⟨⟨r1, r2⟩, hr, ⟨K1, s⟩, ⟨K2, i⟩⟩ := both l b (by omega)
    obtain ⟨K3, t⟩ := toGraph_ev l b (by omega)
    obtain ⟨K4, e⟩ := eqGraph_ev l b (by omega)
    obtain ⟨K5, mg⟩ := markGraph_ev l b 1 (by omega) (by omega)
    simp only at s i t e mg hr
    obtain ⟨K6, q⟩ := eqIntS_ev r1 (by omega)
    obtain ⟨K7, mi⟩ := markIntS_ev r1 1 (by omega) (by omega)
    obtain ⟨K8, h⟩ := heldIntS_ev 1 r1.length (by omega) (by omega)
    simp only at q mi h
    refine ⟨K1 + K2 + K3 + K4 + K5 + K6 + K7 + K8 + 3, ?_⟩
    generalize hk : K1 + K2 + K3 + K4 + K5 + K6 + K7 + K8 = K
    unfold laws_FnExactParentsOf.f
    rw [szGraph_small l b hbig]
    simp only [Option.bind_some]
    rw [if_neg (by omega), t _ (by omega), Option.bind_some]
    simp only
    rw [s _ (by omega), Option.bind_some, Option.bind_some]
    simp only
    rw [i _ (by omega), Option.bind_some]
    simp only
    rw [q _ (by omega), Option.bind_some, if_pos rfl, bne_self_eq_false, laws_FnExactParentsOf.j0, if_neg (by decide), t _ (by omega), Option.bind_some]
    simp only
    rw [e _ (by omega), Option.bind_some, if_pos rfl, mg _ (by omega), Option.bind_some]
    simp only
    rw [if_neg (by omega), q _ (by omega), Option.bind_some, if_pos rfl, bne_self_eq_false, laws_FnExactParentsOf.j1, if_neg (by decide), mi _ (by omega), Option.bind_some]
    simp only
    rw [h _ (by omega), Option.bind_some, if_neg (by omega), if_pos rfl, t _ (by omega), Option.bind_some]
    simp only
    rw [i _ (by omega), Option.bind_some]
    simp only
    rw [q _ (by omega), Option.bind_some, if_pos rfl, bne_self_eq_false, laws_FnExactParentsOf.j2, if_neg (by decide), h _ (by omega), Option.bind_some, if_neg (by omega), if_pos rfl]
  · exact ⟨0, by unfold laws_FnExactParentsOf.f; rw [szGraph_big l b hl hbig]; rfl⟩
end Go.Proofs.Ytdpdmhjmmpncoaa.Pure
