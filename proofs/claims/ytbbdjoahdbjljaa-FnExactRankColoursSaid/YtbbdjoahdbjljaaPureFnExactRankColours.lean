/- The law FnExactRankColours, with no program in sight. -/
import Derived.Test.YtbbdjoahdbjljaaQuiet
import Derived.Test.YtbbdjoahdbjljaaBundleA
import Derived.Test.YtbbdjoahdbjljaaSayFnExactRankColours
import Derived.Test.YtbbdjoahdbjljaaPx24
import Derived.Test.YtbbdjoahdbjljaaPx26
namespace Go.Proofs.Ytbbdjoahdbjljaa.Pure
open Go.RowKit Go.Proofs.Ytbbdjoahdbjljaa.P Go.Proofs.Ytbbdjoahdbjljaa.Bt Go.Proofs.Ytbbdjoahdbjljaa.Lw Go.Proofs.Ytbbdjoahdbjljaa.Gr Go.Proofs.Ytbbdjoahdbjljaa.Co Go.Proofs.Ytbbdjoahdbjljaa.Ef Go.Proofs.Ytbbdjoahdbjljaa.El Go.Proofs.YtbbdjoahdbjljaaW.PrintWords Go.Proofs.YtbbdjoahdbjljaaW.PrintLast Go.Proofs.YtbbdjoahdbjljaaW.PrintMore
set_option linter.unusedVariables false
set_option linter.unusedSimpArgs false

theorem both (l : List Int) (own : Bool) (hlen : l.length ≤ 4611686018427387904) (m : Int) : ∃ r : Int × Bool, Ev (fun k => spec_RankColours.f k l own m) r ∧ Ev (fun k => impl_RankColours.f k l own m) r := by
  obtain ⟨b, hb, ⟨K1, e1⟩, ⟨K2, e2⟩⟩ := coloured_both l own hlen m
  simp only at e1 e2
  cases b with
  | false =>
    refine ⟨(0, false), ⟨K1, fun k hk => ?_⟩, ⟨K2, fun k hk => ?_⟩⟩
    · show spec_RankColours.f k l own m = _
      unfold spec_RankColours.f; rw [e1 k hk]; rfl
    · show impl_RankColours.f k l own m = _
      unfold impl_RankColours.f impl_NullityColours.f; rw [e2 k hk]; rfl
  | true =>
    obtain ⟨G, M, L⟩ := hb.1 rfl
    have hm := mod_small M
    have hl := G.2.1
    obtain ⟨K3, e3⟩ := clTable_ev G own
    obtain ⟨K4, e4⟩ := clSteps_ev M (n := l.length) (w := l.length) (by omega) (Nat.le_refl _) (tab_ok hm.1 (tg l own) l.length) (by rw [tab_len]; omega)
    obtain ⟨K5, e5⟩ := impl_quiet G own M
    obtain ⟨f1, f2, f3, f4, f5⟩ := tab_facts M (tg l own) l.length
    have g1 := (quiet_full M (tg l own) l.length).1
    have hq : (quietN m (tg l own) l.length).length = (frees (elim m l.length 0 (tab (tg l own) l.length) [] 1).2.1 l.length).length := by
      rw [show (quietN m (tg l own) l.length).length = _ from g1, quiet0, List.length_map]
    have hfl := frees_len f1 f5
    simp only at e3 e4 e5
    refine ⟨(((elim m l.length 0 (tab (tg l own) l.length) [] 1).2.1.length : Int), true), ⟨K1 + K3 + K4, fun k hk => ?_⟩, ⟨K2 + K5, fun k hk => ?_⟩⟩
    · show spec_RankColours.f k l own m = _
      unfold spec_RankColours.f
      rw [e1 k (by omega), Option.bind_some, if_pos rfl, e3 k (by omega), Option.bind_some, e4 k (by omega), Option.bind_some]
      rfl
    · show impl_RankColours.f k l own m = _
      unfold impl_RankColours.f impl_NullityColours.f
      rw [e2 k (by omega), Option.bind_some, if_pos rfl, e5 k (by omega), Option.bind_some, Option.bind_some, if_pos rfl, hq, Bt.wrap_id (by omega) (by omega)]
      congr 2
      omega
theorem FnExactRankColours : laws_FnExactRankColours.Pure := by
  intro l b m hl _ _
  have hmx : maxLen = 9223372036854775807 := by decide
  rw [hmx] at hl
  by_cases hbig : l.length ≤ 1048576
  · obtain ⟨⟨r1, r2⟩, ⟨K1, s⟩, ⟨K2, i⟩⟩ := both l b (by omega) m
    obtain ⟨K3, tg⟩ := toGraph_ev l b (by omega)
    obtain ⟨K4, e⟩ := eqGraph_ev l b (by omega)
    simp only at s i tg e
    refine ⟨K1 + K2 + K3 + K4 + 1, ?_⟩
    generalize hk : K1 + K2 + K3 + K4 = K
    unfold laws_FnExactRankColours.f
    rw [szGraph_small l b hbig, Option.bind_some, if_neg (by omega), tg (K + 1) (by omega), Option.bind_some, s (K + 1) (by omega), Option.bind_some, Option.bind_some, i (K + 1) (by omega), Option.bind_some]
    simp only [bne_self_eq_false, if_true]
    rw [laws_FnExactRankColours.j0, if_neg (by simp), tg K (by omega), Option.bind_some, e K (by omega)]
    rfl
  · exact ⟨0, by unfold laws_FnExactRankColours.f; rw [szGraph_big l b hl hbig]; rfl⟩
end Go.Proofs.Ytbbdjoahdbjljaa.Pure
