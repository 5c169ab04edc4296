/- The law FnExactIsColours, with no program in sight. -/
import Derived.Test.YtbbdjoahdbjljaaColour
import Derived.Test.YtbbdjoahdbjljaaSayFnExactIsColours
import Derived.Test.YtbbdjoahdbjljaaPx4
import Derived.Test.YtbbdjoahdbjljaaSayFnExactIsColours
namespace Go.Proofs.Ytbbdjoahdbjljaa.Pure
open Go.RowKit Go.Proofs.Ytbbdjoahdbjljaa.P Go.Proofs.Ytbbdjoahdbjljaa.Bt Go.Proofs.Ytbbdjoahdbjljaa.Lw Go.Proofs.Ytbbdjoahdbjljaa.Gr Go.Proofs.Ytbbdjoahdbjljaa.Co Go.Proofs.YtbbdjoahdbjljaaW.PrintWords Go.Proofs.YtbbdjoahdbjljaaW.PrintLast Go.Proofs.YtbbdjoahdbjljaaW.PrintMore
set_option linter.unusedVariables false
set_option linter.unusedSimpArgs false

theorem both (l : List Int) (own : Bool) (hlen : l.length ≤ 4611686018427387904) (m : Int) (t : List Int) : ∃ r : Bool × Bool, Ev (fun k => spec_IsColours.f k l own m t) r ∧ Ev (fun k => impl_IsColours.f k l own m t) r := by
  obtain ⟨g, hg, ⟨K1, e1⟩, ⟨K2, e2⟩⟩ := coloured_both l own hlen m
  obtain ⟨b, hb, ⟨K3, e3⟩, ⟨K4, e4⟩⟩ := list_both l own hlen m t
  simp only at e1 e2 e3 e4
  cases g with
  | false =>
    refine ⟨(false, false), ⟨K1, fun k hk => ?_⟩, ⟨K2, fun k hk => ?_⟩⟩
    · show spec_IsColours.f k l own m t = _
      unfold spec_IsColours.f; rw [e1 k hk]; rfl
    · show impl_IsColours.f k l own m t = _
      unfold impl_IsColours.f; rw [e2 k hk]; rfl
  | true =>
    refine ⟨(b, true), ⟨K1 + K3, fun k hk => ?_⟩, ⟨K2 + K4, fun k hk => ?_⟩⟩
    · show spec_IsColours.f k l own m t = _
      unfold spec_IsColours.f; rw [e1 k (by omega), Option.bind_some, if_pos rfl, e3 k (by omega)]; rfl
    · show impl_IsColours.f k l own m t = _
      unfold impl_IsColours.f; rw [e2 k (by omega), Option.bind_some, if_pos rfl, e4 k (by omega)]; rfl
theorem FnExactIsColours : laws_FnExactIsColours.Pure := by
  intro l b m t hl _ _ _ _ _
  have hmx : maxLen = 9223372036854775807 := by decide
  rw [hmx] at hl
  by_cases ht : (t.length : Int) > 1048576
  · exact ⟨0, by unfold laws_FnExactIsColours.f; rw [if_pos ht]⟩
  by_cases hbig : l.length ≤ 1048576
  · obtain ⟨⟨r1, r2⟩, ⟨K1, s⟩, ⟨K2, i⟩⟩ := both l b (by omega) m t
    obtain ⟨K3, tg⟩ := toGraph_ev l b (by omega)
    obtain ⟨K4, e⟩ := eqGraph_ev l b (by omega)
    obtain ⟨K5, tt⟩ := toIntS_ev t (by omega)
    obtain ⟨K6, et⟩ := eqIntS_ev t (by omega)
    simp only at s i tg e tt et
    refine ⟨K1 + K2 + K3 + K4 + K5 + K6 + 1, ?_⟩
    generalize hk : K1 + K2 + K3 + K4 + K5 + K6 = K
    unfold laws_FnExactIsColours.f
    rw [if_neg ht, szGraph_small l b hbig, Option.bind_some, if_neg (by omega), tg (K + 1) (by omega), Option.bind_some, tt (K + 1) (by omega), Option.bind_some, s (K + 1) (by omega), Option.bind_some, Option.bind_some, Option.bind_some, i (K + 1) (by omega), Option.bind_some]
    simp only [bne_self_eq_false, Bool.false_eq_true, if_false]
    rw [laws_FnExactIsColours.j0, if_neg (by simp), tg K (by omega), Option.bind_some, e K (by omega), Option.bind_some, if_pos rfl, tt K (by omega), Option.bind_some, et K (by omega)]
    rfl
  · exact ⟨0, by unfold laws_FnExactIsColours.f; rw [if_neg ht, szGraph_big l b hl hbig]; rfl⟩
end Go.Proofs.Ytbbdjoahdbjljaa.Pure
