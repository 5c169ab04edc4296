/- 'Is it a set of buttons'. -/
import Derived.Test.YtdpdmhjmmpncoaaGA
import Derived.Test.YtdpdmhjmmpncoaaLA
import Derived.Test.YtdpdmhjmmpncoaaPx16
import Derived.Test.YtdpdmhjmmpncoaaPx21
namespace Go.Proofs.Ytdpdmhjmmpncoaa.Gr
open Go.RowKit Go.Proofs.Ytdpdmhjmmpncoaa.P Go.Proofs.Ytdpdmhjmmpncoaa.Bt Go.Proofs.Ytdpdmhjmmpncoaa.Lw Go.Proofs.YtdpdmhjmmpncoaaW.PrintWords Go.Proofs.YtdpdmhjmmpncoaaW.PrintLast Go.Proofs.YtdpdmhjmmpncoaaW.PrintMore
set_option linter.unusedVariables false
set_option linter.unusedSimpArgs false

/-- Is it a set of buttons of the graph? Both say the same. -/
theorem set_both (l : List Int) (own : Bool) (hlen : l.length ≤ 4611686018427387904) (a : Int) :
    ∃ b : Bool, (b = true ↔ Good l ∧ 0 ≤ a ∧ a < 2 ^ l.length) ∧ Ev (fun k => spec_grSet.f k l own a) b ∧ Ev (fun k => impl_isSet.f k l own [a]) b := by
  obtain ⟨g, hg, ⟨K1, e1⟩, ⟨K2, e2⟩⟩ := good_both l own hlen
  simp only at e1 e2
  cases g with
  | false =>
    refine ⟨false, ⟨fun h => (by cases h), fun h => (by have := hg.2 h.1; cases this)⟩, ⟨K1, fun k hk => ?_⟩, ⟨K2, fun k hk => ?_⟩⟩
    · show spec_grSet.f k l own a = _
      unfold spec_grSet.f; rw [e1 k hk]; rfl
    · show impl_isSet.f k l own [a] = _
      unfold impl_isSet.f; rw [e2 k hk]; rfl
  | true =>
    have G := hg.1 rfl
    have hl := G.2.1
    have hp := pow16 hl
    have ep : ((2 ^ l.length : Nat) : Int) = (2 : Int) ^ l.length := by simp
    have hp0 := Nat.two_pow_pos l.length
    refine ⟨(decide (0 ≤ a) && decide (a ≤ ((2 ^ l.length - 1 : Nat) : Int))), ?_, ⟨K1, fun k hk => ?_⟩, ⟨K2, fun k hk => ?_⟩⟩
    · simp only [Bool.and_eq_true, decide_eq_true_eq]
      constructor
      · intro h; exact ⟨G, h.1, by omega⟩
      · intro h; exact ⟨h.2.1, by omega⟩
    · show spec_grSet.f k l own a = _
      unfold spec_grSet.f; rw [e1 k hk]
      simp only [Option.bind_some, if_true]
      rw [shl1 hl, l1In_val]; rfl
    · show impl_isSet.f k l own [a] = _
      unfold impl_isSet.f; rw [e2 k hk]
      simp only [Option.bind_some, if_true]
      rw [whole_nat hl]
      simp
end Go.Proofs.Ytdpdmhjmmpncoaa.Gr
