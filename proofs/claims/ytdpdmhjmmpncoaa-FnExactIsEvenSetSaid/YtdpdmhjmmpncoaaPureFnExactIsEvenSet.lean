/- The law FnExactIsEvenSet, with no program in sight. -/
import Derived.Test.YtdpdmhjmmpncoaaEvenSet
import Derived.Test.YtdpdmhjmmpncoaaSayFnExactIsEvenSet
import Derived.Test.YtdpdmhjmmpncoaaPx19
import Derived.Test.YtdpdmhjmmpncoaaPx20
import Derived.Test.YtdpdmhjmmpncoaaSayFnExactIsEvenSet
namespace Go.Proofs.Ytdpdmhjmmpncoaa.Pure
open Go.RowKit Go.Proofs.Ytdpdmhjmmpncoaa.P Go.Proofs.Ytdpdmhjmmpncoaa.Bt Go.Proofs.Ytdpdmhjmmpncoaa.Lw Go.Proofs.Ytdpdmhjmmpncoaa.Gr Go.Proofs.YtdpdmhjmmpncoaaW.PrintWords Go.Proofs.YtdpdmhjmmpncoaaW.PrintLast Go.Proofs.YtdpdmhjmmpncoaaW.PrintMore
set_option linter.unusedVariables false
set_option linter.unusedSimpArgs false

theorem both (l : List Int) (own : Bool) (hlen : l.length ≤ 4611686018427387904) (a : Int) : ∃ r : Bool × Bool, Ev (fun k => spec_IsEvenSet.f k l own a) r ∧ Ev (fun k => impl_IsEvenSet.f k l own a) r := by
  obtain ⟨b, hb, ⟨K1, e1⟩, ⟨K2, e2⟩⟩ := set_both l own hlen a
  simp only at e1 e2
  cases b with
  | false =>
    refine ⟨(false, false), ⟨K1, fun k hk => ?_⟩, ⟨K2, fun k hk => ?_⟩⟩
    · show spec_IsEvenSet.f k l own a = _
      unfold spec_IsEvenSet.f; rw [e1 k hk]; rfl
    · show impl_IsEvenSet.f k l own a = _
      unfold impl_IsEvenSet.f; rw [e2 k hk]; rfl
  | true =>
    obtain ⟨G, h0, h1⟩ := hb.1 rfl
    obtain ⟨s, rfl⟩ : ∃ s : Nat, a = s := ⟨a.toNat, by omega⟩
    have hp := pow16 G.2.1
    have ep : ((2 ^ l.length : Nat) : Int) = (2 : Int) ^ l.length := by simp
    obtain ⟨b, ⟨K3, e3⟩, ⟨K4, e4⟩⟩ := all_both l own G.2.1 G.2.2.1 s (by omega) 0 l.length 0 (by omega) (by omega)
    simp only at e3 e4
    refine ⟨(b, true), ⟨K1 + K3, fun k hk => ?_⟩, ⟨K2 + K4, fun k hk => ?_⟩⟩
    · show spec_IsEvenSet.f k l own s = _
      unfold spec_IsEvenSet.f; rw [e1 k (by omega)]
      simp only [Option.bind_some, if_true]
      unfold spec_paAll.f
      have := e3 k (by omega)
      simp only [Int.ofNat_zero, Int.natCast_zero] at this
      rw [this]; rfl
    · show impl_IsEvenSet.f k l own s = _
      unfold impl_IsEvenSet.f; rw [e2 k (by omega)]
      simp only [Option.bind_some, if_true]
      unfold impl_Graph_all.f
      have := e4 k (by omega)
      simp only [Int.ofNat_zero, Int.natCast_zero] at this
      rw [this]; rfl
theorem FnExactIsEvenSet : laws_FnExactIsEvenSet.Pure := by
  intro l b a hl _ _
  have hm : maxLen = 9223372036854775807 := by decide
  rw [hm] at hl
  by_cases hbig : l.length ≤ 1048576
  · obtain ⟨⟨r1, r2⟩, ⟨K1, s⟩, ⟨K2, i⟩⟩ := both l b (by omega) a
    obtain ⟨K3, t⟩ := toGraph_ev l b (by omega)
    obtain ⟨K4, e⟩ := eqGraph_ev l b (by omega)
    simp only at s i t e
    refine ⟨K1 + K2 + K3 + K4 + 1, ?_⟩
    generalize hk : K1 + K2 + K3 + K4 = K
    unfold laws_FnExactIsEvenSet.f
    rw [szGraph_small l b hbig]
    simp only [Option.bind_some]
    rw [if_neg (by omega), t (K + 1) (by omega)]
    simp only [Option.bind_some]
    rw [s (K + 1) (by omega)]
    simp only [Option.bind_some]
    rw [i (K + 1) (by omega)]
    simp only [Option.bind_some, bne_self_eq_false, Bool.false_eq_true, if_false]
    rw [laws_FnExactIsEvenSet.j0, if_neg (by simp), t K (by omega)]
    simp only [Option.bind_some]
    rw [e K (by omega)]
    rfl
  · exact ⟨0, by unfold laws_FnExactIsEvenSet.f; rw [szGraph_big l b hl hbig]; rfl⟩
end Go.Proofs.Ytdpdmhjmmpncoaa.Pure
