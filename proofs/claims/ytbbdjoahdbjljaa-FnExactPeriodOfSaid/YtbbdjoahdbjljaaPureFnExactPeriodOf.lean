/- The law FnExactPeriodOf, with no program in sight. -/
import Derived.Test.YtbbdjoahdbjljaaWord
import Derived.Test.YtbbdjoahdbjljaaSayFnExactPeriodOf
import Derived.Test.YtbbdjoahdbjljaaPx13
import Derived.Test.YtbbdjoahdbjljaaSayFnExactPeriodOf
namespace Go.Proofs.Ytbbdjoahdbjljaa.Pure
open Go.RowKit Go.Proofs.Ytbbdjoahdbjljaa.P Go.Proofs.Ytbbdjoahdbjljaa.Bt Go.Proofs.Ytbbdjoahdbjljaa.Lw Go.Proofs.Ytbbdjoahdbjljaa.Gr Go.Proofs.Ytbbdjoahdbjljaa.Co Go.Proofs.YtbbdjoahdbjljaaW.PrintWords Go.Proofs.YtbbdjoahdbjljaaW.PrintLast Go.Proofs.YtbbdjoahdbjljaaW.PrintMore
set_option linter.unusedVariables false
set_option linter.unusedSimpArgs false

theorem zero_step (l : List Int) (i : Nat) (h : i < l.length) : ((l.drop i).all fun x => decide (0 ≤ x) && decide (x ≤ 0)) = ((decide (0 ≤ l.getD i 0) && decide (l.getD i 0 ≤ 0)) && ((l.drop (i + 1)).all fun x => decide (0 ≤ x) && decide (x ≤ 0))) := all_step _ l i h
theorem period_l0 (m : Int) (t : List Int) (ht : t.length ≤ 16) : ∀ (d i k : Nat), i + d = t.length → d < k →
    impl_PeriodOf.l0 k m t (t.length : Int) (i : Int) = some (if ((t.drop i).all fun x => decide (0 ≤ x) && decide (x ≤ 0)) = true then 1 else m, true) := by
  intro d
  induction d with
  | zero =>
    intro i k hi hk
    obtain ⟨k, rfl⟩ : ∃ q, k = q + 1 := ⟨k - 1, by omega⟩
    rw [impl_PeriodOf.l0, if_neg (by omega), List.drop_eq_nil_of_le (by omega)]; rfl
  | succ d ih =>
    intro i k hi hk
    obtain ⟨k, rfl⟩ : ∃ q, k = q + 1 := ⟨k - 1, by omega⟩
    rw [impl_PeriodOf.l0, if_pos (by omega), if_pos (by omega), if_pos (by omega), zero_step t i (by omega), rd_nat, step1 (by omega)]
    by_cases h0 : t.getD i 0 = 0
    · rw [if_pos h0, ih (i + 1) k (by omega) (by omega), h0]; simp
    · rw [if_neg h0, if_neg]
      intro hc
      simp only [Bool.and_eq_true, decide_eq_true_eq] at hc
      omega
theorem both (l : List Int) (own : Bool) (hlen : l.length ≤ 4611686018427387904) (m : Int) (t : List Int) (ht : t.length ≤ 4611686018427387904) : ∃ r : Int × Bool, Ev (fun k => spec_PeriodOf.f k l own m t) r ∧ Ev (fun k => impl_PeriodOf.f k l own m t) r := by
  rcases word_both l own hlen m t ht with ⟨⟨G, M, L, c, hin⟩, r, hr, hri, ⟨K1, e1⟩, ⟨K2, e2⟩, ⟨K3, e3⟩, ⟨K4, e4⟩⟩ | ⟨hn, ⟨K1, e1⟩, h2⟩
  · obtain ⟨q, hq, hqi, ⟨K5, e5⟩, ⟨K6, e6⟩⟩ := effect_both G own M r hr hri
    have hl := G.2.1
    have hall := l1All_at q 0 0 (by omega)
    have hloop := fun k hk => period_l0 m q (by omega) q.length 0 k (by omega) hk
    simp only at e1 e2 e3 e4 e5 e6
    rw [List.drop_zero] at hloop
    refine ⟨(if (q.all fun x => decide (0 ≤ x) && decide (x ≤ 0)) = true then 1 else m, true), ⟨K1 + K5 + q.length + 1, fun k hk => ?_⟩, ⟨K2 + K3 + K4 + K6 + q.length + 2, fun k hk => ?_⟩⟩
    · show spec_PeriodOf.f k l own m t = _
      unfold spec_PeriodOf.f
      rw [e1 k (by omega), Option.bind_some, if_pos rfl, e5 k (by omega), Option.bind_some, hall k (by omega), Option.bind_some]
      split <;> rfl
    · show impl_PeriodOf.f k l own m t = _
      obtain ⟨k, rfl⟩ : ∃ q, k = q + 1 := ⟨k - 1, by omega⟩
      unfold impl_PeriodOf.f
      rw [e3 (k + 1) (by omega), Option.bind_some, if_pos rfl, if_neg (by omega), e4 (k + 1) (by omega), Option.bind_some, Bool.not_true, impl_PeriodOf.j0, if_neg (by simp), e2 k (by omega), Option.bind_some, e6 k (by omega), Option.bind_some]
      exact hloop k (by omega)
  · simp only at e1
    refine ⟨(0, false), ⟨K1, fun k hk => ?_⟩, ?_⟩
    · show spec_PeriodOf.f k l own m t = _
      unfold spec_PeriodOf.f
      rw [e1 k hk, Option.bind_some, if_neg (by simp)]
    · rcases h2 with ⟨K2, e2⟩ | ⟨⟨K2, e2⟩, h3⟩
      · simp only at e2
        refine ⟨K2 + 1, fun k hk => ?_⟩
        obtain ⟨k, rfl⟩ : ∃ q, k = q + 1 := ⟨k - 1, by omega⟩
        show impl_PeriodOf.f (k + 1) l own m t = _
        unfold impl_PeriodOf.f
        rw [e2 (k + 1) (by omega), Option.bind_some, if_neg (by simp), impl_PeriodOf.j0, if_pos rfl]
      · simp only at e2
        rcases h3 with h3 | ⟨h3, ⟨K3, e3⟩⟩
        · refine ⟨K2 + 1, fun k hk => ?_⟩
          obtain ⟨k, rfl⟩ : ∃ q, k = q + 1 := ⟨k - 1, by omega⟩
          show impl_PeriodOf.f (k + 1) l own m t = _
          unfold impl_PeriodOf.f
          rw [e2 (k + 1) (by omega), Option.bind_some, if_pos rfl, if_pos (by omega), impl_PeriodOf.j0, if_pos rfl]
        · simp only at e3
          refine ⟨K2 + K3 + 1, fun k hk => ?_⟩
          obtain ⟨k, rfl⟩ : ∃ q, k = q + 1 := ⟨k - 1, by omega⟩
          show impl_PeriodOf.f (k + 1) l own m t = _
          unfold impl_PeriodOf.f
          rw [e2 (k + 1) (by omega), Option.bind_some, if_pos rfl, if_neg (by omega), e3 (k + 1) (by omega), Option.bind_some, Bool.not_false, impl_PeriodOf.j0, if_pos rfl]
theorem FnExactPeriodOf : laws_FnExactPeriodOf.Pure := by
  intro l b m t hl _ _ _ _ _
  have hmx : maxLen = 9223372036854775807 := by decide
  rw [hmx] at hl
  by_cases ht : (t.length : Int) > 1048576
  · exact ⟨0, by unfold laws_FnExactPeriodOf.f; rw [if_pos ht]⟩
  by_cases hbig : l.length ≤ 1048576
  · obtain ⟨⟨r1, r2⟩, ⟨K1, s⟩, ⟨K2, i⟩⟩ := both l b (by omega) m t (by omega)
    obtain ⟨K3, tg⟩ := toGraph_ev l b (by omega)
    obtain ⟨K4, e⟩ := eqGraph_ev l b (by omega)
    obtain ⟨K5, tt⟩ := toIntS_ev t (by omega)
    obtain ⟨K6, et⟩ := eqIntS_ev t (by omega)
    simp only at s i tg e tt et
    refine ⟨K1 + K2 + K3 + K4 + K5 + K6 + 1, ?_⟩
    generalize hk : K1 + K2 + K3 + K4 + K5 + K6 = K
    unfold laws_FnExactPeriodOf.f
    rw [if_neg ht, szGraph_small l b hbig, Option.bind_some, if_neg (by omega), tg (K + 1) (by omega), Option.bind_some, tt (K + 1) (by omega), Option.bind_some, s (K + 1) (by omega), Option.bind_some, Option.bind_some, Option.bind_some, i (K + 1) (by omega), Option.bind_some]
    simp only [bne_self_eq_false, if_true]
    rw [laws_FnExactPeriodOf.j0, if_neg (by simp), tg K (by omega), Option.bind_some, e K (by omega), Option.bind_some, if_pos rfl, tt K (by omega), Option.bind_some, et K (by omega)]
    rfl
  · exact ⟨0, by unfold laws_FnExactPeriodOf.f; rw [if_neg ht, szGraph_big l b hl hbig]; rfl⟩
end Go.Proofs.Ytbbdjoahdbjljaa.Pure
