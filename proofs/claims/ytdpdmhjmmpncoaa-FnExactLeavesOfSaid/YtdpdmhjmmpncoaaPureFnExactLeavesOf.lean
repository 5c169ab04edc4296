/- The law FnExactLeavesOf, with no program in sight. -/
import Derived.Test.YtdpdmhjmmpncoaaTree
import Derived.Test.YtdpdmhjmmpncoaaSets
import Derived.Test.YtdpdmhjmmpncoaaSayFnExactLeavesOf
import Derived.Test.YtdpdmhjmmpncoaaPx17
import Derived.Test.YtdpdmhjmmpncoaaPx26
import Derived.Test.YtdpdmhjmmpncoaaPx7
import Derived.Test.YtdpdmhjmmpncoaaSayFnExactLeavesOf
namespace Go.Proofs.Ytdpdmhjmmpncoaa.Pure
open Go.RowKit Go.Proofs.Ytdpdmhjmmpncoaa.P Go.Proofs.Ytdpdmhjmmpncoaa.Bt Go.Proofs.Ytdpdmhjmmpncoaa.Lw Go.Proofs.Ytdpdmhjmmpncoaa.Gr Go.Proofs.Ytdpdmhjmmpncoaa.Bf Go.Proofs.YtdpdmhjmmpncoaaW.PrintWords Go.Proofs.YtdpdmhjmmpncoaaW.PrintLast Go.Proofs.YtdpdmhjmmpncoaaW.PrintMore
set_option linter.unusedVariables false
set_option linter.unusedSimpArgs false

theorem loops (l : List Int) (hl : l.length ≤ 16) (hr : Rng l) : ∀ (d i S : Nat), i + d = l.length → S < 2 ^ l.length →
    ∃ r : Int, Ev (fun k => spec_LeavesOf.l0 k (S : Int) l (l.length : Int) (i : Int)) (r, true) ∧ Ev (fun k => impl_LeavesOf.l0 k (S : Int) l (l.length : Int) (i : Int)) (r, true) := by
  have hp := pow16 hl
  intro d
  induction d with
  | zero =>
    intro i S hi hS
    refine ⟨(S : Int), Ev.konst 1 fun k hk => ?_, Ev.konst 1 fun k hk => ?_⟩
    · obtain ⟨k, rfl⟩ : ∃ m, k = m + 1 := ⟨k - 1, by omega⟩
      rw [spec_LeavesOf.l0, if_neg (by omega)]
    · obtain ⟨k, rfl⟩ : ∃ m, k = m + 1 := ⟨k - 1, by omega⟩
      rw [impl_LeavesOf.l0, if_neg (by omega)]
  | succ d ih =>
    intro i S hi hS
    have hri : rd l (i : Int) = (nr l i : Int) := by rw [rd_nat]; exact nr_cast hr (by omega)
    have hsi := nr_small hl hr (i := i) (by omega)
    obtain ⟨c, hc, hc1, hc2⟩ : ∃ c : Nat, (c : Int) = (pc (nr l i) : Int) ∧ (∀ k, 17 ≤ k → spec_grCount.f k (nr l i : Int) = some (c : Int)) ∧ impl_count.f (nr l i : Int) = some (c : Int) :=
      ⟨pc (nr l i), rfl, fun k hk => grCount_at hsi k (by omega), count_at hsi⟩
    clear hc
    have hbl := one_bit_lt (n := l.length) (i := i) (by omega)
    have hsh : shl .i64 1 (i : Int) = ((1 <<< i : Nat) : Int) := by
      have := shl_nat (a := 1) (n := i) (by omega) (by rw [← Nat.shiftLeft_eq]; omega)
      simpa using this
    by_cases c1 : (c : Int) = 1
    · obtain ⟨r, e1, e2⟩ := ih (i + 1) (S ||| 1 <<< i) (by omega) (Nat.or_lt_two_pow hS hbl)
      refine ⟨r, Ev.succ e1 17 fun k hk => ?_, Ev.succ e2 17 fun k hk => ?_⟩
      · rw [spec_LeavesOf.l0, if_pos (by omega), if_pos (by omega), if_pos (by omega), hri, hc1 k hk, Option.bind_some, if_pos c1, hsh, bits_or (by omega) (by omega), step1 (by omega)]
      · rw [impl_LeavesOf.l0, if_pos (by omega), if_pos (by omega), if_pos (by omega), hri, hc2, Option.bind_some, if_pos c1, hsh, bits_or (by omega) (by omega), step1 (by omega)]
    · obtain ⟨r, e1, e2⟩ := ih (i + 1) S (by omega) hS
      refine ⟨r, Ev.succ e1 17 fun k hk => ?_, Ev.succ e2 17 fun k hk => ?_⟩
      · rw [spec_LeavesOf.l0, if_pos (by omega), if_pos (by omega), if_pos (by omega), hri, hc1 k hk, Option.bind_some, if_neg c1, step1 (by omega)]
      · rw [impl_LeavesOf.l0, if_pos (by omega), if_pos (by omega), if_pos (by omega), hri, hc2, Option.bind_some, if_neg c1, step1 (by omega)]
theorem both (l : List Int) (own : Bool) (hlen : l.length ≤ 4611686018427387904) : ∃ r : Int × Bool, Ev (fun k => spec_LeavesOf.f k l own) r ∧ Ev (fun k => impl_LeavesOf.f k l own) r := by
  obtain ⟨b, hb, ⟨K1, e1⟩, ⟨K2, e2⟩⟩ := good_both l own hlen
  simp only at e1 e2
  cases b with
  | false =>
    refine ⟨(0, false), ⟨K1, fun k hk => ?_⟩, ⟨K2, fun k hk => ?_⟩⟩
    · show spec_LeavesOf.f k l own = _
      unfold spec_LeavesOf.f; rw [e1 k hk]; rfl
    · show impl_LeavesOf.f k l own = _
      unfold impl_LeavesOf.f impl_isForest.f; rw [e2 k hk]; rfl
  | true =>
    have G := hb.1 rfl
    obtain ⟨K3, e3⟩ := tr_ev l own G
    obtain ⟨K4, e4⟩ := forest_ev l own G
    obtain ⟨r, ⟨K5, e5⟩, ⟨K6, e6⟩⟩ := loops l G.2.1 G.2.2.1 l.length 0 0 (by omega) (Nat.two_pow_pos _)
    simp only at e3 e4 e5 e6
    by_cases c : badOf l = 0
    · rw [if_pos c] at e3
      rw [c] at e4
      refine ⟨(r, true), ⟨K1 + K3 + K5, fun k hk => ?_⟩, ⟨K4 + K6, fun k hk => ?_⟩⟩
      · show spec_LeavesOf.f k l own = _
        unfold spec_LeavesOf.f; rw [e1 k (by omega)]
        simp only [Option.bind_some, if_true]
        rw [e3 k (by omega)]
        simp only [Option.bind_some, if_true]
        exact e5 k (by omega)
      · show impl_LeavesOf.f k l own = _
        unfold impl_LeavesOf.f; rw [e4 k (by omega)]
        simp only [Option.bind_some, beq_self_eq_true, if_true]
        exact e6 k (by omega)
    · rw [if_neg c] at e3
      rw [beq_eq_false_iff_ne.mpr c] at e4
      refine ⟨(0, false), ⟨K1 + K3, fun k hk => ?_⟩, ⟨K4, fun k hk => ?_⟩⟩
      · show spec_LeavesOf.f k l own = _
        unfold spec_LeavesOf.f; rw [e1 k (by omega)]
        simp only [Option.bind_some, if_true]
        rw [e3 k (by omega)]
        rfl
      · show impl_LeavesOf.f k l own = _
        unfold impl_LeavesOf.f; rw [e4 k (by omega)]
        rfl
theorem FnExactLeavesOf : laws_FnExactLeavesOf.Pure := by
  intro l b hl _
  have hm : maxLen = 9223372036854775807 := by decide
  rw [hm] at hl
  by_cases hbig : l.length ≤ 1048576
  · obtain ⟨⟨r1, r2⟩, ⟨K1, s⟩, ⟨K2, i⟩⟩ := both l b (by omega)
    obtain ⟨K3, t⟩ := toGraph_ev l b (by omega)
    obtain ⟨K4, e⟩ := eqGraph_ev l b (by omega)
    simp only at s i t e
    refine ⟨K1 + K2 + K3 + K4 + 1, ?_⟩
    generalize hk : K1 + K2 + K3 + K4 = K
    unfold laws_FnExactLeavesOf.f
    rw [szGraph_small l b hbig]
    simp only [Option.bind_some]
    rw [if_neg (by omega), t (K + 1) (by omega)]
    simp only [Option.bind_some]
    rw [s (K + 1) (by omega)]
    simp only [Option.bind_some]
    rw [i (K + 1) (by omega)]
    simp only [Option.bind_some, bne_self_eq_false, if_true]
    rw [laws_FnExactLeavesOf.j0, if_neg (by simp), t K (by omega)]
    simp only [Option.bind_some]
    rw [e K (by omega)]
    rfl
  · exact ⟨0, by unfold laws_FnExactLeavesOf.f; rw [szGraph_big l b hl hbig]; rfl⟩
end Go.Proofs.Ytdpdmhjmmpncoaa.Pure
