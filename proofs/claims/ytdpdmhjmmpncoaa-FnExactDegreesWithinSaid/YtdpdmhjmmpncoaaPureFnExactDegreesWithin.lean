/- The law FnExactDegreesWithin, with no program in sight. -/
import Derived.Test.YtdpdmhjmmpncoaaEvenSet
import Derived.Test.YtdpdmhjmmpncoaaSayFnExactDegreesWithin
import Derived.Test.YtdpdmhjmmpncoaaPx23
import Derived.Test.YtdpdmhjmmpncoaaSayFnExactDegreesWithin
namespace Go.Proofs.Ytdpdmhjmmpncoaa.Pure
open Go.RowKit Go.Proofs.Ytdpdmhjmmpncoaa.P Go.Proofs.Ytdpdmhjmmpncoaa.Bt Go.Proofs.Ytdpdmhjmmpncoaa.Lw Go.Proofs.Ytdpdmhjmmpncoaa.Gr Go.Proofs.YtdpdmhjmmpncoaaW.PrintWords Go.Proofs.YtdpdmhjmmpncoaaW.PrintLast Go.Proofs.YtdpdmhjmmpncoaaW.PrintMore
set_option linter.unusedVariables false
set_option linter.unusedSimpArgs false

theorem loops (l : List Int) (own : Bool) (hl : l.length ≤ 16) (hr : Rng l) (s : Nat) (hs : s < 65536) :
    ∀ (d i : Nat) (acc : List Int), l.length - i = d → i ≤ l.length → acc.length ≤ i → ∃ r : List Int, r.length ≤ 16 ∧ Ev (fun k => spec_DegreesWithin.l0 k (s : Int) acc (l.length : Int) (i : Int) l own) (r, true) ∧ Ev (fun k => impl_DegreesWithin.l0 k (s : Int) acc l (l.length : Int) (i : Int)) (r, true) := by
  intro d
  induction d with
  | zero =>
    intro i acc hd hi ha
    refine ⟨acc, by omega, Ev.konst 1 fun k hk => ?_, Ev.konst 1 fun k hk => ?_⟩
    · obtain ⟨k, rfl⟩ : ∃ m, k = m + 1 := ⟨k - 1, by omega⟩
      rw [spec_DegreesWithin.l0, if_neg (by omega)]
    · obtain ⟨k, rfl⟩ : ∃ m, k = m + 1 := ⟨k - 1, by omega⟩
      rw [impl_DegreesWithin.l0, if_neg (by omega)]
  | succ d ih =>
    intro i acc hd hi ha
    by_cases hb : s.testBit i = true
    · obtain ⟨c, -, -, d1, d2⟩ := deg_both l own hl hr s hs i (by omega)
      obtain ⟨r, hr', e1, e2⟩ := ih (i + 1) (acc ++ [(c : Int)]) (by omega) (by omega) (by simp; omega)
      refine ⟨r, hr', Ev.succ e1 17 fun k hk => ?_, Ev.succ e2 17 fun k hk => ?_⟩
      · rw [spec_DegreesWithin.l0, if_pos (by omega), grIn_nat s i (by omega), hb, d1 k hk]
        simp only [Option.bind_some, if_true]
        rw [if_pos (by omega), step1 (by omega)]
      · rw [impl_DegreesWithin.l0, if_pos (by omega), if_pos (by omega), if_pos (by omega), has_nat s i (by omega), hb, d2]
        simp only [Option.bind_some, if_true]
        rw [if_pos (by omega), step1 (by omega)]
    · obtain ⟨r, hr', e1, e2⟩ := ih (i + 1) acc (by omega) (by omega) (by omega)
      refine ⟨r, hr', Ev.succ e1 0 fun k hk => ?_, Ev.succ e2 0 fun k hk => ?_⟩
      · rw [spec_DegreesWithin.l0, if_pos (by omega), grIn_nat s i (by omega), Bool.eq_false_iff.mpr hb]
        simp only [Option.bind_some]
        rw [if_neg (by simp), step1 (by omega)]
      · rw [impl_DegreesWithin.l0, if_pos (by omega), if_pos (by omega), if_pos (by omega), has_nat s i (by omega), Bool.eq_false_iff.mpr hb]
        simp only [Option.bind_some]
        rw [if_neg (by simp), step1 (by omega)]
theorem both (l : List Int) (own : Bool) (hlen : l.length ≤ 4611686018427387904) (a : Int) : ∃ r : List Int × Bool, r.1.length ≤ 16 ∧ Ev (fun k => spec_DegreesWithin.f k l own a) r ∧ Ev (fun k => impl_DegreesWithin.f k l own a) r := by
  obtain ⟨b, hb, ⟨K1, e1⟩, ⟨K2, e2⟩⟩ := set_both l own hlen a
  simp only at e1 e2
  cases b with
  | false =>
    refine ⟨([], false), by simp, ⟨K1, fun k hk => ?_⟩, ⟨K2, fun k hk => ?_⟩⟩
    · show spec_DegreesWithin.f k l own a = _
      unfold spec_DegreesWithin.f; rw [e1 k hk]; rfl
    · show impl_DegreesWithin.f k l own a = _
      unfold impl_DegreesWithin.f; rw [e2 k hk]; rfl
  | true =>
    obtain ⟨G, h0, h1⟩ := hb.1 rfl
    obtain ⟨s, rfl⟩ : ∃ s : Nat, a = s := ⟨a.toNat, by omega⟩
    have hp := pow16 G.2.1
    have ep : ((2 ^ l.length : Nat) : Int) = (2 : Int) ^ l.length := by simp
    obtain ⟨r, hr, ⟨K3, e3⟩, ⟨K4, e4⟩⟩ := loops l own G.2.1 G.2.2.1 s (by omega) l.length 0 [] (by omega) (by omega) (by simp)
    simp only at e3 e4
    refine ⟨(r, true), hr, ⟨K1 + K3, fun k hk => ?_⟩, ⟨K2 + K4, fun k hk => ?_⟩⟩
    · show spec_DegreesWithin.f k l own s = _
      unfold spec_DegreesWithin.f; rw [e1 k (by omega)]
      simp only [Option.bind_some, if_true]
      exact e3 k (by omega)
    · show impl_DegreesWithin.f k l own s = _
      unfold impl_DegreesWithin.f; rw [e2 k (by omega)]
      simp only [Option.bind_some, if_true]
      exact e4 k (by omega)
theorem FnExactDegreesWithin : laws_FnExactDegreesWithin.Pure := by
  intro l b a hl _ _
  have hm : maxLen = 9223372036854775807 := by decide
  rw [hm] at hl
  by_cases hbig : l.length ≤ 1048576
  · obtain ⟨⟨r1, r2⟩, hr, ⟨K1, s⟩, ⟨K2, i⟩⟩ := both l b (by omega) a
    obtain ⟨K3, t⟩ := toGraph_ev l b (by omega)
    obtain ⟨K4, e⟩ := eqGraph_ev l b (by omega)
    simp only at hr
    obtain ⟨K5, er⟩ := eqIntS_ev r1 (by omega)
    obtain ⟨K6, mg⟩ := markGraph_ev l b 1 (by omega) (by omega)
    obtain ⟨K7, mr⟩ := markIntS_ev r1 1 (by omega) (by omega)
    obtain ⟨K8, hr8⟩ := heldIntS_ev 1 r1.length (by omega) (by omega)
    simp only at s i t e er mg mr hr8
    refine ⟨K1 + K2 + K3 + K4 + K5 + K6 + K7 + K8 + 3, ?_⟩
    generalize hk : K1 + K2 + K3 + K4 + K5 + K6 + K7 + K8 = K
    unfold laws_FnExactDegreesWithin.f
    rw [szGraph_small l b hbig]
    simp only [Option.bind_some]
    rw [if_neg (by omega), t (K + 3) (by omega)]
    simp only [Option.bind_some]
    rw [s (K + 3) (by omega)]
    simp only [Option.bind_some]
    rw [i (K + 3) (by omega)]
    simp only [Option.bind_some, bne_self_eq_false]
    rw [er (K + 3) (by omega)]
    simp only [Option.bind_some, if_true]
    rw [laws_FnExactDegreesWithin.j0, if_neg (by simp), t (K + 2) (by omega)]
    simp only [Option.bind_some]
    rw [e (K + 2) (by omega)]
    simp only [Option.bind_some, if_true]
    rw [mg (K + 2) (by omega)]
    simp only [Option.bind_some]
    rw [if_neg (by omega), er (K + 2) (by omega)]
    simp only [Option.bind_some, if_true, bne_self_eq_false]
    rw [laws_FnExactDegreesWithin.j1, if_neg (by simp), mr (K + 1) (by omega)]
    simp only [Option.bind_some]
    rw [hr8 (K + 1) (by omega)]
    simp only [Option.bind_some]
    rw [if_neg (by omega), if_pos (by trivial), t (K + 1) (by omega)]
    simp only [Option.bind_some]
    rw [i (K + 1) (by omega)]
    simp only [Option.bind_some, bne_self_eq_false]
    rw [er (K + 1) (by omega)]
    simp only [Option.bind_some, if_true]
    rw [laws_FnExactDegreesWithin.j2, if_neg (by simp), hr8 K (by omega)]
    simp only [Option.bind_some]
    rw [if_neg (by omega), if_pos (by trivial)]
  · exact ⟨0, by unfold laws_FnExactDegreesWithin.f; rw [szGraph_big l b hl hbig]; rfl⟩
end Go.Proofs.Ytdpdmhjmmpncoaa.Pure
