/- The law FnExactEvenSplits, with no program in sight. -/
import Derived.Test.YtoobofnpdiapgaaES
import Derived.Test.YtoobofnpdiapgaaLA
import Derived.Test.YtoobofnpdiapgaaSayFnExactEvenSplits
import Derived.Test.YtoobofnpdiapgaaPx1
import Derived.Test.YtoobofnpdiapgaaPx16
import Derived.Test.YtoobofnpdiapgaaPx17
import Derived.Test.YtoobofnpdiapgaaPx24
import Derived.Test.YtoobofnpdiapgaaPx25
import Derived.Test.YtoobofnpdiapgaaPx6
namespace Go.Proofs.Ytoobofnpdiapgaa.Pure
open Go.RowKit Go.Proofs.Ytoobofnpdiapgaa.P Go.Proofs.Ytoobofnpdiapgaa.Bt Go.Proofs.Ytoobofnpdiapgaa.Lw Go.Proofs.Ytoobofnpdiapgaa.Gr Go.Proofs.Ytoobofnpdiapgaa.Sp Go.Proofs.Ytoobofnpdiapgaa.Pa Go.Proofs.Ytoobofnpdiapgaa.St Go.Proofs.Ytoobofnpdiapgaa.Bo Go.Proofs.YtoobofnpdiapgaaW.PrintWords Go.Proofs.YtoobofnpdiapgaaW.PrintLast Go.Proofs.YtoobofnpdiapgaaW.PrintMore
set_option linter.unusedVariables false
set_option linter.unusedSimpArgs false

theorem bothEvenSplits (l : List Int) (own : Bool) (hlen : l.length ≤ 4611686018427387904) : ∃ r : List Int × Bool, r.1.length ≤ 70000 ∧ Ev (fun k => spec_EvenSplits.f k l own) r ∧ Ev (fun k => impl_EvenSplits.f k l own) r := by
  obtain ⟨g, hg, ⟨K1, e1⟩, ⟨K2, e2⟩⟩ := good_both l own hlen
  simp only at e1 e2
  cases g with
  | false =>
    refine ⟨([], false), by simp, ⟨K1, fun k hk => ?_⟩, ⟨K2, fun k hk => ?_⟩⟩
    · show spec_EvenSplits.f k l own = _
      unfold spec_EvenSplits.f; rw [e1 k hk]; rfl
    · show impl_EvenSplits.f k l own = _
      unfold impl_EvenSplits.f impl_EvenSplits.fk impl_split.fk impl_countSplits.fk; rw [e2 k hk]; rfl
  | true =>
    have G := hg.1 rfl
    have hl := G.2.1
    obtain ⟨m, r, Q, hm, hr, hrW, hQ, hQl, hk1, ⟨K3, e3⟩, E, W, s, rp, s1, s2, s3, s4, s5⟩ := split_more l G own
    simp only at e3
    have hN : 2 ^ l.length ≤ 65536 := pow_le16 hl
    have hp : 2 ^ (l.length - m) ≤ 65536 := pow_le16 (by omega)
    have hsh := shl_nat (a := 1) (n := l.length - m) (by omega) (by omega)
    rw [Nat.shiftLeft_eq, Nat.one_mul, show ((1 : Nat) : Int) = 1 from rfl] at hsh
    have hsp : ∀ k, impl_isGraph.f k l own = some true → impl_split.fk 1000 k l own 0 = some ((r : Int), true) ∧ impl_countSplits.fk 1000 k l own 0 = some (((2 ^ (l.length - m) : Nat) : Int), true) := fun k h => by
      constructor
      · unfold impl_split.fk
        rw [h]
        simp only [Option.bind_some, if_true]
        rw [s1]
        simp only [Option.bind_some]
        rw [s2]
        simp only [Option.bind_some]
        rw [s4]
        simp only [Option.bind_some]
        rw [s5]
        rfl
      · unfold impl_countSplits.fk
        rw [h]
        simp only [Option.bind_some, if_true]
        rw [s1]
        simp only [Option.bind_some]
        rw [s2]
        simp only [Option.bind_some]
        rw [s3, ci_length, hQl, hsh]
    by_cases c : 2 ^ (l.length - m) ≤ 300
    · obtain ⟨o, q, u, p1, p2, p3, p4⟩ := list_at (N := 2 ^ l.length) (W := wOf (fOdd l false) l.length) (e := eff (fun j => (lF (nr l) (fOdd l false) l.length).getD j 0) l.length) hQ (by omega) hN (fun x hx => by
        have := ((hk1 x).1 (InSpan.mem hx)).1
        omega) hk1 (fun u v hu hv => Nat.xor_lt_two_pow hu hv) (eff_xor _ _) hr hrW
      refine ⟨(ci ((List.range' 0 (2 ^ l.length)).filter fun x => decide (eff (fun j => (lF (nr l) (fOdd l false) l.length).getD j 0) l.length x = wOf (fOdd l false) l.length)), true), ?_, ⟨K1 + K3 + 66000, fun k hk => ?_⟩, ⟨K2, fun k hk => ?_⟩⟩
      · have := List.length_filter_le (fun x => decide (eff (fun j => (lF (nr l) (fOdd l false) l.length).getD j 0) l.length x = wOf (fOdd l false) l.length)) (List.range' 0 (2 ^ l.length))
        rw [List.length_range'] at this
        show (ci _).length ≤ _
        rw [ci_length]; omega
      · show spec_EvenSplits.f k l own = _
        unfold spec_EvenSplits.f; rw [e1 k (by omega)]
        simp only [Option.bind_some, if_true]
        rw [e3 k (by omega)]
        simp only [Option.bind_some]
        have hq := Nat.two_pow_pos l.length
        have hall : wrap64 (shl .i64 1 (l.length : Int) - 1) = ((2 ^ l.length - 1 : Nat) : Int) := by
          have h := shl_nat (a := 1) (n := l.length) (by omega) (by omega)
          rw [Nat.shiftLeft_eq, Nat.one_mul, show ((1 : Nat) : Int) = 1 from rfl] at h
          rw [h, show ((2 ^ l.length : Nat) : Int) - 1 = ((2 ^ l.length - 1 : Nat) : Int) by omega, wrap_nat (by omega)]
        rw [if_neg (by omega), hall]
        have := spl_at l G own (2 ^ l.length) 0 k [] (by omega) (Nat.le_refl _) (by omega)
        rw [List.nil_append] at this
        exact this
      · show impl_EvenSplits.f k l own = _
        obtain ⟨a1, a2⟩ := hsp k (e2 k hk)
        unfold impl_EvenSplits.f impl_EvenSplits.fk
        rw [a1, a2]
        simp only [Option.bind_some]
        rw [if_pos (by refine ⟨?_, ?_⟩ <;> first | trivial | omega), s1]
        simp only [Option.bind_some]
        rw [s2]
        simp only [Option.bind_some]
        rw [s3, p1]
        simp only [Option.bind_some]
        rw [p2]
        simp only [Option.bind_some]
        rw [p3]
        simp only [Option.bind_some]
        rw [p4]
        rfl
    · refine ⟨([], false), by simp, ⟨K1 + K3, fun k hk => ?_⟩, ⟨K2, fun k hk => ?_⟩⟩
      · show spec_EvenSplits.f k l own = _
        unfold spec_EvenSplits.f; rw [e1 k (by omega)]
        simp only [Option.bind_some, if_true]
        rw [e3 k (by omega)]
        simp only [Option.bind_some]
        rw [if_pos (by omega)]
      · show impl_EvenSplits.f k l own = _
        obtain ⟨a1, a2⟩ := hsp k (e2 k hk)
        unfold impl_EvenSplits.f impl_EvenSplits.fk
        rw [a1, a2]
        simp only [Option.bind_some]
        rw [if_neg (fun h => by have := h.2; omega)]
theorem FnExactEvenSplits : laws_FnExactEvenSplits.Pure := by
  intro l b hl _
  have hm : maxLen = 9223372036854775807 := by decide
  rw [hm] at hl
  by_cases hbig : l.length ≤ 1048576
  · obtain ⟨⟨r1, r2⟩, hr, ⟨K1, s⟩, ⟨K2, i⟩⟩ := bothEvenSplits l b (by omega)
    obtain ⟨K3, t⟩ := toGraph_ev l b (by omega)
    obtain ⟨K4, e⟩ := eqGraph_ev l b (by omega)
    simp only at hr
    obtain ⟨K5, er⟩ := eqIntS_ev r1 (by omega)
    obtain ⟨K6, mg⟩ := markGraph_ev l b 1 (by omega) (by omega)
    obtain ⟨K7, mr⟩ := markIntS_ev r1 1 (by omega) (by omega)
    obtain ⟨K8, hr8⟩ := heldIntS_ev 1 r1.length (by omega) (by omega)
    simp only at s i t e er mg mr hr8
    refine ⟨K1 + K2 + K3 + K4 + K5 + K6 + K7 + K8 + 3, ?_⟩
    generalize hk : K1 + K2 + K3 + K4 + K5 + K6 + K7 + K8 = K
    unfold laws_FnExactEvenSplits.f
    rw [szGraph_small l b hbig]
    simp only [Option.bind_some]
    rw [if_neg (by omega), t (K + 3) (by omega)]
    simp only [Option.bind_some]
    rw [s (K + 3) (by omega)]
    simp only [Option.bind_some]
    rw [i (K + 3) (by omega)]
    simp only [Option.bind_some, bne_self_eq_false]
    rw [er (K + 3) (by omega)]
    simp only [Option.bind_some, if_true]
    rw [laws_FnExactEvenSplits.j0, if_neg (by simp), t (K + 2) (by omega)]
    simp only [Option.bind_some]
    rw [e (K + 2) (by omega)]
    simp only [Option.bind_some, if_true]
    rw [mg (K + 2) (by omega)]
    simp only [Option.bind_some]
    rw [if_neg (by omega), er (K + 2) (by omega)]
    simp only [Option.bind_some, if_true, bne_self_eq_false]
    rw [laws_FnExactEvenSplits.j1, if_neg (by simp), mr (K + 1) (by omega)]
    simp only [Option.bind_some]
    rw [hr8 (K + 1) (by omega)]
    simp only [Option.bind_some]
    rw [if_neg (by omega), if_pos (by trivial), t (K + 1) (by omega)]
    simp only [Option.bind_some]
    rw [i (K + 1) (by omega)]
    simp only [Option.bind_some, bne_self_eq_false]
    rw [er (K + 1) (by omega)]
    simp only [Option.bind_some, if_true]
    rw [laws_FnExactEvenSplits.j2, if_neg (by simp), hr8 K (by omega)]
    simp only [Option.bind_some]
    rw [if_neg (by omega), if_pos (by trivial)]
  · exact ⟨0, by unfold laws_FnExactEvenSplits.f; rw [szGraph_big l b hl hbig]; rfl⟩
end Go.Proofs.Ytoobofnpdiapgaa.Pure
