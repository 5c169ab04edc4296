/- The law FnCountOddDominating, with no program in sight. -/
import Derived.Test.YtoobofnpdiapgaaDom
import Derived.Test.YtoobofnpdiapgaaLA
import Derived.Test.YtoobofnpdiapgaaSayFnExactCountOddDominating
import Derived.Test.YtoobofnpdiapgaaPx33
import Derived.Test.YtoobofnpdiapgaaPx34
namespace Go.Proofs.Ytoobofnpdiapgaa.Pure
open Go.RowKit Go.Proofs.Ytoobofnpdiapgaa.P Go.Proofs.Ytoobofnpdiapgaa.Bt Go.Proofs.Ytoobofnpdiapgaa.Lw Go.Proofs.Ytoobofnpdiapgaa.Gr Go.Proofs.Ytoobofnpdiapgaa.St Go.Proofs.YtoobofnpdiapgaaW.PrintWords Go.Proofs.YtoobofnpdiapgaaW.PrintLast Go.Proofs.YtoobofnpdiapgaaW.PrintMore
set_option linter.unusedVariables false
set_option linter.unusedSimpArgs false

theorem bothCountOddDominating (l : List Int) (own : Bool) (hlen : l.length ≤ 4611686018427387904) : ∃ r : Int × Bool, Ev (fun k => spec_CountOddDominating.f k l own) r ∧ Ev (fun k => impl_CountOddDominating.f k l own) r := by
  obtain ⟨g, hg, ⟨K1, e1⟩, -⟩ := good_both l own hlen
  obtain ⟨g', hg', -, ⟨K2, e2⟩⟩ := good_both l true hlen
  obtain rfl : g' = g := by rw [Bool.eq_iff_iff, hg, hg']
  simp only at e1 e2
  cases g' with
  | false =>
    refine ⟨(0, false), ⟨K1, fun k hk => ?_⟩, ⟨K2, fun k hk => ?_⟩⟩
    · show spec_CountOddDominating.f k l own = _
      unfold spec_CountOddDominating.f; rw [e1 k hk]; rfl
    · show impl_CountOddDominating.f k l own = _
      unfold impl_CountOddDominating.f impl_NullityOf.f impl_NullityOf.fk; rw [e2 k hk]; rfl
  | true =>
    have G := hg.1 rfl
    obtain ⟨m, r, hm, hr, ⟨K3, e3⟩, E, s, rp, s1, s2, s3, s4, s5⟩ := dom_good l G own
    simp only at e3
    refine ⟨(((2 ^ (l.length - m) : Nat) : Int), true), ⟨K1 + K3, fun k hk => ?_⟩, ⟨K2, fun k hk => ?_⟩⟩
    · show spec_CountOddDominating.f k l own = _
      unfold spec_CountOddDominating.f; rw [e1 k (by omega)]
      simp only [Option.bind_some, if_true]
      rw [e3 k (by omega)]
      rfl
    · show impl_CountOddDominating.f k l own = _
      unfold impl_CountOddDominating.f impl_NullityOf.f impl_NullityOf.fk; rw [e2 k hk]
      simp only [Option.bind_some, if_true]
      rw [s1]
      simp only [Option.bind_some]
      rw [s2]
      simp only [Option.bind_some, if_true]
      have hl := G.2.1
      have hp : 2 ^ (l.length - m) ≤ 65536 := Bo.pow_le16 (by omega)
      have hsh := shl_nat (a := 1) (n := l.length - m) (by omega) (by omega)
      rw [Nat.shiftLeft_eq, Nat.one_mul] at hsh
      rw [show ((1 : Nat) : Int) = 1 from rfl] at hsh
      rw [s3, if_pos (by omega), hsh]
theorem FnExactCountOddDominating : laws_FnExactCountOddDominating.Pure := by
  intro l b hl _
  have hm : maxLen = 9223372036854775807 := by decide
  rw [hm] at hl
  by_cases hbig : l.length ≤ 1048576
  · obtain ⟨⟨r1, r2⟩, ⟨K1, s⟩, ⟨K2, i⟩⟩ := bothCountOddDominating l b (by omega)
    obtain ⟨K3, t⟩ := toGraph_ev l b (by omega)
    obtain ⟨K4, e⟩ := eqGraph_ev l b (by omega)
    simp only at s i t e
    refine ⟨K1 + K2 + K3 + K4 + 1, ?_⟩
    generalize hk : K1 + K2 + K3 + K4 = K
    unfold laws_FnExactCountOddDominating.f
    rw [szGraph_small l b hbig]
    simp only [Option.bind_some]
    rw [if_neg (by omega), t (K + 1) (by omega)]
    simp only [Option.bind_some]
    rw [s (K + 1) (by omega)]
    simp only [Option.bind_some]
    rw [i (K + 1) (by omega)]
    simp only [Option.bind_some, bne_self_eq_false, if_true]
    rw [laws_FnExactCountOddDominating.j0, if_neg (by simp), t K (by omega)]
    simp only [Option.bind_some]
    rw [e K (by omega)]
    rfl
  · exact ⟨0, by unfold laws_FnExactCountOddDominating.f; rw [szGraph_big l b hl hbig]; rfl⟩
end Go.Proofs.Ytoobofnpdiapgaa.Pure
