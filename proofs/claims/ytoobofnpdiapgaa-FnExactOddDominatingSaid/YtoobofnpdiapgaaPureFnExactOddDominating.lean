/- The law FnOddDominating, with no program in sight. -/
import Derived.Test.YtoobofnpdiapgaaDom
import Derived.Test.YtoobofnpdiapgaaLA
import Derived.Test.YtoobofnpdiapgaaSayFnExactOddDominating
import Derived.Test.YtoobofnpdiapgaaSets
import Derived.Test.YtoobofnpdiapgaaPx1
import Derived.Test.YtoobofnpdiapgaaPx35
import Derived.Test.YtoobofnpdiapgaaPx36
import Derived.Test.YtoobofnpdiapgaaPx37
namespace Go.Proofs.Ytoobofnpdiapgaa.Pure
open Go.RowKit Go.Proofs.Ytoobofnpdiapgaa.P Go.Proofs.Ytoobofnpdiapgaa.Bt Go.Proofs.Ytoobofnpdiapgaa.Lw Go.Proofs.Ytoobofnpdiapgaa.Gr Go.Proofs.Ytoobofnpdiapgaa.St Go.Proofs.YtoobofnpdiapgaaW.PrintWords Go.Proofs.YtoobofnpdiapgaaW.PrintLast Go.Proofs.YtoobofnpdiapgaaW.PrintMore
set_option linter.unusedVariables false
set_option linter.unusedSimpArgs false

theorem bothOddDominating (l : List Int) (own : Bool) (hlen : l.length ≤ 4611686018427387904) : ∃ r : Int × Bool, Ev (fun k => spec_OddDominating.f k l own) r ∧ Ev (fun k => impl_OddDominating.f k l own) r := by
  obtain ⟨g, hg, ⟨K1, e1⟩, -⟩ := good_both l own hlen
  have hw0 : 0 ≤ mn (l.length : Int) 16 := by unfold mn; split <;> omega
  obtain ⟨a, ha⟩ : ∃ a, impl_whole.f (mn (l.length : Int) 16) = some a := by unfold impl_whole.f; rw [if_pos hw0]; exact ⟨_, rfl⟩
  obtain ⟨g', hg', -, ⟨K2, e2⟩⟩ := set_both l true hlen a
  simp only at e1 e2
  cases g with
  | false =>
    have hgf : g' = false := by
      rw [Bool.eq_false_iff]; intro h
      have := hg.2 (hg'.1 h).1
      cases this
    subst hgf
    refine ⟨(0, false), ⟨K1, fun k hk => ?_⟩, ⟨K2, fun k hk => ?_⟩⟩
    · show spec_OddDominating.f k l own = _
      unfold spec_OddDominating.f; rw [e1 k hk]; rfl
    · show impl_OddDominating.f k l own = _
      unfold impl_OddDominating.f impl_AllOn.f impl_SolveBoard.f impl_SolveBoard.fk; rw [ha]
      simp only [Option.bind_some]
      rw [e2 k hk]; rfl
  | true =>
    have G := hg.1 rfl
    have hl := G.2.1
    have hpn : 2 ^ l.length ≤ 65536 := Bo.pow_le16 hl
    have hpos := Nat.two_pow_pos l.length
    have ea : a = ((2 ^ l.length - 1 : Nat) : Int) := by
      rw [show mn (l.length : Int) 16 = (l.length : Int) by unfold mn; split <;> omega, whole_nat hl] at ha
      exact (Option.some.inj ha).symm
    have ep : ((2 ^ l.length : Nat) : Int) = (2 : Int) ^ l.length := by simp
    have hgt : g' = true := hg'.2 ⟨G, by rw [ea]; omega, by rw [ea]; omega⟩
    subst hgt
    obtain ⟨m, r, hm, hr, ⟨K3, e3⟩, E, s, rp, s1, s2, s3, s4, s5⟩ := dom_good l G own
    simp only at e3
    refine ⟨((r : Int), true), ⟨K1 + K3, fun k hk => ?_⟩, ⟨K2, fun k hk => ?_⟩⟩
    · show spec_OddDominating.f k l own = _
      unfold spec_OddDominating.f; rw [e1 k (by omega)]
      simp only [Option.bind_some, if_true]
      rw [e3 k (by omega)]
      rfl
    · show impl_OddDominating.f k l own = _
      unfold impl_OddDominating.f impl_AllOn.f impl_SolveBoard.f impl_SolveBoard.fk; rw [ha]
      simp only [Option.bind_some]
      rw [e2 k hk]
      simp only [Option.bind_some, if_true]
      rw [s1]
      simp only [Option.bind_some]
      rw [s2]
      simp only [Option.bind_some]
      rw [ea, s4]
      simp only [Option.bind_some]
      rw [s5]
      rfl
theorem FnExactOddDominating : laws_FnExactOddDominating.Pure := by
  intro l b hl _
  have hm : maxLen = 9223372036854775807 := by decide
  rw [hm] at hl
  by_cases hbig : l.length ≤ 1048576
  · obtain ⟨⟨r1, r2⟩, ⟨K1, s⟩, ⟨K2, i⟩⟩ := bothOddDominating l b (by omega)
    obtain ⟨K3, t⟩ := toGraph_ev l b (by omega)
    obtain ⟨K4, e⟩ := eqGraph_ev l b (by omega)
    simp only at s i t e
    refine ⟨K1 + K2 + K3 + K4 + 1, ?_⟩
    generalize hk : K1 + K2 + K3 + K4 = K
    unfold laws_FnExactOddDominating.f
    rw [szGraph_small l b hbig]
    simp only [Option.bind_some]
    rw [if_neg (by omega), t (K + 1) (by omega)]
    simp only [Option.bind_some]
    rw [s (K + 1) (by omega)]
    simp only [Option.bind_some]
    rw [i (K + 1) (by omega)]
    simp only [Option.bind_some, bne_self_eq_false, if_true]
    rw [laws_FnExactOddDominating.j0, if_neg (by simp), t K (by omega)]
    simp only [Option.bind_some]
    rw [e K (by omega)]
    rfl
  · exact ⟨0, by unfold laws_FnExactOddDominating.f; rw [szGraph_big l b hl hbig]; rfl⟩
end Go.Proofs.Ytoobofnpdiapgaa.Pure
