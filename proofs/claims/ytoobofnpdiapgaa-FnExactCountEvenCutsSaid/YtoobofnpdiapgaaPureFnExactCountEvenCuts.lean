/- The law FnCountEvenCuts, with no program in sight. -/
import Derived.Test.YtoobofnpdiapgaaCuts
import Derived.Test.YtoobofnpdiapgaaLA
import Derived.Test.YtoobofnpdiapgaaSayFnExactCountEvenCuts
import Derived.Test.YtoobofnpdiapgaaPx13
import Derived.Test.YtoobofnpdiapgaaPx17
import Derived.Test.YtoobofnpdiapgaaPx41
namespace Go.Proofs.Ytoobofnpdiapgaa.Pure
open Go.RowKit Go.Proofs.Ytoobofnpdiapgaa.P Go.Proofs.Ytoobofnpdiapgaa.Bt Go.Proofs.Ytoobofnpdiapgaa.Lw Go.Proofs.Ytoobofnpdiapgaa.Gr Go.Proofs.Ytoobofnpdiapgaa.St Go.Proofs.Ytoobofnpdiapgaa.Bo Go.Proofs.YtoobofnpdiapgaaW.PrintWords Go.Proofs.YtoobofnpdiapgaaW.PrintLast Go.Proofs.YtoobofnpdiapgaaW.PrintMore
set_option linter.unusedVariables false
set_option linter.unusedSimpArgs false

theorem bothCountEvenCuts (l : List Int) (own : Bool) (hlen : l.length ≤ 4611686018427387904) : ∃ r : Int × Bool, Ev (fun k => spec_CountEvenCuts.f k l own) r ∧ Ev (fun k => impl_CountEvenCuts.f k l own) r := by
  obtain ⟨g, hg, ⟨K1, e1⟩, ⟨K2, e2⟩⟩ := good_both l own hlen
  simp only at e1 e2
  cases g with
  | false =>
    refine ⟨(0, false), ⟨K1 + 1, fun k hk => ?_⟩, ⟨K2, fun k hk => ?_⟩⟩
    · show spec_CountEvenCuts.f k l own = _
      obtain ⟨k, rfl⟩ : ∃ m, k = m + 1 := ⟨k - 1, by omega⟩
      unfold spec_CountEvenCuts.f; rw [e1 (k + 1) (by omega)]
      simp only [Option.bind_some]
      rw [if_neg (by simp), spec_CountEvenCuts.j0, if_pos rfl]
    · show impl_CountEvenCuts.f k l own = _
      unfold impl_CountEvenCuts.f impl_countSplits.f impl_countSplits.fk; rw [e2 k hk]; rfl
  | true =>
    have G := hg.1 rfl
    have hl := G.2.1
    obtain ⟨m, r, hm, hr, -, E, W, s, rp, s1, s2, s3, s4, s5⟩ := split_good l G own false
    have hp : 2 ^ (l.length - m) ≤ 65536 := Bo.pow_le16 (by omega)
    have hsh := shl_nat (a := 1) (n := l.length - m) (by omega) (by omega)
    rw [Nat.shiftLeft_eq, Nat.one_mul, show ((1 : Nat) : Int) = 1 from rfl] at hsh
    have himpl : ∀ k, K2 ≤ k → impl_countSplits.f k l own 0 = some (((2 ^ (l.length - m) : Nat) : Int), true) := fun k hk => by
      unfold impl_countSplits.f impl_countSplits.fk; rw [e2 k hk]
      simp only [Option.bind_some, if_true]
      rw [show splF 0 l 0 [] 0 = some (E, W) from s1]
      simp only [Option.bind_some]
      rw [s2]
      simp only [Option.bind_some]
      rw [s3, hsh]
    by_cases h10 : l.length ≤ 10
    · obtain ⟨K4, c4⟩ := cuts_count l G own h10
      obtain ⟨-, ⟨K5, e5⟩⟩ := parts_ev l own G.2.1 G.2.2.1
      simp only at e5
      have hY := sym_of l G (fOdd l false)
      obtain ⟨P, Q, I, q1, hI⟩ := Sv.solF_all (L := lF (nr l) (fOdd l false) l.length) (fun x hx => by
        have := hY.l x hx
        have := Bo.pow_le16 hY.n
        omega) hY.n (k := 1000) (by omega)
      have hE : E = ci (lF (nr l) (fOdd l false) l.length) := by
        have h1 := splF_at l G false l.length 0 (by omega)
        rw [if_neg (by simp), List.drop_zero, List.take_zero] at h1
        have h2 : splF 0 l 0 [] 0 = some (E, W) := s1
        rw [show ci ([] : List Nat) = [] from rfl, show ((Bo.wOf (fOdd l false) 0 : Nat) : Int) = 0 from rfl, h2] at h1
        exact (Prod.mk.inj (Option.some.inj h1)).1
      rw [hE, q1] at s2
      have hs : s = (Sv.cp P, ci Q, ci I) := (Option.some.inj s2).symm
      have hQ : Q.length = l.length - m := by rw [← s3, hs]; simp [ci]
      have hcnt := cnt_span (B := Q) hI.qr.tro.tri (N := 2 ^ l.length) (p := fun S => decide (Sp.eff (fun j => (Bo.lF (nr l) (fOdd l false) l.length).getD j 0) l.length S = 0)) (fun x => by
        rw [decide_eq_true_iff]
        have h1 := hI.qe x
        have h2 := hI.ker x
        rw [Bo.lF_len] at h1 h2
        exact ⟨h1, fun h => h2 h.1 h.2⟩)
      refine ⟨(shr .i64 ((2 ^ (l.length - m) : Nat) : Int) ((up (partsOf l l.length 0 0 [])).length : Int), true), ⟨K1 + K4 + 2 ^ l.length + 2, fun k hk => ?_⟩, ⟨K2 + K5, fun k hk => ?_⟩⟩
      · show spec_CountEvenCuts.f k l own = _
        obtain ⟨k, rfl⟩ : ∃ m, k = m + 1 := ⟨k - 1, by omega⟩
        unfold spec_CountEvenCuts.f; rw [e1 (k + 1) (by omega)]
        simp only [Option.bind_some, if_true]
        rw [spec_CountEvenCuts.j0, decide_eq_false (by omega), if_neg (by simp)]
        obtain ⟨-, c5⟩ := c4 k (by omega)
        rw [c5, hcnt, hQ]
      · show impl_CountEvenCuts.f k l own = _
        unfold impl_CountEvenCuts.f; rw [himpl k (by omega)]
        simp only [Option.bind_some, if_true]
        rw [if_neg (by omega), e5 k (by omega)]
        rfl
    · refine ⟨(0, false), ⟨K1 + 1, fun k hk => ?_⟩, ⟨K2, fun k hk => ?_⟩⟩
      · show spec_CountEvenCuts.f k l own = _
        obtain ⟨k, rfl⟩ : ∃ m, k = m + 1 := ⟨k - 1, by omega⟩
        unfold spec_CountEvenCuts.f; rw [e1 (k + 1) (by omega)]
        simp only [Option.bind_some, if_true]
        rw [spec_CountEvenCuts.j0, decide_eq_true (by omega), if_pos rfl]
      · show impl_CountEvenCuts.f k l own = _
        unfold impl_CountEvenCuts.f; rw [himpl k (by omega)]
        simp only [Option.bind_some, if_true]
        rw [if_pos (by omega)]
theorem FnExactCountEvenCuts : laws_FnExactCountEvenCuts.Pure := by
  intro l b hl _
  have hm : maxLen = 9223372036854775807 := by decide
  rw [hm] at hl
  by_cases hbig : l.length ≤ 1048576
  · obtain ⟨⟨r1, r2⟩, ⟨K1, s⟩, ⟨K2, i⟩⟩ := bothCountEvenCuts l b (by omega)
    obtain ⟨K3, t⟩ := toGraph_ev l b (by omega)
    obtain ⟨K4, e⟩ := eqGraph_ev l b (by omega)
    simp only at s i t e
    refine ⟨K1 + K2 + K3 + K4 + 1, ?_⟩
    generalize hk : K1 + K2 + K3 + K4 = K
    unfold laws_FnExactCountEvenCuts.f
    rw [szGraph_small l b hbig]
    simp only [Option.bind_some]
    rw [if_neg (by omega), t (K + 1) (by omega)]
    simp only [Option.bind_some]
    rw [s (K + 1) (by omega)]
    simp only [Option.bind_some]
    rw [i (K + 1) (by omega)]
    simp only [Option.bind_some, bne_self_eq_false, if_true]
    rw [laws_FnExactCountEvenCuts.j0, if_neg (by simp), t K (by omega)]
    simp only [Option.bind_some]
    rw [e K (by omega)]
    rfl
  · exact ⟨0, by unfold laws_FnExactCountEvenCuts.f; rw [szGraph_big l b hl hbig]; rfl⟩
end Go.Proofs.Ytoobofnpdiapgaa.Pure
