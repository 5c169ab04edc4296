/- The law FnExactCountEvenEdges, with no program in sight. -/
import Derived.Test.YtdpdmhjmmpncoaaForest
import Derived.Test.YtdpdmhjmmpncoaaSets
import Derived.Test.YtdpdmhjmmpncoaaSayFnExactCountEvenEdges
import Derived.Test.YtdpdmhjmmpncoaaPx11
import Derived.Test.YtdpdmhjmmpncoaaSayFnExactCountEvenEdges
namespace Go.Proofs.Ytdpdmhjmmpncoaa.Pure
open Go.RowKit Go.Proofs.Ytdpdmhjmmpncoaa.P Go.Proofs.Ytdpdmhjmmpncoaa.Bt Go.Proofs.Ytdpdmhjmmpncoaa.Lw Go.Proofs.Ytdpdmhjmmpncoaa.Gr Go.Proofs.YtdpdmhjmmpncoaaW.PrintWords Go.Proofs.YtdpdmhjmmpncoaaW.PrintLast Go.Proofs.YtdpdmhjmmpncoaaW.PrintMore
set_option linter.unusedVariables false
set_option linter.unusedSimpArgs false

theorem both (l : List Int) (own : Bool) (hlen : l.length ≤ 4611686018427387904) : ∃ r : Int × Bool, Ev (fun k => spec_CountEvenEdges.f k l own) r ∧ Ev (fun k => impl_CountEvenEdges.f k l own) r := by
  obtain ⟨b, hb, ⟨K1, e1⟩, ⟨K2, e2⟩⟩ := good_both l own hlen
  simp only at e1 e2
  cases b with
  | false =>
    refine ⟨(0, false), ⟨K1, fun k hk => ?_⟩, ⟨K2, fun k hk => ?_⟩⟩
    · show spec_CountEvenEdges.f k l own = _
      unfold spec_CountEvenEdges.f; rw [e1 k hk]; rfl
    · show impl_CountEvenEdges.f k l own = _
      unfold impl_CountEvenEdges.f; rw [e2 k hk]; rfl
  | true =>
    have G := hb.1 rfl
    obtain ⟨⟨K3, e3⟩, ⟨K4, e4⟩⟩ := parts_ev l own G.2.1 G.2.2.1
    obtain ⟨⟨K5, e5⟩, ⟨K6, e6⟩⟩ := edges_ev l own G.2.1 G.2.2.1
    simp only at e3 e4 e5 e6
    have h1 := count_graph G
    have h2 := edges_short (l := l) G.2.1
    have h3 := parts_short l G.2.1
    have hl := G.2.1
    generalize (edgesR (nr l) l.length l.length) = E at *
    generalize (up (partsOf l l.length 0 0 [])) = P at *
    obtain ⟨m, hm⟩ : ∃ m : Nat, E.length + P.length = l.length + m := ⟨E.length + P.length - l.length, by omega⟩
    have hw : wrap64 (wrap64 ((E.length : Int) - (l.length : Int)) + (P.length : Int)) = (m : Int) := by
      rw [Bt.wrap_id (x := (E.length : Int) - (l.length : Int)) (by omega) (by omega), Bt.wrap_id (by omega) (by omega)]
      omega
    have key : ∃ r : Int × Bool, (if (m : Int) > 60 then some ((0 : Int), false) else (if 0 ≤ (m : Int) then some (shl .i64 1 (m : Int), true) else none)) = some r := by
      by_cases c : (m : Int) > 60
      · exact ⟨_, if_pos c⟩
      · rw [if_neg c, if_pos (by omega)]; exact ⟨_, rfl⟩
    obtain ⟨r, hr⟩ := key
    refine ⟨r, ⟨K1 + K3 + K5, fun k hk => ?_⟩, ⟨K2 + K4 + K6, fun k hk => ?_⟩⟩
    · show spec_CountEvenEdges.f k l own = _
      unfold spec_CountEvenEdges.f; rw [e1 k (by omega)]
      simp only [Option.bind_some, if_true]
      rw [e5 k (by omega)]
      simp only [Option.bind_some]
      rw [e3 k (by omega)]
      simp only [Option.bind_some]
      rw [hw]; exact hr
    · show impl_CountEvenEdges.f k l own = _
      unfold impl_CountEvenEdges.f; rw [e2 k (by omega)]
      simp only [Option.bind_some, if_true]
      rw [e6 k (by omega)]
      simp only [Option.bind_some]
      rw [e4 k (by omega)]
      simp only [Option.bind_some]
      rw [hw]; exact hr
theorem FnExactCountEvenEdges : laws_FnExactCountEvenEdges.Pure := by
  intro l b hl _
  have hm : maxLen = 9223372036854775807 := by decide
  rw [hm] at hl
  by_cases hbig : l.length ≤ 1048576
  · obtain ⟨⟨r1, r2⟩, ⟨K1, s⟩, ⟨K2, i⟩⟩ := both l b (by omega)
    obtain ⟨K3, t⟩ := toGraph_ev l b (by omega)
    obtain ⟨K4, e⟩ := eqGraph_ev l b (by omega)
    simp only at s i t e
    refine ⟨K1 + K2 + K3 + K4 + 1, ?_⟩
    generalize hk : K1 + K2 + K3 + K4 = K
    unfold laws_FnExactCountEvenEdges.f
    rw [szGraph_small l b hbig]
    simp only [Option.bind_some]
    rw [if_neg (by omega), t (K + 1) (by omega)]
    simp only [Option.bind_some]
    rw [s (K + 1) (by omega)]
    simp only [Option.bind_some]
    rw [i (K + 1) (by omega)]
    simp only [Option.bind_some, bne_self_eq_false, if_true]
    rw [laws_FnExactCountEvenEdges.j0, if_neg (by simp), t K (by omega)]
    simp only [Option.bind_some]
    rw [e K (by omega)]
    rfl
  · exact ⟨0, by unfold laws_FnExactCountEvenEdges.f; rw [szGraph_big l b hl hbig]; rfl⟩
end Go.Proofs.Ytdpdmhjmmpncoaa.Pure
