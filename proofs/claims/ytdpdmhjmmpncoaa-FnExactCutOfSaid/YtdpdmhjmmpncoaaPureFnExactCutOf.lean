/- The law FnExactCutOf, with no program in sight. -/
import Derived.Test.YtdpdmhjmmpncoaaGB
import Derived.Test.YtdpdmhjmmpncoaaSets
import Derived.Test.YtdpdmhjmmpncoaaLA
import Derived.Test.YtdpdmhjmmpncoaaSayFnExactCutOf
import Derived.Test.YtdpdmhjmmpncoaaPx24
import Derived.Test.YtdpdmhjmmpncoaaPx25
import Derived.Test.YtdpdmhjmmpncoaaPx28
namespace Go.Proofs.Ytdpdmhjmmpncoaa.Pure
open Go.RowKit Go.Proofs.Ytdpdmhjmmpncoaa.P Go.Proofs.Ytdpdmhjmmpncoaa.Bt Go.Proofs.Ytdpdmhjmmpncoaa.Lw Go.Proofs.Ytdpdmhjmmpncoaa.Gr Go.Proofs.YtdpdmhjmmpncoaaW.PrintWords Go.Proofs.YtdpdmhjmmpncoaaW.PrintLast Go.Proofs.YtdpdmhjmmpncoaaW.PrintMore
set_option linter.unusedVariables false
set_option linter.unusedSimpArgs false

theorem cutI_at (S : Nat) (hS : S < 65536) : ∀ (E acc : List (Nat × Nat)), acc.length + E.length ≤ 1000 → cutI (S : Int) (E.map toE) (acc.map toE) = some ((acc ++ E.filter (cutB S)).map toE)
  | [], acc, _ => by simp [cutI]
  | p :: E, acc, h => by
    rw [List.length_cons] at h
    rw [List.map_cons, cutI, if_pos (show 1 < (toE p).length from Nat.lt_succ_self 1), toE_0, toE_1, has_nat _ _ (by omega), has_nat _ _ (by omega)]
    simp only [Option.bind_some]
    rw [if_pos (by rw [List.length_map]; omega), List.filter_cons]
    show (if cutB S p = true then _ else _) = _
    by_cases c : cutB S p = true
    · rw [if_pos c, if_pos c]
      have := cutI_at S hS E (acc ++ [p]) (by simp; omega)
      rw [List.map_append, List.append_assoc] at this
      exact this
    · rw [if_neg c, if_neg c]
      exact cutI_at S hS E acc (by omega)
theorem toE_size : ∀ E : List (Nat × Nat), sizeS (E.map toE) = 2 * E.length
  | [] => rfl
  | p :: E => by
    rw [List.map_cons, sizeS, toE_size E, List.length_cons, show (toE p).length = 2 from rfl]; omega
theorem bothCutOf (l : List Int) (own : Bool) (hlen : l.length ≤ 4611686018427387904) (a : Int) : ∃ (E : List (Nat × Nat)) (b : Bool), E.length ≤ 256 ∧ Ev (fun k => spec_CutOf.f k l own a) (E.map toE, b) ∧ Ev (fun k => impl_CutOf.f k l own a) (E.map toE, b) := by
  obtain ⟨b, hb, ⟨K1, e1⟩, ⟨K2, e2⟩⟩ := set_both l own hlen a
  simp only at e1 e2
  cases b with
  | false =>
    refine ⟨[], false, by simp, ⟨K1, fun k hk => ?_⟩, ⟨K2, fun k hk => ?_⟩⟩
    · show spec_CutOf.f k l own a = _
      unfold spec_CutOf.f; rw [e1 k hk]; rfl
    · show impl_CutOf.f k l own a = _
      unfold impl_CutOf.f; rw [e2 k hk]; rfl
  | true =>
    obtain ⟨G, h0, h1⟩ := hb.1 rfl
    obtain ⟨S, rfl⟩ : ∃ S : Nat, a = S := ⟨a.toNat, by omega⟩
    have hl := G.2.1
    have hp : 2 ^ l.length ≤ 65536 := Nat.le_trans (Nat.pow_le_pow_right (by omega) hl) (by decide)
    have ep : ((2 ^ l.length : Nat) : Int) = (2 : Int) ^ l.length := by simp
    have hS : S < 65536 := by omega
    obtain ⟨⟨K3, e3⟩, ⟨K4, e4⟩⟩ := edges_ev l own G.2.1 G.2.2.1
    have hsh := edges_short (l := l) hl
    rw [edgesR_P, List.length_map] at hsh
    simp only [edgesR_P] at e3 e4
    have hf := List.length_filter_le (cutB S) (prs (nr l) l.length l.length)
    refine ⟨(prs (nr l) l.length l.length).filter (cutB S), true, by omega, ⟨K1 + K3 + 300, fun k hk => ?_⟩, ⟨K2 + K4, fun k hk => ?_⟩⟩
    · show spec_CutOf.f k l own (S : Int) = _
      unfold spec_CutOf.f spec_paCut.f; rw [e1 k (by omega)]
      simp only [Option.bind_some, if_true]
      rw [e3 k (by omega)]
      simp only [Option.bind_some]
      have := cut_l0 S hS (prs (nr l) l.length l.length) (by omega) (prs (nr l) l.length l.length).length 0 k [] (by omega) (Nat.le_refl _) (by omega)
      rw [List.nil_append, List.drop_zero] at this
      rw [List.length_map]
      rw [show (List.map toE [] : List (List Int)) = [] from rfl, show ((0 : Nat) : Int) = 0 from rfl] at this
      rw [this]
      rfl
    · show impl_CutOf.f k l own (S : Int) = _
      unfold impl_CutOf.f; rw [e2 k (by omega)]
      simp only [Option.bind_some, if_true]
      rw [e4 k (by omega)]
      simp only [Option.bind_some]
      have := cutI_at S hS (prs (nr l) l.length l.length) [] (by simp; omega)
      rw [List.nil_append, show (List.map toE [] : List (List Int)) = [] from rfl] at this
      rw [this]
      rfl
theorem FnExactCutOf : laws_FnExactCutOf.Pure := by
  intro l b a hl _ _
  have hm : maxLen = 9223372036854775807 := by decide
  rw [hm] at hl
  by_cases hbig : l.length ≤ 1048576
  · obtain ⟨E, r2, hE, ⟨K1, s⟩, ⟨K2, i⟩⟩ := bothCutOf l b (by omega) a
    obtain ⟨K3, t⟩ := toGraph_ev l b (by omega)
    obtain ⟨K4, e⟩ := eqGraph_ev l b (by omega)
    have hsz := toE_size E
    obtain ⟨K5, er⟩ := eqSS_ev (E.map toE) (by rw [List.length_map]; omega) (fun x hx => by
      obtain ⟨p, _, rfl⟩ := List.mem_map.1 hx
      rw [show (toE p).length = 2 from rfl]; omega)
    obtain ⟨K6, mg⟩ := markGraph_ev l b 1 (by omega) (by omega)
    obtain ⟨K7, mr⟩ := mkSS_at (E.map toE) 1 (by omega) (by omega)
    obtain ⟨K8, hd⟩ := heldSS_ev 1 (E.map toE) (by omega) (by omega) (by rw [List.length_map]; omega)
    simp only at s i t e er mg mr hd
    refine ⟨K1 + K2 + K3 + K4 + K5 + K6 + K7 + K8, ?_⟩
    generalize hk : K1 + K2 + K3 + K4 + K5 + K6 + K7 + K8 = K
    unfold laws_FnExactCutOf.f
    rw [szGraph_small l b hbig]
    simp only [Option.bind_some]
    rw [if_neg (by omega), t K (by omega)]
    simp only [Option.bind_some]
    rw [s K (by omega)]
    simp only [Option.bind_some]
    rw [i K (by omega)]
    simp only [Option.bind_some]
    rw [er K (by omega)]
    simp only [Option.bind_some]
    rw [e K (by omega)]
    simp only [Option.bind_some]
    rw [mg K (by omega)]
    simp only [Option.bind_some]
    rw [mr K (by omega)]
    simp only [Option.bind_some]
    rw [hd K (by omega)]
    simp only [Option.bind_some]
    rw [if_pos (by refine ⟨?_, ?_, ?_, ?_, ?_, ?_⟩ <;> first | trivial | omega)]
  · exact ⟨0, by unfold laws_FnExactCutOf.f; rw [szGraph_big l b hl hbig]; rfl⟩
end Go.Proofs.Ytdpdmhjmmpncoaa.Pure
