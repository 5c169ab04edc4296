/- The law FnExactPressColours, with no program in sight. -/
import Derived.Test.YtbbdjoahdbjljaaWord
import Derived.Test.YtbbdjoahdbjljaaSayFnExactPressColours
import Derived.Test.YtbbdjoahdbjljaaPx15
import Derived.Test.YtbbdjoahdbjljaaPx16
import Derived.Test.YtbbdjoahdbjljaaSayFnExactPressColours
namespace Go.Proofs.Ytbbdjoahdbjljaa.Pure
open Go.RowKit Go.Proofs.Ytbbdjoahdbjljaa.P Go.Proofs.Ytbbdjoahdbjljaa.Bt Go.Proofs.Ytbbdjoahdbjljaa.Lw Go.Proofs.Ytbbdjoahdbjljaa.Gr Go.Proofs.Ytbbdjoahdbjljaa.Co Go.Proofs.YtbbdjoahdbjljaaW.PrintWords Go.Proofs.YtbbdjoahdbjljaaW.PrintLast Go.Proofs.YtbbdjoahdbjljaaW.PrintMore
set_option linter.unusedVariables false
set_option linter.unusedSimpArgs false

theorem press_loops {m : Int} (M : IsMod m) (n : Nat) (hn : n ≤ 16) (t : List Int) (ht : t.length = n) (hin : InR m t) : ∀ (d i : Nat) (out : List Int), i + d = n → out.length = n → InR m out →
    ∃ r : List Int, r.length = n ∧ Ev (fun k => spec_PressColours.l0 k m out t (t.length : Int) (i : Int)) (r, true) ∧ Ev (fun k => impl_PressColours.l0 k m out t (t.length : Int) (i : Int)) (r, true) := by
  have hm := mod_small M
  intro d
  induction d with
  | zero =>
    intro i out hi ho hr
    refine ⟨out, ho, Ev.konst 1 fun k hk => ?_, Ev.konst 1 fun k hk => ?_⟩
    · obtain ⟨k, rfl⟩ : ∃ m, k = m + 1 := ⟨k - 1, by omega⟩
      rw [spec_PressColours.l0, if_neg (by omega)]
    · obtain ⟨k, rfl⟩ : ∃ m, k = m + 1 := ⟨k - 1, by omega⟩
      rw [impl_PressColours.l0, if_neg (by omega)]
  | succ d ih =>
    intro i out hi ho hr
    have hti := getD_InR hin (i := i) (by omega)
    have hoi := getD_InR hr (i := i) (by omega)
    have hwr : wrap64 (out.getD i 0 + t.getD i 0) = out.getD i 0 + t.getD i 0 := Bt.wrap_id (by omega) (by omega)
    obtain ⟨r, a, e1, e2⟩ := ih (i + 1) (out.set i (Int.tmod (out.getD i 0 + t.getD i 0) m)) (by omega) (by rw [List.length_set]; exact ho) (set_InR hr (tmod_in hm.1 (by omega)))
    refine ⟨r, a, Ev.succ e1 0 fun k _ => ?_, Ev.succ e2 0 fun k _ => ?_⟩
    · rw [spec_PressColours.l0, if_pos (by omega), if_pos (by omega), if_pos (by omega), if_pos (by omega), if_neg (by omega), rd_nat, rd_nat, hwr, step1 (by omega), Int.toNat_natCast]
    · rw [impl_PressColours.l0, if_pos (by omega), if_pos (by omega), if_pos (by omega), if_pos (by omega), if_neg (by omega), rd_nat, rd_nat, hwr, step1 (by omega), Int.toNat_natCast]
theorem both (l : List Int) (own : Bool) (hlen : l.length ≤ 4611686018427387904) (m : Int) (t w : List Int) (hw : w.length ≤ 4611686018427387904) : ∃ r : List Int × Bool, r.1.length ≤ 16 ∧ Ev (fun k => spec_PressColours.f k l own m t w) r ∧ Ev (fun k => impl_PressColours.f k l own m t w) r := by
  obtain ⟨b, hb, ⟨K7, e7⟩, ⟨K8, e8⟩⟩ := list_both l own hlen m t
  simp only at e7 e8
  rcases word_both l own hlen m w hw with ⟨⟨G, M, L, c, hin⟩, r, hr, hri, ⟨K1, e1⟩, ⟨K2, e2⟩, ⟨K3, e3⟩, ⟨K4, e4⟩⟩ | ⟨hn, ⟨K1, e1⟩, h2⟩
  · simp only at e1 e2 e3 e4
    cases b with
    | false =>
      refine ⟨([], false), by simp, ⟨K1 + K7 + 1, fun k hk => ?_⟩, ⟨K8 + 1, fun k hk => ?_⟩⟩
      · obtain ⟨k, rfl⟩ : ∃ q, k = q + 1 := ⟨k - 1, by omega⟩
        show spec_PressColours.f (k + 1) l own m t w = _
        unfold spec_PressColours.f
        rw [e1 (k + 1) (by omega), Option.bind_some, if_pos rfl, e7 (k + 1) (by omega), Option.bind_some, Bool.not_false, spec_PressColours.j0, if_pos rfl]
      · obtain ⟨k, rfl⟩ : ∃ q, k = q + 1 := ⟨k - 1, by omega⟩
        show impl_PressColours.f (k + 1) l own m t w = _
        unfold impl_PressColours.f
        rw [e8 (k + 1) (by omega), Option.bind_some, if_neg (by simp), impl_PressColours.j0, if_pos rfl]
    | true =>
      obtain ⟨_, _, _, T, I⟩ := hb.1 rfl
      obtain ⟨q, hq, hqi, ⟨K5, e5⟩, ⟨K6, e6⟩⟩ := effect_both G own M r hr hri
      simp only at e5 e6
      have hl := G.2.1
      obtain ⟨z, hz, ⟨K9, e9⟩, ⟨K10, e10⟩⟩ := press_loops M l.length hl t T I l.length 0 q (by omega) hq hqi
      refine ⟨(z, true), by show z.length ≤ 16; omega, ⟨K1 + K7 + K5 + K9 + 1, fun k hk => ?_⟩, ⟨K2 + K3 + K4 + K8 + K6 + K10 + 1, fun k hk => ?_⟩⟩
      · obtain ⟨k, rfl⟩ : ∃ q, k = q + 1 := ⟨k - 1, by omega⟩
        show spec_PressColours.f (k + 1) l own m t w = _
        unfold spec_PressColours.f
        rw [e1 (k + 1) (by omega), Option.bind_some, if_pos rfl, e7 (k + 1) (by omega), Option.bind_some, Bool.not_true, spec_PressColours.j0, if_neg (by simp), e5 k (by omega), Option.bind_some]
        exact e9 k (by omega)
      · obtain ⟨k, rfl⟩ : ∃ q, k = q + 1 := ⟨k - 1, by omega⟩
        show impl_PressColours.f (k + 1) l own m t w = _
        unfold impl_PressColours.f
        rw [e8 (k + 1) (by omega), Option.bind_some, if_pos rfl, if_neg (by omega), e4 (k + 1) (by omega), Option.bind_some, Bool.not_true, impl_PressColours.j0, if_neg (by simp), e2 k (by omega), Option.bind_some, e6 k (by omega), Option.bind_some]
        exact e10 k (by omega)
  · simp only at e1
    refine ⟨([], false), by simp, ⟨K1 + 1, fun k hk => ?_⟩, ?_⟩
    · obtain ⟨k, rfl⟩ : ∃ q, k = q + 1 := ⟨k - 1, by omega⟩
      show spec_PressColours.f (k + 1) l own m t w = _
      unfold spec_PressColours.f
      rw [e1 (k + 1) (by omega), Option.bind_some, if_neg (by simp), spec_PressColours.j0, if_pos rfl]
    · cases b with
      | false =>
        refine ⟨K8 + 1, fun k hk => ?_⟩
        obtain ⟨k, rfl⟩ : ∃ q, k = q + 1 := ⟨k - 1, by omega⟩
        show impl_PressColours.f (k + 1) l own m t w = _
        unfold impl_PressColours.f
        rw [e8 (k + 1) (by omega), Option.bind_some, if_neg (by simp), impl_PressColours.j0, if_pos rfl]
      | true =>
        obtain ⟨G, M, L, T, I⟩ := hb.1 rfl
        obtain ⟨g, hg, _, ⟨K5, e5⟩⟩ := coloured_both l own hlen m
        obtain rfl := hg.2 ⟨G, M, L⟩
        simp only at e5
        rcases h2 with ⟨K2, e2⟩ | ⟨⟨K2, e2⟩, h3⟩
        · simp only at e2
          have h1 := e2 (K2 + K5) (by omega)
          rw [e5 (K2 + K5) (by omega)] at h1
          cases h1
        · rcases h3 with h3 | ⟨h3, ⟨K3, e3⟩⟩
          · refine ⟨K8 + 1, fun k hk => ?_⟩
            obtain ⟨k, rfl⟩ : ∃ q, k = q + 1 := ⟨k - 1, by omega⟩
            show impl_PressColours.f (k + 1) l own m t w = _
            unfold impl_PressColours.f
            rw [e8 (k + 1) (by omega), Option.bind_some, if_pos rfl, if_pos (by omega), impl_PressColours.j0, if_pos rfl]
          · simp only at e3
            refine ⟨K8 + K3 + 1, fun k hk => ?_⟩
            obtain ⟨k, rfl⟩ : ∃ q, k = q + 1 := ⟨k - 1, by omega⟩
            show impl_PressColours.f (k + 1) l own m t w = _
            unfold impl_PressColours.f
            rw [e8 (k + 1) (by omega), Option.bind_some, if_pos rfl, if_neg (by omega), e3 (k + 1) (by omega), Option.bind_some, Bool.not_false, impl_PressColours.j0, if_pos rfl]
theorem FnExactPressColours : laws_FnExactPressColours.Pure := by
  intro l b m t w hl _ _ _ _ _ _ _ _
  have hmx : maxLen = 9223372036854775807 := by decide
  rw [hmx] at hl
  by_cases ht : (t.length : Int) > 1048576
  · exact ⟨0, by unfold laws_FnExactPressColours.f; rw [if_pos ht]⟩
  by_cases hw : (w.length : Int) > 1048576
  · exact ⟨0, by unfold laws_FnExactPressColours.f; rw [if_neg ht, if_pos hw]⟩
  by_cases hbig : l.length ≤ 1048576
  · obtain ⟨⟨r1, r2⟩, hr, ⟨K1, s⟩, ⟨K2, i⟩⟩ := both l b (by omega) m t w (by omega)
    simp only at hr
    obtain ⟨K3, tg⟩ := toGraph_ev l b (by omega)
    obtain ⟨K4, e⟩ := eqGraph_ev l b (by omega)
    obtain ⟨K5, tt⟩ := toIntS_ev t (by omega)
    obtain ⟨K6, et⟩ := eqIntS_ev t (by omega)
    obtain ⟨K12, tw⟩ := toIntS_ev w (by omega)
    obtain ⟨K13, ew⟩ := eqIntS_ev w (by omega)
    obtain ⟨K7, er⟩ := eqIntS_ev r1 (by omega)
    obtain ⟨K8, mg⟩ := markGraph_ev l b 1 (by omega) (by omega)
    obtain ⟨K9, mt⟩ := markIntS_ev t (1 + (l.length : Int)) (by omega) (by omega)
    obtain ⟨K14, mw⟩ := markIntS_ev w (1 + (l.length : Int) + (t.length : Int)) (by omega) (by omega)
    obtain ⟨K10, mr⟩ := markIntS_ev r1 1 (by omega) (by omega)
    obtain ⟨K11, hd⟩ := heldIntS_ev 1 r1.length (by omega) (by omega)
    simp only at s i tg e tt et tw ew er mg mt mw mr hd
    refine ⟨K1 + K2 + K3 + K4 + K5 + K6 + K7 + K8 + K9 + K10 + K11 + K12 + K13 + K14 + 3, ?_⟩
    generalize hk : K1 + K2 + K3 + K4 + K5 + K6 + K7 + K8 + K9 + K10 + K11 + K12 + K13 + K14 = K
    unfold laws_FnExactPressColours.f
    rw [if_neg ht, if_neg hw, szGraph_small l b hbig, Option.bind_some, if_neg (by omega), tg (K + 3) (by omega), Option.bind_some, tt (K + 3) (by omega), Option.bind_some, tw (K + 3) (by omega), Option.bind_some, s (K + 3) (by omega), Option.bind_some, Option.bind_some, Option.bind_some, Option.bind_some, i (K + 3) (by omega), Option.bind_some]
    simp only [bne_self_eq_false]
    rw [er (K + 3) (by omega), Option.bind_some, if_pos rfl]
    rw [laws_FnExactPressColours.j0, if_neg (by simp), tg (K + 2) (by omega), Option.bind_some, e (K + 2) (by omega), Option.bind_some, if_pos rfl, tt (K + 2) (by omega), Option.bind_some, et (K + 2) (by omega), Option.bind_some, if_pos rfl, tw (K + 2) (by omega), Option.bind_some, ew (K + 2) (by omega), Option.bind_some, if_pos rfl, mg (K + 2) (by omega), Option.bind_some]
    simp only []
    rw [mt (K + 2) (by omega), Option.bind_some]
    simp only []
    rw [mw (K + 2) (by omega), Option.bind_some]
    simp only []
    rw [if_neg (by omega), er (K + 2) (by omega), Option.bind_some, if_pos rfl, bne_self_eq_false]
    rw [laws_FnExactPressColours.j1, if_neg (by simp), mr (K + 1) (by omega), Option.bind_some]
    simp only []
    rw [hd (K + 1) (by omega), Option.bind_some, if_neg (by omega), if_pos rfl, tg (K + 1) (by omega), Option.bind_some, tt (K + 1) (by omega), Option.bind_some, tw (K + 1) (by omega), Option.bind_some]
    simp only []
    rw [i (K + 1) (by omega), Option.bind_some]
    simp only [bne_self_eq_false]
    rw [er (K + 1) (by omega), Option.bind_some, if_pos rfl]
    rw [laws_FnExactPressColours.j2, if_neg (by simp), hd K (by omega), Option.bind_some, if_neg (by omega), if_pos rfl]
  · exact ⟨0, by unfold laws_FnExactPressColours.f; rw [if_neg ht, if_neg hw, szGraph_big l b hl hbig]; rfl⟩
end Go.Proofs.Ytbbdjoahdbjljaa.Pure
