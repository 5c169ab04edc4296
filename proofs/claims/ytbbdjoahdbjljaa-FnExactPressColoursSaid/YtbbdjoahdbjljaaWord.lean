/- Words of presses: how often each button is pressed, on both sides. -/
import Derived.Test.YtbbdjoahdbjljaaColour
import Derived.Test.YtbbdjoahdbjljaaPx12
import Derived.Test.YtbbdjoahdbjljaaPx14
import Derived.Test.YtbbdjoahdbjljaaPx2
namespace Go.Proofs.Ytbbdjoahdbjljaa.Co
open Go.RowKit Go.Proofs.Ytbbdjoahdbjljaa.P Go.Proofs.Ytbbdjoahdbjljaa.Bt Go.Proofs.Ytbbdjoahdbjljaa.Lw Go.Proofs.Ytbbdjoahdbjljaa.Gr Go.Proofs.YtbbdjoahdbjljaaW.PrintWords Go.Proofs.YtbbdjoahdbjljaaW.PrintLast Go.Proofs.YtbbdjoahdbjljaaW.PrintMore
set_option linter.unusedVariables false
set_option linter.unusedSimpArgs false

theorem word_loops {m : Int} (M : IsMod m) (n : Nat) (w : List Int) (hw : w.length ≤ 200) (hin : InR (n : Int) w) : ∀ (d i : Nat) (out : List Int), i + d = w.length → out.length = n → InR m out →
    ∃ r : List Int, r.length = n ∧ InR m r ∧ Ev (fun k => spec_clWord.l0 k m out w (w.length : Int) (i : Int)) (r, true) ∧ Ev (fun k => impl_Graph_pressWord.l0 k m out w (w.length : Int) (i : Int)) r := by
  have hm := mod_small M
  intro d
  induction d with
  | zero =>
    intro i out hi ho hr
    refine ⟨out, ho, hr, Ev.konst 1 fun k hk => ?_, Ev.konst 1 fun k hk => ?_⟩
    · obtain ⟨k, rfl⟩ : ∃ m, k = m + 1 := ⟨k - 1, by omega⟩
      rw [spec_clWord.l0, if_neg (by omega)]
    · obtain ⟨k, rfl⟩ : ∃ m, k = m + 1 := ⟨k - 1, by omega⟩
      rw [impl_Graph_pressWord.l0, if_neg (by omega)]
  | succ d ih =>
    intro i out hi ho hr
    have hri : rd w (i : Int) = w.getD i 0 := rd_nat _ _
    have hwi := getD_InR hin (i := i) (by omega)
    obtain ⟨v, hv⟩ : ∃ v : Nat, w.getD i 0 = (v : Int) := ⟨(w.getD i 0).toNat, by omega⟩
    rw [hv] at hwi
    have hrv : rd out (v : Int) = out.getD v 0 := rd_nat _ _
    have hov := getD_InR hr (i := v) (by omega)
    have hwr : wrap64 (out.getD v 0 + 1) = out.getD v 0 + 1 := Bt.wrap_id (by omega) (by omega)
    obtain ⟨r, a, b, e1, e2⟩ := ih (i + 1) (out.set v (Int.tmod (out.getD v 0 + 1) m)) (by omega) (by rw [List.length_set]; exact ho) (set_InR hr (tmod_in hm.1 (by omega)))
    refine ⟨r, a, b, Ev.succ e1 0 fun k _ => ?_, Ev.succ e2 0 fun k _ => ?_⟩
    · rw [spec_clWord.l0, if_pos (by omega), if_pos (by omega), if_pos (by omega), hri, hv, if_pos (by omega), if_pos (by omega), if_neg (by omega), hrv, hwr, step1 (by omega), Int.toNat_natCast]
    · rw [impl_Graph_pressWord.l0, if_pos (by omega), if_pos (by omega), if_pos (by omega), hri, hv, if_pos (by omega), if_pos (by omega), if_neg (by omega), hrv, hwr, step1 (by omega), Int.toNat_natCast]
def WordOk (l : List Int) (m : Int) (w : List Int) : Prop := Gr.Good l ∧ IsMod m ∧ l.length ≤ 10 ∧ w.length ≤ 200 ∧ InR (l.length : Int) w
theorem all_btn {l : List Int} (hl : 1 ≤ l.length ∧ l.length ≤ 16) (w : List Int) : (w.all fun x => decide (0 ≤ x) && decide (x ≤ wrap64 ((l.length : Int) - 1))) = true ↔ InR (l.length : Int) w := by
  rw [Bt.wrap_id (by omega) (by omega)]
  simp only [List.all_eq_true, Bool.and_eq_true, decide_eq_true_eq, InR]
  exact ⟨fun h x hx => ⟨(h x hx).1, by have := (h x hx).2; omega⟩, fun h x hx => ⟨(h x hx).1, by have := (h x hx).2; omega⟩⟩
/-- The stating side's word, and what the program asks and does instead. -/
theorem word_both (l : List Int) (own : Bool) (hlen : l.length ≤ 4611686018427387904) (m : Int) (w : List Int) (hw : w.length ≤ 4611686018427387904) :
    (WordOk l m w ∧ ∃ r : List Int, r.length = l.length ∧ InR m r ∧ Ev (fun k => spec_clWord.f k l own m w) (r, true) ∧ Ev (fun k => impl_Graph_pressWord.f k l own m w) r ∧ Ev (fun k => impl_isColoured.f k l own m) true ∧ Ev (fun k => impl_hasButton.f k l own w) true) ∨
    (¬ WordOk l m w ∧ Ev (fun k => spec_clWord.f k l own m w) ([], false) ∧ (Ev (fun k => impl_isColoured.f k l own m) false ∨ (Ev (fun k => impl_isColoured.f k l own m) true ∧ (w.length > 200 ∨ (w.length ≤ 200 ∧ Ev (fun k => impl_hasButton.f k l own w) false))))) := by
  obtain ⟨g, hg, ⟨K1, e1⟩, ⟨K2, e2⟩⟩ := coloured_both l own hlen m
  obtain ⟨b, hb, _, ⟨K3, e3⟩⟩ := good_both l own hlen
  simp only at e1 e2 e3
  cases g with
  | false =>
    refine .inr ⟨fun h => (by have := hg.2 ⟨h.1, h.2.1, h.2.2.1⟩; cases this), ⟨K1 + 1, fun k hk => ?_⟩, .inl ⟨K2, e2⟩⟩
    obtain ⟨k, rfl⟩ : ∃ q, k = q + 1 := ⟨k - 1, by omega⟩
    show spec_clWord.f (k + 1) l own m w = _
    unfold spec_clWord.f
    rw [e1 (k + 1) (by omega), Option.bind_some, if_neg (by simp), spec_clWord.j0, if_pos rfl]
  | true =>
    obtain ⟨G, M, L⟩ := hg.1 rfl
    have hbt := hb.2 G
    subst hbt
    have hl := G.2.1
    by_cases c : w.length ≤ 200
    · have hall := l1All_at w 0 (wrap64 ((l.length : Int) - 1)) hw
      by_cases ca : (w.all fun x => decide (0 ≤ x) && decide (x ≤ wrap64 ((l.length : Int) - 1))) = true
      · have hin := (all_btn ⟨G.1, G.2.1⟩ w).1 ca
        obtain ⟨r, hr, hri, ⟨K4, e4⟩, ⟨K5, e5⟩⟩ := word_loops M l.length w c hin w.length 0 (List.replicate l.length 0) (by omega) (by simp) (zeros_InR (mod_small M).1 _)
        refine .inl ⟨⟨G, M, L, c, hin⟩, r, hr, hri, ⟨K1 + K4 + w.length + 2, fun k hk => ?_⟩, ⟨K5, fun k hk => ?_⟩, ⟨K2, e2⟩, ⟨K3, fun k hk => ?_⟩⟩
        · obtain ⟨k, rfl⟩ : ∃ q, k = q + 1 := ⟨k - 1, by omega⟩
          show spec_clWord.f (k + 1) l own m w = _
          unfold spec_clWord.f
          rw [e1 (k + 1) (by omega), Option.bind_some, if_pos rfl, if_neg (by omega), hall (k + 1) (by omega), ca, Option.bind_some, Bool.not_true, spec_clWord.j0, if_neg (by simp), if_pos (by omega), if_pos (by omega), Int.toNat_natCast]
          exact e4 k (by omega)
        · show impl_Graph_pressWord.f k l own m w = _
          unfold impl_Graph_pressWord.f
          rw [if_pos (by omega), if_pos (by omega), Int.toNat_natCast]
          exact e5 k hk
        · show impl_hasButton.f k l own w = _
          unfold impl_hasButton.f
          rw [e3 k hk, Option.bind_some, if_pos rfl, ca]
      · refine .inr ⟨fun h => ca ((all_btn ⟨G.1, G.2.1⟩ w).2 h.2.2.2.2), ⟨K1 + w.length + 2, fun k hk => ?_⟩, .inr ⟨⟨K2, e2⟩, .inr ⟨c, ⟨K3, fun k hk => ?_⟩⟩⟩⟩
        · obtain ⟨k, rfl⟩ : ∃ q, k = q + 1 := ⟨k - 1, by omega⟩
          show spec_clWord.f (k + 1) l own m w = _
          unfold spec_clWord.f
          rw [e1 (k + 1) (by omega), Option.bind_some, if_pos rfl, if_neg (by omega), hall (k + 1) (by omega), Bool.eq_false_iff.mpr ca, Option.bind_some, Bool.not_false, spec_clWord.j0, if_pos rfl]
        · show impl_hasButton.f k l own w = _
          unfold impl_hasButton.f
          rw [e3 k hk, Option.bind_some, if_pos rfl, Bool.eq_false_iff.mpr ca]
    · refine .inr ⟨fun h => c h.2.2.2.1, ⟨K1 + 1, fun k hk => ?_⟩, .inr ⟨⟨K2, e2⟩, .inl (by omega)⟩⟩
      obtain ⟨k, rfl⟩ : ∃ q, k = q + 1 := ⟨k - 1, by omega⟩
      show spec_clWord.f (k + 1) l own m w = _
      unfold spec_clWord.f
      rw [e1 (k + 1) (by omega), Option.bind_some, if_pos rfl, if_pos (by omega), spec_clWord.j0, if_pos rfl]
end Go.Proofs.Ytbbdjoahdbjljaa.Co
