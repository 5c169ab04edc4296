/- Colours: which numbers and lists count, and the effect of presses, on both sides. -/
import Derived.Test.YtbbdjoahdbjljaaGraph
import Derived.Test.YtbbdjoahdbjljaaLawSz
import Derived.Test.YtbbdjoahdbjljaaPx1
import Derived.Test.YtbbdjoahdbjljaaPx2
import Derived.Test.YtbbdjoahdbjljaaPx3
import Derived.Test.YtbbdjoahdbjljaaPx7
import Derived.Test.YtbbdjoahdbjljaaPx8
import Derived.Test.YtbbdjoahdbjljaaPx9
namespace Go.Proofs.Ytbbdjoahdbjljaa.Co
open Go.RowKit Go.Proofs.Ytbbdjoahdbjljaa.P Go.Proofs.Ytbbdjoahdbjljaa.Bt Go.Proofs.Ytbbdjoahdbjljaa.Lw Go.Proofs.Ytbbdjoahdbjljaa.Gr Go.Proofs.YtbbdjoahdbjljaaW.PrintWords Go.Proofs.YtbbdjoahdbjljaaW.PrintLast Go.Proofs.YtbbdjoahdbjljaaW.PrintMore
set_option linter.unusedVariables false
set_option linter.unusedSimpArgs false

def IsMod (m : Int) : Prop := m = 2 ∨ m = 3 ∨ m = 5 ∨ m = 7
def modB (m : Int) : Bool := decide (m = 2) || decide (m = 3) || decide (m = 5) || decide (m = 7)
theorem modB_iff (m : Int) : modB m = true ↔ IsMod m := by
  simp only [modB, IsMod, Bool.or_eq_true, decide_eq_true_eq, or_assoc]
theorem prime_at (m : Int) (k : Nat) (hk : 5 < k) : spec_clPrime.f k m = some (modB m) := by
  obtain ⟨k, rfl⟩ : ∃ q, k = q + 5 := ⟨k - 5, by omega⟩
  have w1 : wrap64 (0 + 1) = 1 := Bt.wrap_id (x := 0 + 1) (by omega) (by omega)
  have w2 : wrap64 (1 + 1) = 2 := Bt.wrap_id (x := 1 + 1) (by omega) (by omega)
  have w3 : wrap64 (2 + 1) = 3 := Bt.wrap_id (x := 2 + 1) (by omega) (by omega)
  have w4 : wrap64 (3 + 1) = 4 := Bt.wrap_id (x := 3 + 1) (by omega) (by omega)
  have r0 : rd [2, 3, 5, 7] 0 = 2 := by decide
  have r1 : rd [2, 3, 5, 7] 1 = 3 := by decide
  have r2 : rd [2, 3, 5, 7] 2 = 5 := by decide
  have r3 : rd [2, 3, 5, 7] 3 = 7 := by decide
  have hl : (([2, 3, 5, 7] : List Int).length : Int) = 4 := by decide
  unfold spec_clPrime.f spec_l1Has.f modB
  rw [hl]
  rw [spec_l1Has.l0, if_pos (by decide), if_pos (by decide), if_pos (by rw [hl]; decide), r0]
  by_cases c0 : (2 : Int) = m
  · subst c0; rfl
  rw [if_neg c0, w1, spec_l1Has.l0, if_pos (by decide), if_pos (by decide), if_pos (by rw [hl]; decide), r1]
  by_cases c1 : (3 : Int) = m
  · subst c1; rfl
  rw [if_neg c1, w2, spec_l1Has.l0, if_pos (by decide), if_pos (by decide), if_pos (by rw [hl]; decide), r2]
  by_cases c2 : (5 : Int) = m
  · subst c2; rfl
  rw [if_neg c2, w3, spec_l1Has.l0, if_pos (by decide), if_pos (by decide), if_pos (by rw [hl]; decide), r3]
  by_cases c3 : (7 : Int) = m
  · subst c3; rfl
  rw [if_neg c3, w4, spec_l1Has.l0, if_neg (by decide)]
  have h0 : decide (m = 2) = false := by simp; omega
  have h1 : decide (m = 3) = false := by simp; omega
  have h2 : decide (m = 5) = false := by simp; omega
  have h3 : decide (m = 7) = false := by simp; omega
  rw [h0, h1, h2, h3]
  rfl
theorem modulus_at (m : Int) : impl_isModulus.f m = some (modB m) := by
  unfold impl_isModulus.f modB
  by_cases c0 : m = 2
  · subst c0; rfl
  by_cases c1 : m = 3
  · subst c1; rfl
  by_cases c2 : m = 5
  · subst c2; rfl
  by_cases c3 : m = 7
  · subst c3; rfl
  rw [if_neg c0, if_neg c1, if_neg c2]
  have h0 : decide (m = 2) = false := by simp [c0]
  have h1 : decide (m = 3) = false := by simp [c1]
  have h2 : decide (m = 5) = false := by simp [c2]
  have h3 : decide (m = 7) = false := by simp [c3]
  have h4 : (m == 7) = false := by simp [c3]
  rw [h0, h1, h2, h3, h4]
  rfl
theorem coloured_both (l : List Int) (own : Bool) (hlen : l.length ≤ 4611686018427387904) (m : Int) :
    ∃ b : Bool, (b = true ↔ Gr.Good l ∧ IsMod m ∧ l.length ≤ 10) ∧ Ev (fun k => spec_clGood.f k l own m) b ∧ Ev (fun k => impl_isColoured.f k l own m) b := by
  obtain ⟨g, hg, ⟨K1, e1⟩, ⟨K2, e2⟩⟩ := good_both l own hlen
  simp only at e1 e2
  refine ⟨modB m && g && decide ((l.length : Int) ≤ 10), ?_, ⟨K1 + 6, fun k hk => ?_⟩, ⟨K2, fun k hk => ?_⟩⟩
  · rw [Bool.and_eq_true, Bool.and_eq_true, modB_iff, hg, decide_eq_true_eq]
    constructor
    · rintro ⟨⟨a, b⟩, c⟩; exact ⟨b, a, by omega⟩
    · rintro ⟨a, b, c⟩; exact ⟨⟨b, a⟩, by omega⟩
  · show spec_clGood.f k l own m = _
    unfold spec_clGood.f
    rw [prime_at m k (by omega), Option.bind_some]
    cases modB m with
    | false => rfl
    | true =>
      rw [if_pos rfl, e1 k (by omega), Option.bind_some]
      cases g <;> rfl
  · show impl_isColoured.f k l own m = _
    unfold impl_isColoured.f
    rw [e2 k hk, Option.bind_some]
    cases g with
    | false => rw [if_neg (by simp), Bool.and_false, Bool.false_and]
    | true =>
      rw [if_pos rfl]
      by_cases c : (l.length : Int) ≤ 10
      · rw [if_pos c, modulus_at, Option.bind_some, decide_eq_true c, Bool.and_true, Bool.and_true]
      · rw [if_neg c, decide_eq_false c, Bool.and_false]
def InR (m : Int) (l : List Int) : Prop := ∀ x, x ∈ l → 0 ≤ x ∧ x < m
theorem mod_small {m : Int} (h : IsMod m) : 2 ≤ m ∧ m ≤ 7 := by unfold IsMod at h; omega
theorem all_InR {m : Int} (h : IsMod m) (l : List Int) : (l.all fun x => decide (0 ≤ x) && decide (x ≤ wrap64 (m - 1))) = true ↔ InR m l := by
  have := mod_small h
  rw [Bt.wrap_id (by omega) (by omega)]
  simp only [List.all_eq_true, Bool.and_eq_true, decide_eq_true_eq, InR]
  exact ⟨fun h x hx => ⟨(h x hx).1, by have := (h x hx).2; omega⟩, fun h x hx => ⟨(h x hx).1, by have := (h x hx).2; omega⟩⟩
theorem list_both (l : List Int) (own : Bool) (hlen : l.length ≤ 4611686018427387904) (m : Int) (t : List Int) :
    ∃ b : Bool, (b = true ↔ Gr.Good l ∧ IsMod m ∧ l.length ≤ 10 ∧ t.length = l.length ∧ InR m t) ∧ Ev (fun k => spec_clList.f k l own m t) b ∧ Ev (fun k => impl_areColours.f k l own m t) b := by
  obtain ⟨g, hg, ⟨K1, e1⟩, ⟨K2, e2⟩⟩ := coloured_both l own hlen m
  simp only at e1 e2
  cases g with
  | false =>
    refine ⟨false, ⟨fun h => (by cases h), fun h => (by have := hg.2 ⟨h.1, h.2.1, h.2.2.1⟩; cases this)⟩, ⟨K1, fun k hk => ?_⟩, ⟨K2, fun k hk => ?_⟩⟩
    · show spec_clList.f k l own m t = _
      unfold spec_clList.f; rw [e1 k hk]; rfl
    · show impl_areColours.f k l own m t = _
      unfold impl_areColours.f; rw [e2 k hk]; rfl
  | true =>
    obtain ⟨G, M, L⟩ := hg.1 rfl
    by_cases c : (t.length : Int) = (l.length : Int)
    · refine ⟨t.all fun x => decide (0 ≤ x) && decide (x ≤ wrap64 (m - 1)), ?_, ⟨K1 + t.length + 1, fun k hk => ?_⟩, ⟨K2, fun k hk => ?_⟩⟩
      · rw [all_InR M]
        exact ⟨fun h => ⟨G, M, L, by omega, h⟩, fun h => h.2.2.2.2⟩
      · show spec_clList.f k l own m t = _
        unfold spec_clList.f
        rw [e1 k (by omega), Option.bind_some, if_pos rfl, if_pos c, l1All_at t 0 _ (by omega) k (by omega)]
        rfl
      · show impl_areColours.f k l own m t = _
        unfold impl_areColours.f
        rw [e2 k hk, Option.bind_some, if_pos rfl, if_pos c]
    · refine ⟨false, ⟨fun h => (by cases h), fun h => absurd (by rw [h.2.2.2.1]) c⟩, ⟨K1, fun k hk => ?_⟩, ⟨K2, fun k hk => ?_⟩⟩
      · show spec_clList.f k l own m t = _
        unfold spec_clList.f
        rw [e1 k hk, Option.bind_some, if_pos rfl, if_neg c]
      · show impl_areColours.f k l own m t = _
        unfold impl_areColours.f
        rw [e2 k hk, Option.bind_some, if_pos rfl, if_neg c]
/-- What button i changes, as a natural number. -/
def tg (l : List Int) (own : Bool) (i : Nat) : Nat := if own = true then nr l i ||| 1 <<< i else nr l i
theorem shl_bit {i : Nat} (h : i ≤ 16) : shl .i64 1 (i : Int) = ((1 <<< i : Nat) : Int) := by
  have h1 : 2 ^ i ≤ 2 ^ 16 := Nat.pow_le_pow_right (by omega) h
  have := shl_nat (a := 1) (n := i) (by omega) (by omega)
  simpa using this
theorem tg_lt {l : List Int} (G : Gr.Good l) (own : Bool) {i : Nat} (hi : i < l.length) : tg l own i < 2 ^ l.length := by
  have h1 := nr_lt G.2.2.1 hi
  unfold tg
  split
  · exact Nat.or_lt_two_pow h1 (by rw [Nat.one_shiftLeft]; exact Nat.pow_lt_pow_right (by omega) hi)
  · exact h1
theorem tg_small {l : List Int} (G : Gr.Good l) (own : Bool) {i : Nat} (hi : i < l.length) : tg l own i < 65536 := Nat.lt_of_lt_of_le (tg_lt G own hi) (pow16 G.2.1)
theorem toggles_at {l : List Int} (G : Gr.Good l) (own : Bool) {i : Nat} (hi : i < l.length) : spec_grToggles.f l own (i : Int) = some ((tg l own i : Nat) : Int) ∧ impl_Graph_toggles.f l own (i : Int) = some ((tg l own i : Nat) : Int) := by
  have hl := G.2.1
  have hri : rd l (i : Int) = (nr l i : Int) := by rw [rd_nat]; exact nr_cast G.2.2.1 hi
  have hsi := nr_small hl G.2.2.1 hi
  have hp := pow16 hl
  have hb : 1 <<< i < 2 ^ l.length := by rw [Nat.one_shiftLeft]; exact Nat.pow_lt_pow_right (by omega) hi
  unfold spec_grToggles.f impl_Graph_toggles.f tg
  cases own with
  | false => exact ⟨by rw [if_neg (by simp), if_pos (by omega), if_pos (by omega), hri]; rfl, by rw [if_neg (by simp), if_pos (by omega), if_pos (by omega), hri]; rfl⟩
  | true => exact ⟨by rw [if_pos rfl, if_pos (by omega), if_pos (by omega), hri, shl_bit (by omega), bits_or (by omega) (by omega)]; rfl, by rw [if_pos rfl, if_pos (by omega), if_pos (by omega), hri, shl_bit (by omega), bits_or (by omega) (by omega)]; rfl⟩
theorem getD_InR {m : Int} {l : List Int} (h : InR m l) {i : Nat} (hi : i < l.length) : 0 ≤ l.getD i 0 ∧ l.getD i 0 < m := by
  rw [List.getD_eq_getElem?_getD, List.getElem?_eq_getElem hi]
  exact h _ (List.getElem_mem _)
theorem set_InR {m : Int} {l : List Int} (h : InR m l) {i : Nat} {x : Int} (hx : 0 ≤ x ∧ x < m) : InR m (l.set i x) := by
  intro y hy
  rcases List.mem_or_eq_of_mem_set hy with h' | h'
  · exact h y h'
  · subst h'; exact hx
theorem tmod_in {m a : Int} (hm : 2 ≤ m) (ha : 0 ≤ a) : 0 ≤ Int.tmod a m ∧ Int.tmod a m < m := by
  rw [Int.tmod_eq_emod_of_nonneg ha]
  exact ⟨Int.emod_nonneg _ (by omega), Int.emod_lt_of_pos _ (by omega)⟩
theorem effect_loops {l : List Int} (G : Gr.Good l) (own : Bool) {m : Int} (M : IsMod m) (t : List Int) (ht : t.length = l.length) (hin : InR m t) : ∀ (d i : Nat) (out : List Int), i + d = l.length → out.length = l.length → InR m out →
    ∃ r : List Int, r.length = l.length ∧ InR m r ∧ Ev (fun k => spec_clEffect.l0 k m out t (t.length : Int) (i : Int) l own) r ∧ Ev (fun k => impl_Graph_effectColours.l0 k m out t (t.length : Int) (i : Int) l own) r := by
  have hl := G.2.1
  have hm := mod_small M
  intro d
  induction d with
  | zero =>
    intro i out hi ho hr
    refine ⟨out, ho, hr, Ev.konst 1 fun k hk => ?_, Ev.konst 1 fun k hk => ?_⟩
    · obtain ⟨k, rfl⟩ : ∃ m, k = m + 1 := ⟨k - 1, by omega⟩
      rw [spec_clEffect.l0, if_neg (by omega)]
    · obtain ⟨k, rfl⟩ : ∃ m, k = m + 1 := ⟨k - 1, by omega⟩
      rw [impl_Graph_effectColours.l0, if_neg (by omega)]
  | succ d ih =>
    intro i out hi ho hr
    obtain ⟨t1, t2⟩ := toggles_at G own (i := i) (by omega)
    have hts := tg_small G own (i := i) (by omega)
    have hri : rd t (i : Int) = t.getD i 0 := rd_nat _ _
    have hti := getD_InR hin (i := i) (by omega)
    have inner : ∀ (e j : Nat) (out : List Int), j + e = l.length → out.length = l.length → InR m out →
        ∃ r : List Int, r.length = l.length ∧ InR m r ∧ Ev (fun k => spec_clEffect.l1 k m out (i : Int) (t.getD i 0) t (t.length : Int) (i : Int) (l.length : Int) (j : Int) l own) r ∧ Ev (fun k => impl_Graph_effectColours.l1 k m out (i : Int) (t.getD i 0) t (t.length : Int) (i : Int) (l.length : Int) (j : Int) l own) r := by
      intro e
      induction e with
      | zero =>
        intro j out hj ho hr
        obtain ⟨r, a, b, e1, e2⟩ := ih (i + 1) out (by omega) ho hr
        refine ⟨r, a, b, Ev.succ e1 0 fun k _ => ?_, Ev.succ e2 0 fun k _ => ?_⟩
        · rw [spec_clEffect.l1, if_neg (by omega), step1 (by omega)]
        · rw [impl_Graph_effectColours.l1, if_neg (by omega), step1 (by omega)]
      | succ e ihe =>
        intro j out hj ho hr
        have hoj := getD_InR hr (i := j) (by omega)
        have hrj : rd out (j : Int) = out.getD j 0 := rd_nat _ _
        by_cases c : (tg l own i).testBit j = true
        · have hw : wrap64 (out.getD j 0 + t.getD i 0) = out.getD j 0 + t.getD i 0 := Bt.wrap_id (by omega) (by omega)
          obtain ⟨r, a, b, e1, e2⟩ := ihe (j + 1) (out.set j (Int.tmod (out.getD j 0 + t.getD i 0) m)) (by omega) (by rw [List.length_set]; exact ho) (set_InR hr (tmod_in hm.1 (by omega)))
          refine ⟨r, a, b, Ev.succ e1 0 fun k _ => ?_, Ev.succ e2 0 fun k _ => ?_⟩
          · rw [spec_clEffect.l1, if_pos (by omega), t1, Option.bind_some, grIn_nat _ j (by omega), c, Option.bind_some, if_pos rfl, if_pos (by omega), if_pos (by omega), if_neg (by omega), hrj, hw, step1 (by omega), Int.toNat_natCast]
          · rw [impl_Graph_effectColours.l1, if_pos (by omega), t2, Option.bind_some, has_nat _ j (by omega), c, Option.bind_some, if_pos rfl, if_pos (by omega), if_pos (by omega), if_neg (by omega), hrj, hw, step1 (by omega), Int.toNat_natCast]
        · obtain ⟨r, a, b, e1, e2⟩ := ihe (j + 1) out (by omega) ho hr
          refine ⟨r, a, b, Ev.succ e1 0 fun k _ => ?_, Ev.succ e2 0 fun k _ => ?_⟩
          · rw [spec_clEffect.l1, if_pos (by omega), t1, Option.bind_some, grIn_nat _ j (by omega), Bool.eq_false_iff.mpr c, Option.bind_some, if_neg (by simp), step1 (by omega)]
          · rw [impl_Graph_effectColours.l1, if_pos (by omega), t2, Option.bind_some, has_nat _ j (by omega), Bool.eq_false_iff.mpr c, Option.bind_some, if_neg (by simp), step1 (by omega)]
    obtain ⟨r, a, b, e1, e2⟩ := inner l.length 0 out (by omega) ho hr
    refine ⟨r, a, b, Ev.succ e1 0 fun k _ => ?_, Ev.succ e2 0 fun k _ => ?_⟩
    · rw [spec_clEffect.l0, if_pos (by omega), if_pos (by omega), if_pos (by omega), hri, ho]; rfl
    · rw [impl_Graph_effectColours.l0, if_pos (by omega), if_pos (by omega), if_pos (by omega), hri, ho]; rfl
theorem zeros_InR {m : Int} (hm : 2 ≤ m) (n : Nat) : InR m (List.replicate n 0) := by
  intro x hx
  have := List.eq_of_mem_replicate hx
  omega
theorem effect_both {l : List Int} (G : Gr.Good l) (own : Bool) {m : Int} (M : IsMod m) (t : List Int) (ht : t.length = l.length) (hin : InR m t) :
    ∃ r : List Int, r.length = l.length ∧ InR m r ∧ Ev (fun k => spec_clEffect.f k l own m t) r ∧ Ev (fun k => impl_Graph_effectColours.f k l own m t) r := by
  have hl := G.2.1
  obtain ⟨r, a, b, ⟨K1, e1⟩, ⟨K2, e2⟩⟩ := effect_loops G own M t ht hin l.length 0 (List.replicate t.length 0) (by omega) (by simp [ht]) (zeros_InR (mod_small M).1 _)
  refine ⟨r, a, b, ⟨K1, fun k hk => ?_⟩, ⟨K2, fun k hk => ?_⟩⟩
  · show spec_clEffect.f k l own m t = _
    unfold spec_clEffect.f
    rw [if_pos (by omega), if_pos (by omega), Int.toNat_natCast]
    exact e1 k hk
  · show impl_Graph_effectColours.f k l own m t = _
    unfold impl_Graph_effectColours.f
    rw [if_pos (by omega), if_pos (by omega), Int.toNat_natCast]
    exact e2 k hk
end Go.Proofs.Ytbbdjoahdbjljaa.Co
