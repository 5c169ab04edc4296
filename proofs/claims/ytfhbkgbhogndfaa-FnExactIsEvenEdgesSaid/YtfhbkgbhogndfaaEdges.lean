/- Sets of edges: what both sides ask of rows of two buttons, and what both answer. -/
import Derived.Test.YtfhbkgbhogndfaaGraph
import Derived.Test.YtfhbkgbhogndfaaPx1
import Derived.Test.YtfhbkgbhogndfaaPx2
import Derived.Test.YtfhbkgbhogndfaaPx3
import Derived.Test.YtfhbkgbhogndfaaPx4
import Derived.Test.YtfhbkgbhogndfaaPx5
import Derived.Test.YtfhbkgbhogndfaaPx6
namespace Go.Proofs.Ytfhbkgbhogndfaa.Ed
open Go.RowKit Go.Proofs.Ytfhbkgbhogndfaa.P Go.Proofs.Ytfhbkgbhogndfaa.Bt Go.Proofs.Ytfhbkgbhogndfaa.Lw Go.Proofs.Ytfhbkgbhogndfaa.Gr Go.Proofs.YtfhbkgbhogndfaaW.PrintWords Go.Proofs.YtfhbkgbhogndfaaW.PrintLast Go.Proofs.YtfhbkgbhogndfaaW.PrintMore
set_option linter.unusedVariables false
set_option linter.unusedSimpArgs false

theorem rdS (xs : List (List Int)) {i : Nat} (h : i < xs.length) : rd_L1 xs (i : Int) = xs[i] := by simp [rd_L1, h]
theorem stepI {i : Nat} (h : i < 9223372036854775806) : wrap64 ((i : Int) + 1) = ((i + 1 : Nat) : Int) := by rw [Bt.wrap_id (by omega) (by omega)]; omega
/-- A row is an edge of the graph. -/
def okE (l : List Int) (e : List Int) : Bool :=
  decide (e.length = 2) && (decide (0 ≤ rd e 0) && decide (rd e 0 ≤ (l.length : Int) - 1)) && (decide (0 ≤ rd e 1) && decide (rd e 1 ≤ (l.length : Int) - 1)) && decide (rd e 0 < rd e 1) && (nr l (rd e 0).toNat).testBit (rd e 1).toNat
/-- Rows, behind rows that were met: each is an edge, none was met. -/
def goodE (l : List Int) : List (List Int) → List (List Int) → Bool
  | [], _ => true
  | e :: es, seen => okE l e && !seen.contains e && goodE l es (seen ++ [e])
/-- One edge more: its ends turn. -/
def turn (x : Int) (e : List Int) : Int := Go.bits .xor .i64 x (Go.bits .or .i64 (shl .i64 1 (rd e 0)) (shl .i64 1 (rd e 1)))
theorem two_eq {e f : List Int} (he : e.length = 2) (hf : f.length = 2) : (rd e 0 = rd f 0 ∧ rd e 1 = rd f 1) ↔ e = f := by
  match e, he, f, hf with
  | [a, b], _, [c, d], _ => simp [rd]
theorem okE_two {l e : List Int} (h : okE l e = true) : e.length = 2 ∧ 0 ≤ rd e 0 ∧ 0 ≤ rd e 1 ∧ rd e 0 ≤ (l.length : Int) - 1 ∧ rd e 1 ≤ (l.length : Int) - 1 ∧ rd e 0 < rd e 1 := by
  simp only [okE, Bool.and_eq_true, decide_eq_true_eq] at h
  obtain ⟨⟨⟨⟨h1, h2, h3⟩, h4, h5⟩, h6⟩, _⟩ := h
  exact ⟨h1, h2, h4, h3, h5, h6⟩
theorem take_add {L : List (List Int)} {i : Nat} (h : i < L.length) : L.take i ++ [L[i]] = L.take (i + 1) := (List.take_succ_eq_append_getElem h).symm
section
variable (l : List Int) (own : Bool) (hG : Gr.Good l)
include hG
theorem last_wrap : wrap64 ((l.length : Int) - 1) = (l.length : Int) - 1 := by
  have := hG.1; have := hG.2.1
  exact Bt.wrap_id (by omega) (by omega)
/-- The program's side. -/
theorem impl_at (hE : Ev (fun k => impl_isGraph.f k l own) true) (L : List (List Int)) (hL : L.length ≤ 4611686018427387904) : ∀ (d i : Nat), i + d = L.length → ∀ x : Int,
    Ev (fun k => impl_IsEvenEdges.l0 k x L (L.length : Int) (i : Int) l own) (if goodE l (L.drop i) (L.take i) = true then ((L.drop i).foldl turn x == 0, true) else (false, false))
  | 0, i, hi, x => by
    rw [List.drop_eq_nil_of_le (by omega)]
    refine ⟨1, fun k hk => ?_⟩
    obtain ⟨k, rfl⟩ : ∃ m, k = m + 1 := ⟨k - 1, by omega⟩
    show impl_IsEvenEdges.l0 (k + 1) x L _ _ l own = _
    rw [impl_IsEvenEdges.l0, if_neg (by omega)]
    rfl
  | d + 1, i, hi, x => by
    have hlt : i < L.length := by omega
    have hn1 := hG.1
    have hn2 := hG.2.1
    obtain ⟨Kg, eg⟩ := hE
    simp only at eg
    rw [List.drop_eq_getElem_cons hlt, goodE]
    obtain ⟨e, he⟩ : ∃ e, e = L[i] := ⟨_, rfl⟩
    rw [← he]
    have hrow : rd_L1 L (i : Int) = e := by rw [rdS L hlt, he]
    by_cases c1 : e.length = 2
    · have hbt : ∀ k, Kg ≤ k → impl_hasButton.f k l own e = some (e.all fun x => decide (0 ≤ x) && decide (x ≤ (l.length : Int) - 1)) := fun k hk => by
        unfold impl_hasButton.f
        rw [eg k hk]
        simp only [Option.bind_some, if_true]
        rw [last_wrap l hG]
      have hall : (e.all fun x => decide (0 ≤ x) && decide (x ≤ (l.length : Int) - 1)) = ((decide (0 ≤ rd e 0) && decide (rd e 0 ≤ (l.length : Int) - 1)) && (decide (0 ≤ rd e 1) && decide (rd e 1 ≤ (l.length : Int) - 1))) := by
        match e, c1 with
        | [a, b], _ => simp [rd]
      rw [hall] at hbt
      by_cases c2 : ((decide (0 ≤ rd e 0) && decide (rd e 0 ≤ (l.length : Int) - 1)) && (decide (0 ≤ rd e 1) && decide (rd e 1 ≤ (l.length : Int) - 1))) = true
      · have hc2 := c2
        simp only [Bool.and_eq_true, decide_eq_true_eq] at hc2
        obtain ⟨⟨a1, a2⟩, b1, b2⟩ := hc2
        by_cases c3 : rd e 0 < rd e 1
        · obtain ⟨p, hp⟩ : ∃ p : Nat, rd e 0 = (p : Int) := ⟨(rd e 0).toNat, by omega⟩
          obtain ⟨q, hq⟩ : ∃ q : Nat, rd e 1 = (q : Int) := ⟨(rd e 1).toNat, by omega⟩
          have hpl : p < l.length := by omega
          have hhas : impl_has.f (rd l (rd e 0)) (rd e 1) = some ((nr l p).testBit q) := by
            rw [hp, hq, show rd l (p : Int) = l.getD p 0 from by simp [rd], nr_cast hG.2.2.1 hpl]
            exact has_nat _ _ (by have := nr_small hn2 hG.2.2.1 hpl; omega)
          have hok : okE l e = (nr l p).testBit q := by
            unfold okE
            rw [hp, hq] at c2 c3 ⊢
            rw [Bool.and_assoc (decide (e.length = 2)), c2]
            simp [c1, c3]
          by_cases c4 : (nr l p).testBit q = true
          · rw [c4] at hok hhas
            by_cases c5 : (L.take i).contains e = true
            · refine ⟨Kg + 1, fun k hk => ?_⟩
              obtain ⟨k, rfl⟩ : ∃ m, k = m + 1 := ⟨k - 1, by omega⟩
              show impl_IsEvenEdges.l0 (k + 1) x L _ _ l own = _
              rw [impl_IsEvenEdges.l0, if_pos (by omega), if_pos (by omega), if_pos (by omega), hrow, if_pos (by omega), hbt k (by omega), c2]
              simp only [Option.bind_some, if_true]
              rw [if_pos (by omega), if_pos (by omega), if_neg (by omega), if_pos (by omega), if_pos (by omega), hhas]
              simp only [Option.bind_some, if_true]
              rw [pseudo_met.f, Int.toNat_natCast, c5]
              simp [hok]
            · obtain ⟨K, ih⟩ := impl_at ⟨Kg, eg⟩ L hL d (i + 1) (by omega) (turn x e)
              simp only at ih
              have c5 := Bool.eq_false_iff.mpr c5
              refine ⟨Kg + K + 1, fun k hk => ?_⟩
              obtain ⟨k, rfl⟩ : ∃ m, k = m + 1 := ⟨k - 1, by omega⟩
              show impl_IsEvenEdges.l0 (k + 1) x L _ _ l own = _
              rw [impl_IsEvenEdges.l0, if_pos (by omega), if_pos (by omega), if_pos (by omega), hrow, if_pos (by omega), hbt k (by omega), c2]
              simp only [Option.bind_some, if_true]
              rw [if_pos (by omega), if_pos (by omega), if_neg (by omega), if_pos (by omega), if_pos (by omega), hhas]
              simp only [Option.bind_some, if_true]
              rw [pseudo_met.f, Int.toNat_natCast, c5]
              simp only [Option.bind_some, Bool.false_eq_true, if_false]
              rw [if_pos (by omega), stepI (by omega)]
              refine (ih k (by omega)).trans ?_
              rw [hok, List.foldl_cons, show L.take i ++ [e] = L.take (i + 1) by rw [he]; exact take_add hlt]
              simp
          · have c4 := Bool.eq_false_iff.mpr c4
            rw [c4] at hok hhas
            refine ⟨Kg + 1, fun k hk => ?_⟩
            obtain ⟨k, rfl⟩ : ∃ m, k = m + 1 := ⟨k - 1, by omega⟩
            show impl_IsEvenEdges.l0 (k + 1) x L _ _ l own = _
            rw [impl_IsEvenEdges.l0, if_pos (by omega), if_pos (by omega), if_pos (by omega), hrow, if_pos (by omega), hbt k (by omega), c2]
            simp only [Option.bind_some, if_true]
            rw [if_pos (by omega), if_pos (by omega), if_neg (by omega), if_pos (by omega), if_pos (by omega), hhas]
            simp [hok]
        · have hok : okE l e = false := by simp [okE, c3]
          refine ⟨Kg + 1, fun k hk => ?_⟩
          obtain ⟨k, rfl⟩ : ∃ m, k = m + 1 := ⟨k - 1, by omega⟩
          show impl_IsEvenEdges.l0 (k + 1) x L _ _ l own = _
          rw [impl_IsEvenEdges.l0, if_pos (by omega), if_pos (by omega), if_pos (by omega), hrow, if_pos (by omega), hbt k (by omega), c2]
          simp only [Option.bind_some, if_true]
          rw [if_pos (by omega), if_pos (by omega), if_pos (by omega)]
          simp [hok]
      · have c2 := Bool.eq_false_iff.mpr c2
        have hok : okE l e = false := by
          unfold okE
          rw [Bool.and_assoc (decide (e.length = 2)), c2]
          simp
        refine ⟨Kg + 1, fun k hk => ?_⟩
        obtain ⟨k, rfl⟩ : ∃ m, k = m + 1 := ⟨k - 1, by omega⟩
        show impl_IsEvenEdges.l0 (k + 1) x L _ _ l own = _
        rw [impl_IsEvenEdges.l0, if_pos (by omega), if_pos (by omega), if_pos (by omega), hrow, if_pos (by omega), hbt k (by omega), c2]
        simp [hok]
    · have hok : okE l e = false := by simp [okE, c1]
      refine ⟨1, fun k hk => ?_⟩
      obtain ⟨k, rfl⟩ : ∃ m, k = m + 1 := ⟨k - 1, by omega⟩
      show impl_IsEvenEdges.l0 (k + 1) x L _ _ l own = _
      rw [impl_IsEvenEdges.l0, if_pos (by omega), if_pos (by omega), if_pos (by omega), hrow, if_neg (by omega)]
      simp [hok]
end
/-- Among the rows that were met. -/
theorem seen_at (l : List Int) (own : Bool) (e : List Int) (he : e.length = 2) (x1 x22 S : List (List Int)) (x6 x23 x24 : Int) (hS : ∀ f ∈ S, f.length = 2) (hl : S.length ≤ 4611686018427387904) (r : Bool × Bool) : ∀ (d j : Nat), j + d = S.length →
    ((S.drop j).contains e = true ∧ r = (false, false) ∨ (S.drop j).contains e = false ∧ Ev (fun k => spec_IsEvenEdges.l0 k x1 x6 x22 x23 (wrap64 (x24 + 1)) l own) r) →
    Ev (fun k => spec_IsEvenEdges.l1 k x1 x6 e x22 x23 x24 S (S.length : Int) (j : Int) l own) r
  | 0, j, hj, h => by
    rw [List.drop_eq_nil_of_le (by omega)] at h
    rcases h with ⟨h, _⟩ | ⟨_, h⟩
    · simp at h
    · refine Ev.succ h 0 fun k _ => ?_
      rw [spec_IsEvenEdges.l1, if_neg (by omega)]
  | d + 1, j, hj, h => by
    have hlt : j < S.length := by omega
    obtain ⟨f, hf⟩ : ∃ f, f = S[j] := ⟨_, rfl⟩
    have hrow : rd_L1 S (j : Int) = f := by rw [rdS S hlt, hf]
    have hf2 : f.length = 2 := by rw [hf]; exact hS _ (List.getElem_mem hlt)
    rw [List.drop_eq_getElem_cons hlt, ← hf] at h
    have h2 := two_eq he hf2
    by_cases c : e = f
    · have hc := h2.2 c
      have hr : r = (false, false) := by
        rcases h with ⟨_, h⟩ | ⟨h, _⟩
        · exact h
        · rw [c] at h; simp at h
      rw [hr]
      refine ⟨1, fun k hk => ?_⟩
      obtain ⟨k, rfl⟩ : ∃ m, k = m + 1 := ⟨k - 1, by omega⟩
      show spec_IsEvenEdges.l1 (k + 1) x1 x6 e x22 x23 x24 S _ _ l own = _
      rw [spec_IsEvenEdges.l1, if_pos (by omega), if_pos (by omega), if_pos (by omega), hrow, if_pos (by omega), if_pos (by omega), if_pos hc.1, if_pos (by omega), if_pos (by omega), if_pos hc.2]
    · have hcc : ¬ (rd e 0 = rd f 0 ∧ rd e 1 = rd f 1) := fun hh => c (h2.1 hh)
      have hb : (e == f) = false := by simpa using c
      have h3 : (S.drop (j + 1)).contains e = true ∧ r = (false, false) ∨ (S.drop (j + 1)).contains e = false ∧ Ev (fun k => spec_IsEvenEdges.l0 k x1 x6 x22 x23 (wrap64 (x24 + 1)) l own) r := by
        rw [List.contains_cons, hb, Bool.false_or] at h
        exact h
      obtain ⟨K, ih⟩ := seen_at l own e he x1 x22 S x6 x23 x24 hS hl r d (j + 1) (by omega) h3
      simp only at ih
      refine ⟨K + 1, fun k hk => ?_⟩
      obtain ⟨k, rfl⟩ : ∃ m, k = m + 1 := ⟨k - 1, by omega⟩
      show spec_IsEvenEdges.l1 (k + 1) x1 x6 e x22 x23 x24 S _ _ l own = _
      rw [spec_IsEvenEdges.l1, if_pos (by omega), if_pos (by omega), if_pos (by omega), hrow, if_pos (by omega), if_pos (by omega), stepI (by omega)]
      by_cases c1 : rd e 0 = rd f 0
      · rw [if_pos c1, if_pos (by omega), if_pos (by omega), if_neg (fun h5 => hcc ⟨c1, h5⟩)]
        exact ih k (by omega)
      · rw [if_neg c1]
        exact ih k (by omega)
theorem pa_at (own : Bool) (L : List (List Int)) (hL : L.length ≤ 4611686018427387904) (hok : ∀ e ∈ L, e.length = 2 ∧ 0 ≤ rd e 0 ∧ 0 ≤ rd e 1) : ∀ (d i : Nat), i + d = L.length → ∀ x : Int,
    Ev (fun k => spec_paEven.l0 k x L (L.length : Int) (i : Int)) ((L.drop i).foldl turn x == 0)
  | 0, i, hi, x => by
    rw [List.drop_eq_nil_of_le (by omega)]
    refine ⟨1, fun k hk => ?_⟩
    obtain ⟨k, rfl⟩ : ∃ m, k = m + 1 := ⟨k - 1, by omega⟩
    show spec_paEven.l0 (k + 1) x L _ _ = _
    rw [spec_paEven.l0, if_neg (by omega)]
    rfl
  | d + 1, i, hi, x => by
    have hlt : i < L.length := by omega
    obtain ⟨h1, h2, h3⟩ := hok _ (List.getElem_mem hlt)
    obtain ⟨K, ih⟩ := pa_at own L hL hok d (i + 1) (by omega) (turn x L[i])
    simp only at ih
    rw [List.drop_eq_getElem_cons hlt]
    refine ⟨K + 1, fun k hk => ?_⟩
    obtain ⟨k, rfl⟩ : ∃ m, k = m + 1 := ⟨k - 1, by omega⟩
    show spec_paEven.l0 (k + 1) x L _ _ = _
    rw [spec_paEven.l0, if_pos (by omega), if_pos (by omega), if_pos (by omega), rdS L hlt, if_pos (by omega), if_pos h2, if_pos (by omega), if_pos h3, stepI (by omega)]
    exact ih k (by omega)
section
variable (l : List Int) (own : Bool) (hG : Gr.Good l)
include hG
/-- The reference's side. -/
theorem spec_at (L : List (List Int)) (hL : L.length ≤ 4611686018427387904) : ∀ (d i : Nat), i + d = L.length → (∀ f ∈ L.take i, okE l f = true) →
    Ev (fun k => spec_IsEvenEdges.l0 k L (l.length : Int) L (L.length : Int) (i : Int) l own) (if goodE l (L.drop i) (L.take i) = true then (L.foldl turn 0 == 0, true) else (false, false))
  | 0, i, hi, hok => by
    rw [List.drop_eq_nil_of_le (by omega)]
    rw [List.take_of_length_le (by omega)] at hok
    obtain ⟨K, ih⟩ := pa_at own L hL (fun e he => by obtain ⟨a, b, c, _⟩ := okE_two (hok e he); exact ⟨a, b, c⟩) L.length 0 (by omega) 0
    simp only at ih
    refine ⟨K + 1, fun k hk => ?_⟩
    obtain ⟨k, rfl⟩ : ∃ m, k = m + 1 := ⟨k - 1, by omega⟩
    show spec_IsEvenEdges.l0 (k + 1) L _ L _ _ l own = _
    rw [spec_IsEvenEdges.l0, if_neg (by omega), spec_paEven.f]
    have := ih k (by omega)
    simp only [List.drop_zero] at this
    show ((spec_paEven.l0 k 0 L (L.length : Int) ((0 : Nat) : Int)).bind fun t121 => some (t121, true)) = _
    rw [this]
    rfl
  | d + 1, i, hi, hok => by
    have hlt : i < L.length := by omega
    have hn1 := hG.1
    have hn2 := hG.2.1
    rw [List.drop_eq_getElem_cons hlt, goodE]
    obtain ⟨e, he⟩ : ∃ e, e = L[i] := ⟨_, rfl⟩
    rw [← he]
    have hrow : rd_L1 L (i : Int) = e := by rw [rdS L hlt, he]
    have hw := last_wrap l hG
    have bad : ∀ k, spec_IsEvenEdges.j2 (k + 1) L (l.length : Int) (i : Int) e L (L.length : Int) (i : Int) true l own = some (false, false) := fun k => by
      rw [spec_IsEvenEdges.j2, if_pos rfl]
    by_cases c1 : e.length = 2
    · by_cases c2 : (decide (0 ≤ rd e 0) && decide (rd e 0 ≤ (l.length : Int) - 1)) = true
      · by_cases c6 : (decide (0 ≤ rd e 1) && decide (rd e 1 ≤ (l.length : Int) - 1)) = true
        · have hc2 := c2
          have hc6 := c6
          simp only [Bool.and_eq_true, decide_eq_true_eq] at hc2 hc6
          obtain ⟨a1, a2⟩ := hc2
          obtain ⟨b1, b2⟩ := hc6
          by_cases c3 : rd e 0 < rd e 1
          · obtain ⟨p, hp⟩ : ∃ p : Nat, rd e 0 = (p : Int) := ⟨(rd e 0).toNat, by omega⟩
            obtain ⟨q, hq⟩ : ∃ q : Nat, rd e 1 = (q : Int) := ⟨(rd e 1).toNat, by omega⟩
            have hpl : p < l.length := by omega
            have hhas : spec_grIn.f (rd l (rd e 0)) (rd e 1) = some ((nr l p).testBit q) := by
              rw [hp, hq, show rd l (p : Int) = l.getD p 0 from by simp [rd], nr_cast hG.2.2.1 hpl]
              exact grIn_nat _ _ (by have := nr_small hn2 hG.2.2.1 hpl; omega)
            have hok1 : okE l e = (nr l p).testBit q := by
              unfold okE
              rw [hp] at c2
              rw [hq] at c6
              rw [hp, hq] at c3 ⊢
              rw [c2, c6]
              simp [c1, c3]
            by_cases c4 : (nr l p).testBit q = true
            · rw [c4] at hok1 hhas
              have key : Ev (fun k => spec_IsEvenEdges.l1 k L (l.length : Int) e L (L.length : Int) (i : Int) (L.take i) ((L.take i).length : Int) ((0 : Nat) : Int) l own) (if (okE l e && !(L.take i).contains e && goodE l (L.drop (i + 1)) (L.take i ++ [e])) = true then (L.foldl turn 0 == 0, true) else (false, false)) := by
                refine seen_at l own e c1 L L (L.take i) _ _ _ (fun f hf => (okE_two (hok f hf)).1) (by rw [List.length_take]; omega) _ (L.take i).length 0 (by omega) ?_
                by_cases c5 : (L.take i).contains e = true
                · exact Or.inl ⟨by simpa using c5, by rw [c5]; simp⟩
                · have c5 := Bool.eq_false_iff.mpr c5
                  refine Or.inr ⟨by simpa using c5, ?_⟩
                  rw [stepI (by omega), c5, hok1, he, take_add hlt]
                  simp only [Bool.not_false, Bool.and_self, Bool.true_and]
                  refine spec_at L hL d (i + 1) (by omega) fun f hf => ?_
                  rw [← take_add hlt] at hf
                  rcases List.mem_append.1 hf with hf | hf
                  · exact hok f hf
                  · rw [List.mem_singleton.1 hf, ← he]; exact hok1
              obtain ⟨K, ih⟩ := key
              simp only at ih
              refine ⟨K + 2, fun k hk => ?_⟩
              obtain ⟨k, rfl⟩ : ∃ m, k = m + 2 := ⟨k - 2, by omega⟩
              show spec_IsEvenEdges.l0 (k + 1 + 1) L _ L _ _ l own = _
              rw [spec_IsEvenEdges.l0, if_pos (by omega), if_pos (by omega), if_pos (by omega), hrow, if_pos (by omega), if_pos (by omega), hw, l1In_val, c2]
              simp only [Option.bind_some, if_true]
              rw [if_pos (by omega), l1In_val, c6]
              simp only [Option.bind_some, if_true]
              rw [if_neg (by omega), if_pos (by omega), if_pos (by omega), hhas]
              simp only [Option.bind_some, Bool.not_true]
              rw [spec_IsEvenEdges.j2, if_neg (by simp), if_pos (by omega), if_pos (by omega)]
              simp only [Option.bind_some, Int.toNat_natCast]
              exact ih k (by omega)
            · have c4 := Bool.eq_false_iff.mpr c4
              rw [c4] at hok1 hhas
              refine ⟨2, fun k hk => ?_⟩
              obtain ⟨k, rfl⟩ : ∃ m, k = m + 2 := ⟨k - 2, by omega⟩
              show spec_IsEvenEdges.l0 (k + 1 + 1) L _ L _ _ l own = _
              rw [spec_IsEvenEdges.l0, if_pos (by omega), if_pos (by omega), if_pos (by omega), hrow, if_pos (by omega), if_pos (by omega), hw, l1In_val, c2]
              simp only [Option.bind_some, if_true]
              rw [if_pos (by omega), l1In_val, c6]
              simp only [Option.bind_some, if_true]
              rw [if_neg (by omega), if_pos (by omega), if_pos (by omega), hhas]
              simp only [Option.bind_some, Bool.not_false]
              rw [bad k]
              simp [hok1]
          · have hok1 : okE l e = false := by simp [okE, c3]
            refine ⟨2, fun k hk => ?_⟩
            obtain ⟨k, rfl⟩ : ∃ m, k = m + 2 := ⟨k - 2, by omega⟩
            show spec_IsEvenEdges.l0 (k + 1 + 1) L _ L _ _ l own = _
            rw [spec_IsEvenEdges.l0, if_pos (by omega), if_pos (by omega), if_pos (by omega), hrow, if_pos (by omega), if_pos (by omega), hw, l1In_val, c2]
            simp only [Option.bind_some, if_true]
            rw [if_pos (by omega), l1In_val, c6]
            simp only [Option.bind_some, if_true]
            rw [if_pos (by omega), bad k]
            simp [hok1]
        · have c6 := Bool.eq_false_iff.mpr c6
          have hok1 : okE l e = false := by unfold okE; rw [c6]; simp
          refine ⟨2, fun k hk => ?_⟩
          obtain ⟨k, rfl⟩ : ∃ m, k = m + 2 := ⟨k - 2, by omega⟩
          show spec_IsEvenEdges.l0 (k + 1 + 1) L _ L _ _ l own = _
          rw [spec_IsEvenEdges.l0, if_pos (by omega), if_pos (by omega), if_pos (by omega), hrow, if_pos (by omega), if_pos (by omega), hw, l1In_val, c2]
          simp only [Option.bind_some, if_true]
          rw [if_pos (by omega), l1In_val, c6]
          simp only [Option.bind_some, Bool.false_eq_true, if_false]
          rw [bad k]
          simp [hok1]
      · have c2 := Bool.eq_false_iff.mpr c2
        have hok1 : okE l e = false := by unfold okE; rw [c2]; simp
        refine ⟨2, fun k hk => ?_⟩
        obtain ⟨k, rfl⟩ : ∃ m, k = m + 2 := ⟨k - 2, by omega⟩
        show spec_IsEvenEdges.l0 (k + 1 + 1) L _ L _ _ l own = _
        rw [spec_IsEvenEdges.l0, if_pos (by omega), if_pos (by omega), if_pos (by omega), hrow, if_pos (by omega), if_pos (by omega), hw, l1In_val, c2]
        simp only [Option.bind_some, Bool.false_eq_true, if_false]
        rw [bad k]
        simp [hok1]
    · have hok1 : okE l e = false := by simp [okE, c1]
      refine ⟨2, fun k hk => ?_⟩
      obtain ⟨k, rfl⟩ : ∃ m, k = m + 2 := ⟨k - 2, by omega⟩
      show spec_IsEvenEdges.l0 (k + 1 + 1) L _ L _ _ l own = _
      rw [spec_IsEvenEdges.l0, if_pos (by omega), if_pos (by omega), if_pos (by omega), hrow, if_neg (by omega), bad k]
      simp [hok1]
end
/-- No list without repeats is longer than one that holds all of it. -/
theorem short_of_sub {α : Type} [BEq α] [LawfulBEq α] : ∀ (l P : List α), l.Nodup → (∀ x ∈ l, x ∈ P) → l.length ≤ P.length
  | [], _, _, _ => Nat.zero_le _
  | a :: l, P, hn, hs => by
    obtain ⟨h1, h2⟩ := List.nodup_cons.1 hn
    have ha : a ∈ P := hs a (by simp)
    have h3 := short_of_sub l (P.erase a) h2 (fun x hx => by
      have hne : x ≠ a := fun e => h1 (e ▸ hx)
      exact (List.mem_erase_of_ne hne).2 (hs x (by simp [hx])))
    rw [List.length_erase_of_mem ha] at h3
    have := List.length_pos_of_mem ha
    rw [List.length_cons]
    omega
theorem good_nodup (l : List Int) : ∀ (es seen : List (List Int)), goodE l es seen = true → es.Nodup ∧ (∀ e ∈ es, okE l e = true) ∧ ∀ e ∈ es, ¬ e ∈ seen
  | [], _, _ => by simp
  | e :: es, seen, h => by
    simp only [goodE, Bool.and_eq_true, Bool.not_eq_true'] at h
    obtain ⟨⟨h1, h2⟩, h3⟩ := h
    obtain ⟨a, b, c⟩ := good_nodup l es (seen ++ [e]) h3
    have h2 : ¬ e ∈ seen := by simpa using h2
    refine ⟨List.nodup_cons.2 ⟨fun h => c e h (by simp), a⟩, fun f hf => ?_, fun f hf => ?_⟩
    · rcases List.mem_cons.1 hf with rfl | hf
      · exact h1
      · exact b f hf
    · rcases List.mem_cons.1 hf with rfl | hf
      · exact h2
      · exact fun h => c f hf (by simp [h])
/-- All pairs of two of sixteen buttons. -/
def pairs : List (List Int) := (List.range 16).flatMap fun (b : Nat) => (List.range b).map fun (a : Nat) => [(a : Int), (b : Int)]
theorem good_short {l : List Int} (hl : l.length ≤ 16) {L : List (List Int)} (h : goodE l L [] = true) : L.length ≤ 200 := by
  obtain ⟨h1, h2, _⟩ := good_nodup l L [] h
  have h3 := short_of_sub L pairs h1 (fun e he => by
    obtain ⟨a, b, c, d, f, g⟩ := okE_two (h2 e he)
    match e, a with
    | [p, q], _ =>
      simp only [rd] at b c d f g
      simp at b c d f g
      refine List.mem_flatMap.2 ⟨q.toNat, List.mem_range.2 (by omega), List.mem_map.2 ⟨p.toNat, List.mem_range.2 (by omega), ?_⟩⟩
      rw [Int.toNat_of_nonneg b, Int.toNat_of_nonneg c])
  have h4 : pairs.length = 120 := by decide
  omega
/-- Both sides alike. -/
theorem edges_both (l : List Int) (own : Bool) (hlen : l.length ≤ 4611686018427387904) (L : List (List Int)) (hL : L.length ≤ 4611686018427387904) :
    ∃ r : Bool × Bool, Ev (fun k => spec_IsEvenEdges.f k l own L) r ∧ Ev (fun k => impl_IsEvenEdges.f k l own L) r := by
  obtain ⟨b, hb, ⟨K1, e1⟩, ⟨K2, e2⟩⟩ := good_both l own hlen
  simp only at e1 e2
  cases b with
  | false =>
    refine ⟨(false, false), ⟨K1 + 1, fun k hk => ?_⟩, ⟨K2, fun k hk => ?_⟩⟩
    · obtain ⟨k, rfl⟩ : ∃ m, k = m + 1 := ⟨k - 1, by omega⟩
      show spec_IsEvenEdges.f (k + 1) l own L = _
      unfold spec_IsEvenEdges.f
      rw [e1 (k + 1) (by omega)]
      simp only [Option.bind_some, Bool.false_eq_true, if_false]
      rw [spec_IsEvenEdges.j0, if_pos rfl]
    · show impl_IsEvenEdges.f k l own L = _
      unfold impl_IsEvenEdges.f
      rw [e2 k hk]
      rfl
  | true =>
    have hG := hb.1 rfl
    obtain ⟨K3, e3⟩ := impl_at l own hG ⟨K2, e2⟩ L hL L.length 0 (by omega) 0
    obtain ⟨K4, e4⟩ := spec_at l own hG L hL L.length 0 (by omega) (by simp)
    simp only [List.drop_zero, List.take_zero] at e3 e4
    by_cases c : L.length ≤ 200
    · refine ⟨if goodE l L [] = true then (L.foldl turn 0 == 0, true) else (false, false), ⟨K1 + K4 + 1, fun k hk => ?_⟩, ⟨K2 + K3, fun k hk => ?_⟩⟩
      · obtain ⟨k, rfl⟩ : ∃ m, k = m + 1 := ⟨k - 1, by omega⟩
        show spec_IsEvenEdges.f (k + 1) l own L = _
        unfold spec_IsEvenEdges.f
        rw [e1 (k + 1) (by omega)]
        simp only [Option.bind_some, if_true]
        rw [spec_IsEvenEdges.j0, if_neg (by rw [decide_eq_true_eq]; omega)]
        exact e4 k (by omega)
      · show impl_IsEvenEdges.f k l own L = _
        unfold impl_IsEvenEdges.f
        rw [e2 k (by omega)]
        simp only [Option.bind_some, if_true]
        exact e3 k (by omega)
    · have hbad : ¬ goodE l L [] = true := fun h => c (good_short hG.2.1 h)
      rw [if_neg hbad] at e3
      refine ⟨(false, false), ⟨K1 + 1, fun k hk => ?_⟩, ⟨K2 + K3, fun k hk => ?_⟩⟩
      · obtain ⟨k, rfl⟩ : ∃ m, k = m + 1 := ⟨k - 1, by omega⟩
        show spec_IsEvenEdges.f (k + 1) l own L = _
        unfold spec_IsEvenEdges.f
        rw [e1 (k + 1) (by omega)]
        simp only [Option.bind_some, if_true]
        rw [spec_IsEvenEdges.j0, if_pos (by rw [decide_eq_true_eq]; omega)]
      · show impl_IsEvenEdges.f k l own L = _
        unfold impl_IsEvenEdges.f
        rw [e2 k (by omega)]
        simp only [Option.bind_some, if_true]
        exact e3 k (by omega)
end Go.Proofs.Ytfhbkgbhogndfaa.Ed
