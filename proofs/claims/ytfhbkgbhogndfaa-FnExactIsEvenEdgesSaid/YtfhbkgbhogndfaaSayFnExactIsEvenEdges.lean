/- What is left to prove of the law FnExactIsEvenEdges, and the walk that follows from it. -/
import Derived.Test.YtfhbkgbhogndfaaPx7
namespace Go.Proofs.Ytfhbkgbhogndfaa.P
open Go.RowKit Go.Proofs.YtfhbkgbhogndfaaW.PrintWords Go.Proofs.YtfhbkgbhogndfaaW.PrintLast Go.Proofs.YtfhbkgbhogndfaaW.PrintMore
set_option linter.unusedVariables false
def laws_FnExactIsEvenEdges.Pure : Prop := ∀ (l0_0 : List Int) (a0_1 : Bool) (l1 : List (List Int)), l0_0.length ≤ maxLen → (∀ x ∈ l0_0, (Lit.int .i64 x).wf = true) → l1.length ≤ maxLen → (∀ e ∈ l1, e.length ≤ maxLen) → ∃ k, laws_FnExactIsEvenEdges.f k l0_0 a0_1 l1 = some true
/-- Rows in memory, as the cells tell them. -/
theorem rows_of {w : World} {x : Addr} {len cap : Nat} {A : Nat → Option Addr} {L C : Nat → Nat} {Z : Nat → List Int} (hl : len ≤ cap) (hm : cap ≤ maxLen)
    (h : ∀ r, r < cap → w.cell? (x.add r) = some (.slice (A r) (L r) (C r)) ∧ L r ≤ C r ∧ C r ≤ maxLen ∧ (Z r).length = C r ∧ (∀ n ∈ Z r, (Lit.int .i64 n).wf = true) ∧ (A r = none → C r = 0) ∧
      ∀ a', A r = some a' → 0 ≤ a'.block ∧ ∀ c, c < C r → w.cell? (a'.add c) = some (.int .i64 ((Z r).getD c 0))) :
    ∃ l1 : List (List Int), len = l1.length ∧ Kd.C (Kd.slice 3 (Kd.int .i64)) w (some x) l1.length l1 ∧ l1.length ≤ maxLen ∧ (∀ e ∈ l1, e.length ≤ maxLen) := by
  have hmx : maxLen = 9223372036854775807 := by decide
  have hlen : ((List.range len).map fun r => (Z r).take (L r)).length = len := by simp
  refine ⟨(List.range len).map fun r => (Z r).take (L r), hlen.symm, ⟨rfl, by rw [hlen]; omega, fun hn => ⟨x, rfl, fun j p hj => ?_⟩⟩, by rw [hlen]; omega, fun e he => ?_⟩
  · obtain ⟨hj1, hj2⟩ := List.getElem?_eq_some_iff.1 hj
    rw [hlen] at hj1
    have hp : p = (Z j).take (L j) := by rw [← hj2]; simp
    subst hp
    obtain ⟨c1, c2, c3, c4, c5, c6, c7⟩ := h j (by omega)
    have hpl : ((Z j).take (L j)).length = L j := by rw [List.length_take]; omega
    refine ⟨[.slice (A j) (L j) (C j)], rfl, ⟨A j, C j, by rw [hpl], by omega, ?_⟩, fun i u hi => ?_⟩
    · refine Kd.C_of_reads (d := (0 : Int)) ⟨rfl, by omega, fun h0 => ?_⟩
      cases hA : A j with
      | none => have := c6 hA; omega
      | some a' =>
        refine ⟨a', rfl, fun c hc => ?_⟩
        rw [(c7 a' hA).2 c (by omega)]
        simp only [List.getD_eq_getElem?_getD, List.getElem?_take]
        rw [if_pos (by omega)]
    · cases i with
      | zero => simp only [List.getElem?_cons_zero, Option.some.injEq] at hi; subst hi; simpa [Kd.slice] using c1
      | succ i => simp at hi
  · obtain ⟨r, hr, rfl⟩ := List.mem_map.1 he
    have := List.mem_range.1 hr
    obtain ⟨c1, c2, c3, c4, c5, c6, c7⟩ := h r (by omega)
    rw [List.length_take]; omega
theorem rows_none (w : World) : Kd.C (Kd.slice 3 (Kd.int .i64)) w none ([] : List (List Int)).length [] := ⟨rfl, by simp, fun h => by simp at h⟩
theorem laws_FnExactIsEvenEdges.walk (P : laws_FnExactIsEvenEdges.Pure) (a0 : Option Addr) (len0 cap0 : Nat) (z0 : List Int) (b0 : Bool) (a1 : Option Addr) (cap1 : Nat) (l1 : List (List Int)) (w : World) (w0 : (a0 = none ∧ len0 = 0 ∧ cap0 = 0 ∧ z0 = []) ∨ ∃ x, a0 = some x ∧ len0 ≤ cap0 ∧ cap0 ≤ maxLen ∧ z0.length = cap0 ∧ (∀ i, i < z0.length → w.cell? (x.add i) = some (.int .i64 (z0.getD i 0))) ∧ ∀ n ∈ z0, (Lit.int .i64 n).wf = true)
    (hr1 : Kd.C (Kd.slice 3 (Kd.int .i64)) w a1 l1.length l1) (hc1 : l1.length ≤ cap1) (hm1 : l1.length ≤ maxLen) (he1 : ∀ e ∈ l1, e.length ≤ maxLen) :
    Calls Try.prog 3 #[.agg #[.slice a0 len0 cap0, .bool b0], .slice a1 l1.length cap1] w fun e w' => e = .returned (.bool true) ∧ Below w.heap.size w w' := by
  obtain ⟨l0, rfl, hr0, hm0, hw0, hc0⟩ := ReadsInt.ofRowC w0
  obtain ⟨k, h⟩ := P l0 b0 l1 hm0 hw0 hm1 he1
  refine (laws_FnExactIsEvenEdges.calls k _ _ l0 b0 _ _ l1 true w (Kd.C_of_reads (d := (0 : Int)) (h1 := fun _ => rfl) hr0) hc0 hr1 hc1 h).mono ?_
  rintro e w' ⟨rfl, hd⟩
  exact ⟨rfl, hd⟩
end Go.Proofs.Ytfhbkgbhogndfaa.P
