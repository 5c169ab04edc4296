/- What is left to prove of the law FnExactMatchingSize, and the walk that follows from it. -/
import Derived.Test.YtdpdmhjmmpncoaaPx42
namespace Go.Proofs.Ytdpdmhjmmpncoaa.P
open Go.RowKit Go.Proofs.YtdpdmhjmmpncoaaW.PrintWords Go.Proofs.YtdpdmhjmmpncoaaW.PrintLast Go.Proofs.YtdpdmhjmmpncoaaW.PrintMore
set_option linter.unusedVariables false
def laws_FnExactMatchingSize.Pure : Prop := ∀ (l0_0 : List Int) (a0_1 : Bool), l0_0.length ≤ maxLen → (∀ x ∈ l0_0, (Lit.int .i64 x).wf = true) → ∃ k, laws_FnExactMatchingSize.f k l0_0 a0_1 = some true
theorem laws_FnExactMatchingSize.walk (P : laws_FnExactMatchingSize.Pure) (a0 : Option Addr) (len0 cap0 : Nat) (z0 : List Int) (b0 : Bool) (w : World) (w0 : (a0 = none ∧ len0 = 0 ∧ cap0 = 0 ∧ z0 = []) ∨ ∃ x, a0 = some x ∧ len0 ≤ cap0 ∧ cap0 ≤ maxLen ∧ z0.length = cap0 ∧ (∀ i, i < z0.length → w.cell? (x.add i) = some (.int .i64 (z0.getD i 0))) ∧ ∀ n ∈ z0, (Lit.int .i64 n).wf = true) :
    Calls Try.prog 13 #[.agg #[.slice a0 len0 cap0, .bool b0]] w fun e w' => e = .returned (.bool true) ∧ Below w.heap.size w w' := by
  obtain ⟨l0, rfl, hr0, hm0, hw0, hc0⟩ := ReadsInt.ofRowC w0
  obtain ⟨k, h⟩ := P l0 b0 hm0 hw0
  refine (laws_FnExactMatchingSize.calls k _ _ l0 b0 true w (Kd.C_of_reads (d := (0 : Int)) (h1 := fun _ => rfl) hr0) hc0 h).mono ?_
  rintro e w' ⟨rfl, hd⟩
  exact ⟨rfl, hd⟩
end Go.Proofs.Ytdpdmhjmmpncoaa.P
