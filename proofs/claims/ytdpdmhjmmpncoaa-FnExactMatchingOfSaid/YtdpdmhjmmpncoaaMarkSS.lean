/- Laws over rows of rows: equal, marked, held. -/
import Derived.Test.YtdpdmhjmmpncoaaLA
import Derived.Test.YtdpdmhjmmpncoaaPx15
import Derived.Test.YtdpdmhjmmpncoaaPx26
import Derived.Test.YtdpdmhjmmpncoaaPx27
namespace Go.Proofs.Ytdpdmhjmmpncoaa.Lw
open Go.RowKit Go.Proofs.Ytdpdmhjmmpncoaa.P Go.Proofs.YtdpdmhjmmpncoaaW.PrintWords Go.Proofs.YtdpdmhjmmpncoaaW.PrintLast Go.Proofs.YtdpdmhjmmpncoaaW.PrintMore
set_option linter.unusedVariables false
set_option linter.unusedSimpArgs false

/-- Rows marked one after the other, from a on. -/
def marksS : Int → List (List Int) → List (List Int)
  | _, [] => []
  | a, x :: xs => marks a x.length :: marksS (a + (x.length : Int)) xs
/-- How many numbers rows hold. -/
def sizeS : List (List Int) → Nat
  | [] => 0
  | x :: xs => x.length + sizeS xs
theorem marksS_length : ∀ (a : Int) (xs : List (List Int)), (marksS a xs).length = xs.length
  | _, [] => rfl
  | a, x :: xs => by rw [marksS, List.length_cons, List.length_cons, marksS_length]
theorem mkSS_at : ∀ (xs : List (List Int)) (a : Int), 0 ≤ a → a + sizeS xs ≤ 4611686018427387904 → Ev (fun k => mkSS k xs a) (a + (sizeS xs : Int), marksS a xs)
  | [], a, _, _ => ⟨0, fun k _ => by show mkSS k [] a = _; rw [mkSS, sizeS, marksS]; simp⟩
  | x :: xs, a, h0, h1 => by
    rw [sizeS] at h1
    obtain ⟨K1, e1⟩ := markIntS_ev x a h0 (by omega)
    obtain ⟨K2, e2⟩ := mkSS_at xs (a + (x.length : Int)) (by omega) (by omega)
    refine ⟨K1 + K2, fun k hk => ?_⟩
    simp only at e1 e2
    show mkSS k (x :: xs) a = _
    rw [mkSS, e1 k (by omega)]
    simp only [Option.bind_some]
    rw [e2 k (by omega)]
    simp only [Option.bind_some]
    rw [sizeS, marksS, show a + (x.length : Int) + (sizeS xs : Int) = a + ((x.length + sizeS xs : Nat) : Int) by omega]
theorem rdL1_at (xs : List (List Int)) {i : Nat} (h : i < xs.length) : rd_L1 xs (i : Int) = xs[i] := by simp [rd_L1, h]
theorem heldSS_l0 : ∀ (xs ys : List (List Int)) (pre : List (List Int)) (a : Int), ys = pre ++ marksS a xs → 0 ≤ a → a + sizeS xs ≤ 4611686018427387904 → ys.length ≤ 1000000 →
    Ev (fun k => laws_heldIntSS.l0 k ys a (pre.length : Int)) (a + (sizeS xs : Int))
  | [], ys, pre, a, hy, _, _, _ => ⟨1, fun k hk => by
    obtain ⟨k, rfl⟩ : ∃ m, k = m + 1 := ⟨k - 1, by omega⟩
    show laws_heldIntSS.l0 (k + 1) ys a (pre.length : Int) = _
    have : ys.length = pre.length := by rw [hy, marksS, List.append_nil]
    rw [laws_heldIntSS.l0, if_neg (by omega), sizeS]; simp⟩
  | x :: xs, ys, pre, a, hy, h0, h1, hl => by
    rw [sizeS] at h1
    obtain ⟨K1, e1⟩ := heldIntS_ev a x.length h0 (by omega)
    obtain ⟨K2, e2⟩ := heldSS_l0 xs ys (pre ++ [marks a x.length]) (a + (x.length : Int)) (by rw [hy, marksS]; simp) (by omega) (by omega) hl
    refine ⟨K1 + K2 + 1, fun k hk => ?_⟩
    obtain ⟨k, rfl⟩ : ∃ m, k = m + 1 := ⟨k - 1, by omega⟩
    simp only at e1 e2
    have hlen : ys.length = pre.length + (xs.length + 1) := by rw [hy, List.length_append, marksS, List.length_cons, marksS_length]
    have hrow : rd_L1 ys (pre.length : Int) = marks a x.length := by
      rw [rdL1_at ys (by omega)]
      simp only [hy, marksS]
      rw [List.getElem_append_right (by omega)]
      simp
    show laws_heldIntSS.l0 (k + 1) ys a (pre.length : Int) = _
    rw [laws_heldIntSS.l0, if_pos (by omega), if_pos (by omega), hrow, e1 k (by omega)]
    simp only [Option.bind_some]
    rw [if_neg (by omega), show wrap64 ((pre.length : Int) + 1) = ((pre ++ [marks a x.length]).length : Int) by rw [wrap_id (by omega) (by omega)]; simp, e2 k (by omega), sizeS]
    congr 1; omega
theorem heldSS_ev (a : Int) (xs : List (List Int)) (h0 : 0 ≤ a) (h1 : a + sizeS xs ≤ 4611686018427387904) (hl : xs.length ≤ 1000000) : Ev (fun k => laws_heldIntSS.f k (marksS a xs) a) (a + (sizeS xs : Int)) :=
  heldSS_l0 xs (marksS a xs) [] a (by simp) h0 h1 (by rw [marksS_length]; exact hl)
theorem eqSS_l0 (xs : List (List Int)) (hl : xs.length ≤ 1000000) (hs : ∀ x ∈ xs, x.length ≤ 1000000) : ∀ (d i : Nat), i + d = xs.length → Ev (fun k => laws_eqIntSS.l0 k xs xs (i : Int)) true
  | 0, i, hi => ⟨1, fun k hk => by
    obtain ⟨k, rfl⟩ : ∃ m, k = m + 1 := ⟨k - 1, by omega⟩
    show laws_eqIntSS.l0 (k + 1) xs xs (i : Int) = _
    rw [laws_eqIntSS.l0, if_neg (by omega)]⟩
  | d + 1, i, hi => by
    have hlt : i < xs.length := by omega
    obtain ⟨K1, e1⟩ := eqIntS_ev xs[i] (by have := hs _ (List.getElem_mem hlt); omega)
    obtain ⟨K2, e2⟩ := eqSS_l0 xs hl hs d (i + 1) (by omega)
    refine ⟨K1 + K2 + 1, fun k hk => ?_⟩
    obtain ⟨k, rfl⟩ : ∃ m, k = m + 1 := ⟨k - 1, by omega⟩
    simp only at e1 e2
    show laws_eqIntSS.l0 (k + 1) xs xs (i : Int) = _
    rw [laws_eqIntSS.l0]
    repeat rw [if_pos (by omega)]
    rw [rdL1_at xs hlt, e1 k (by omega)]
    simp only [Option.bind_some, if_true]
    rw [show wrap64 ((i : Int) + 1) = ((i + 1 : Nat) : Int) by rw [wrap_id (by omega) (by omega)]; simp]
    exact e2 k (by omega)
theorem eqSS_ev (xs : List (List Int)) (hl : xs.length ≤ 1000000) (hs : ∀ x ∈ xs, x.length ≤ 1000000) : Ev (fun k => laws_eqIntSS.f k xs xs) true := by
  obtain ⟨K, e⟩ := eqSS_l0 xs hl hs xs.length 0 (by omega)
  refine ⟨K, fun k hk => ?_⟩
  simp only at e
  show laws_eqIntSS.f k xs xs = _
  unfold laws_eqIntSS.f
  first
    | exact e k hk
    | (rw [if_pos (by simp)]; exact e k hk)
    | (rw [if_neg (by simp)]; exact e k hk)
end Go.Proofs.Ytdpdmhjmmpncoaa.Lw
