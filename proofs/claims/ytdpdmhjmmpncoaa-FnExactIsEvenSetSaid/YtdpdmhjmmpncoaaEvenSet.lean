/- 'Have all of the set the parity asked for?': both sides step alike. -/
import Derived.Test.YtdpdmhjmmpncoaaSets
import Derived.Test.YtdpdmhjmmpncoaaPx17
import Derived.Test.YtdpdmhjmmpncoaaPx18
import Derived.Test.YtdpdmhjmmpncoaaPx19
namespace Go.Proofs.Ytdpdmhjmmpncoaa.Gr
open Go.RowKit Go.Proofs.Ytdpdmhjmmpncoaa.P Go.Proofs.Ytdpdmhjmmpncoaa.Bt Go.Proofs.Ytdpdmhjmmpncoaa.Lw Go.Proofs.YtdpdmhjmmpncoaaW.PrintWords Go.Proofs.YtdpdmhjmmpncoaaW.PrintLast Go.Proofs.YtdpdmhjmmpncoaaW.PrintMore
set_option linter.unusedVariables false
set_option linter.unusedSimpArgs false

/-- How many of the set are neighbours of i, on both sides. -/
theorem deg_both (l : List Int) (own : Bool) (hl : l.length ≤ 16) (hr : Rng l) (s : Nat) (hs : s < 65536) (i : Nat) (hi : i < l.length) :
    ∃ c : Nat, c = pc (nr l i &&& s) ∧ c ≤ 16 ∧ (∀ k, 17 ≤ k → spec_paDegree.f k l own (s : Int) (i : Int) = some (c : Int)) ∧ impl_count.f (Go.bits .and .i64 (rd l (i : Int)) (s : Int)) = some (c : Int) := by
  have hri : rd l (i : Int) = (nr l i : Int) := by rw [rd_nat]; exact nr_cast hr hi
  have hsi := nr_small hl hr hi
  have ha : nr l i &&& s < 65536 := Nat.lt_of_le_of_lt Nat.and_le_right hs
  refine ⟨pc (nr l i &&& s), rfl, pc_le _, fun k hk => ?_, ?_⟩
  · unfold spec_paDegree.f
    rw [if_pos (by omega), if_pos (by omega), hri, bits_and (by omega) (by omega), grCount_at ha k (by omega)]
    rfl
  · rw [hri, bits_and (by omega) (by omega), count_at ha]
theorem all_both (l : List Int) (own : Bool) (hl : l.length ≤ 16) (hr : Rng l) (s : Nat) (hs : s < 65536) (p : Int) :
    ∀ (d i : Nat), l.length - i = d → i ≤ l.length → ∃ b : Bool, Ev (fun k => spec_paAll.l0 k (s : Int) p (l.length : Int) (i : Int) l own) b ∧ Ev (fun k => impl_Graph_all.l0 k (s : Int) p l (l.length : Int) (i : Int)) b := by
  intro d
  induction d with
  | zero =>
    intro i hd hi
    refine ⟨true, Ev.konst 1 fun k hk => ?_, Ev.konst 1 fun k hk => ?_⟩
    · obtain ⟨k, rfl⟩ : ∃ m, k = m + 1 := ⟨k - 1, by omega⟩
      rw [spec_paAll.l0, if_neg (by omega)]
    · obtain ⟨k, rfl⟩ : ∃ m, k = m + 1 := ⟨k - 1, by omega⟩
      rw [impl_Graph_all.l0, if_neg (by omega)]
  | succ d ih =>
    intro i hd hi
    obtain ⟨b, e1, e2⟩ := ih (i + 1) (by omega) (by omega)
    by_cases hb : s.testBit i = true
    · obtain ⟨c, -, -, d1, d2⟩ := deg_both l own hl hr s hs i (by omega)
      by_cases hp : Int.tmod (c : Int) 2 = p
      · refine ⟨b, Ev.succ e1 17 fun k hk => ?_, Ev.succ e2 17 fun k hk => ?_⟩
        · rw [spec_paAll.l0, if_pos (by omega), grIn_nat s i (by omega), hb]
          simp only [Option.bind_some, if_true]
          rw [d1 k hk]
          simp only [Option.bind_some]
          rw [if_pos hp, step1 (by omega)]
        · rw [impl_Graph_all.l0, if_pos (by omega), if_pos (by omega), if_pos (by omega), has_nat s i (by omega), hb, d2]
          simp only [Option.bind_some, if_true]
          rw [if_pos hp, step1 (by omega)]
      · refine ⟨false, Ev.konst 18 fun k hk => ?_, Ev.konst 18 fun k hk => ?_⟩
        · obtain ⟨k, rfl⟩ : ∃ m, k = m + 1 := ⟨k - 1, by omega⟩
          rw [spec_paAll.l0, if_pos (by omega), grIn_nat s i (by omega), hb]
          simp only [Option.bind_some, if_true]
          rw [d1 k (by omega)]
          simp only [Option.bind_some]
          rw [if_neg hp]
        · obtain ⟨k, rfl⟩ : ∃ m, k = m + 1 := ⟨k - 1, by omega⟩
          rw [impl_Graph_all.l0, if_pos (by omega), if_pos (by omega), if_pos (by omega), has_nat s i (by omega), hb, d2]
          simp only [Option.bind_some, if_true]
          rw [if_neg hp]
    · refine ⟨b, Ev.succ e1 0 fun k hk => ?_, Ev.succ e2 0 fun k hk => ?_⟩
      · rw [spec_paAll.l0, if_pos (by omega), grIn_nat s i (by omega), Bool.eq_false_iff.mpr hb]
        simp only [Option.bind_some]
        rw [if_neg (by simp), step1 (by omega)]
      · rw [impl_Graph_all.l0, if_pos (by omega), if_pos (by omega), if_pos (by omega), has_nat s i (by omega), Bool.eq_false_iff.mpr hb]
        simp only [Option.bind_some]
        rw [if_neg (by simp), step1 (by omega)]
end Go.Proofs.Ytdpdmhjmmpncoaa.Gr
