/- The text of a polynomial: both sides. -/
import Derived.Test.YtigkmdlbijdoaaaGreatDoorPolyF
import Derived.Test.YtigkmdlbijdoaaaGreatDoorPx3
import Derived.Test.YtigkmdlbijdoaaaGreatDoorPx5
import Derived.Test.YtigkmdlbijdoaaaGreatDoorPx7
import Derived.Test.YtigkmdlbijdoaaaGreatDoorPx9
namespace Go.Proofs.YtigkmdlbijdoaaaGreatDoor.Tx
open Go.RowKit Go.Proofs.YtigkmdlbijdoaaaGreatDoor.P Go.Proofs.YtigkmdlbijdoaaaGreatDoor.Bt Go.Proofs.YtigkmdlbijdoaaaGreatDoor.Gf Go.Proofs.YtigkmdlbijdoaaaGreatDoor.Pf Go.Proofs.YtigkmdlbijdoaaaGreatDoorW.PrintWords Go.Proofs.YtigkmdlbijdoaaaGreatDoorW.PrintLast Go.Proofs.YtigkmdlbijdoaaaGreatDoorW.PrintMore
set_option linter.unusedVariables false
set_option linter.unusedSimpArgs false

/-- The numeral of a number below a hundred. -/
def num (x : Nat) : List UInt8 := if x < 10 then [UInt8.ofNat (48 + x)] else [UInt8.ofNat (48 + x / 10), UInt8.ofNat (48 + x % 10)]
theorem num_dec {x : Nat} (h : x < 100) : Go.Lib.decDigits x = num x := by
  unfold num
  by_cases c : x < 10
  · rw [if_pos c, Go.Lib.decDigits, dif_pos c]
  · rw [if_neg c, Go.Lib.decDigits, dif_neg c, Go.Lib.decDigits, dif_pos (by omega)]
    rfl
theorem l1Num_3 : ∀ x : Fin 100, spec_l1Num.f 3 (x.1 : Int) = some ⟨(num x.1).toArray⟩ := by decide +kernel
theorem l1Num_at {x : Nat} (h : x < 100) : ∀ k, 3 ≤ k → spec_l1Num.f k (x : Int) = some ⟨(num x).toArray⟩ := by
  intro k hk
  obtain ⟨d, rfl⟩ : ∃ d, k = 3 + d := ⟨k - 3, by omega⟩
  clear hk
  induction d with
  | zero => exact l1Num_3 ⟨x, h⟩
  | succ d ih => exact spec_l1Num.mono _ _ _ ih
/-- The word of a power. -/
def word (k : Nat) : ByteArray := if k = 0 then ⟨#[49]⟩ else if k = 1 then ⟨#[120]⟩ else ⟨#[120]⟩ ++ ⟨(num k).toArray⟩
theorem word_some (k : Nat) : ∃ b l, (word k).data.toList = b :: l := by
  unfold word
  split
  · exact ⟨_, _, rfl⟩
  · split
    · exact ⟨_, _, rfl⟩
    · exact ⟨120, num k, by simp⟩
/-- The words of the powers below j that a polynomial has, the greatest first. -/
def ws (n : Nat) : Nat → List ByteArray
  | 0 => []
  | j + 1 => if n.testBit j = true then word j :: ws n j else ws n j
theorem ws_len (n : Nat) : ∀ j, (ws n j).length ≤ j
  | 0 => Nat.le_refl _
  | j + 1 => by
    have := ws_len n j
    rw [ws]; split
    · rw [List.length_cons]; omega
    · omega
theorem num_len (k : Nat) : (num k).length ≤ 2 := by unfold num; split <;> simp
theorem word_len (k : Nat) : (word k).data.toList.length ≤ 3 := by
  unfold word
  split
  · simp
  · split
    · simp
    · have := num_len k; simp; omega
theorem dec_one (j : Nat) (h : j < 100) : wrap64 ((j : Int) - 1) = (j : Int) - 1 := wrap_id (by omega) (by omega)
theorem impl_l0 (n : Nat) (hn : n < 9223372036854775808) : ∀ (j : Nat) (k : Nat) (acc : List ByteArray), j ≤ 50 → j < k → acc.length + j ≤ 1000 → impl_polyText.l0 k (n : Int) acc ((j : Int) - 1) = (strings_Join.f (acc ++ ws n j) ⟨#[43]⟩).bind fun t => some t
  | 0, k, acc, _, hk, _ => by
    obtain ⟨k, rfl⟩ : ∃ m, k = m + 1 := ⟨k - 1, by omega⟩
    rw [impl_polyText.l0, if_neg (by omega), ws, List.append_nil]
  | j + 1, k, acc, hj, hk, ha => by
    obtain ⟨k, rfl⟩ : ∃ m, k = m + 1 := ⟨k - 1, by omega⟩
    rw [show ((j + 1 : Nat) : Int) - 1 = (j : Int) by omega, impl_polyText.l0, if_pos (by omega), has_at n j hn]
    simp only [Option.bind_some]
    rw [dec_one j (by omega), ws]
    by_cases c : n.testBit j = true
    · rw [if_pos c, if_pos c]
      have ih := fun w => impl_l0 n hn j k (acc ++ [w]) (by omega) (by omega) (by rw [List.length_append, List.length_singleton]; omega)
      by_cases c0 : j = 0
      · subst c0
        rw [if_pos (by omega), if_pos (by omega), ih]
        rw [List.append_assoc]; rfl
      · rw [if_neg (by omega)]
        by_cases c1 : j = 1
        · subst c1
          rw [if_pos (by omega), if_pos (by omega), ih]
          rw [List.append_assoc]; rfl
        · rw [if_neg (by omega)]
          have e : strconv_Itoa_64.f (j : Int) = some ⟨(num j).toArray⟩ := by
            unfold strconv_Itoa_64.f
            rw [if_pos (by omega), if_pos (by omega), Int.toNat_natCast, num_dec (by omega)]
          have hl := num_len j
          have hs : (⟨(num j).toArray⟩ : ByteArray).size ≤ 2 := by simpa [ByteArray.size] using hl
          rw [e]
          simp only [Option.bind_some]
          rw [if_pos (by omega), if_pos (by omega), ih, List.append_assoc, show word j = ⟨#[120]⟩ ++ ⟨(num j).toArray⟩ by unfold word; rw [if_neg c0, if_neg c1]]
          rfl
    · rw [if_neg c, if_neg c]
      exact impl_l0 n hn j k acc (by omega) (by omega) (by omega)
/-- Words put behind a text. -/
def tail : ByteArray → List ByteArray → ByteArray
  | s, [] => s
  | s, w :: r => tail ((if s.toList = [] then s else s ++ ⟨#[43]⟩) ++ w) r
theorem spec_l0 (n : Nat) (hn : n < 9223372036854775808) : ∀ (j : Nat) (k : Nat) (s : ByteArray), j ≤ 50 → 2 * j + 10 < k → s.size + 4 * j ≤ 1000 → spec_poText.l0 k (n : Int) s ((j : Int) - 1) = some (tail s (ws n j))
  | 0, k, s, _, hk, _ => by
    obtain ⟨k, rfl⟩ : ∃ m, k = m + 1 := ⟨k - 1, by omega⟩
    rw [spec_poText.l0, if_neg (by omega), ws, tail]
  | j + 1, k, s, hj, hk, ha => by
    obtain ⟨k, rfl⟩ : ∃ m, k = m + 2 := ⟨k - 2, by omega⟩
    rw [show ((j + 1 : Nat) : Int) - 1 = (j : Int) by omega, spec_poText.l0, if_pos (by omega), grIn_at n j hn]
    simp only [Option.bind_some]
    rw [dec_one j (by omega), ws]
    by_cases c : n.testBit j = true
    · rw [if_pos c, if_pos c, tail]
      have hw := word_len j
      have main : ∀ t : ByteArray, t.size ≤ s.size + 1 → spec_poText.j1 (k + 1) (n : Int) t (j : Int) = some (tail (t ++ word j) (ws n j)) := by
        intro t ht
        have hsz : (t ++ word j).size ≤ s.size + 4 := by
          have h9 : (word j).size = (word j).data.toList.length := by rw [Array.length_toList]; rfl
          rw [ByteArray.size_append]; omega
        have ih := spec_l0 n hn j k (t ++ word j) (by omega) (by omega) (by omega)
        rw [spec_poText.j1, dec_one j (by omega)]
        by_cases c0 : j = 0
        · subst c0
          rw [if_pos (by omega), if_pos (by omega)]
          exact ih
        · rw [if_neg (by omega)]
          by_cases c1 : j = 1
          · subst c1
            rw [if_pos (by omega), if_pos (by omega)]
            exact ih
          · rw [if_neg (by omega)]
            have e : word j = ⟨#[120]⟩ ++ ⟨(num j).toArray⟩ := by unfold word; rw [if_neg c0, if_neg c1]
            have hl := num_len j
            have hs : (⟨(num j).toArray⟩ : ByteArray).size ≤ 2 := by simpa [ByteArray.size] using hl
            rw [l1Num_at (by omega) k (by omega)]
            simp only [Option.bind_some]
            rw [e] at ih hsz
            rw [if_pos (by omega), if_pos (by rw [ByteArray.size_append] at hsz; omega), ih, e]
      by_cases c2 : s.toList = []
      · rw [if_pos c2, if_pos c2]
        exact main s (by omega)
      · rw [if_neg c2, if_neg c2, if_pos (by omega)]
        exact main _ (by rw [ByteArray.size_append]; exact Nat.le_refl _)
    · rw [if_neg c, if_neg c]
      exact spec_l0 n hn j (k + 1) s (by omega) (by omega) (by omega)
theorem tail_data : ∀ (r : List ByteArray) (s : ByteArray), s.data.toList ≠ [] → (tail s r).data.toList = s.data.toList ++ Go.Lib.joinTail [43] (r.map (·.data.toList))
  | [], s, _ => by simp [tail, Go.Lib.joinTail]
  | w :: r, s, h => by
    rw [tail, Go.Lib.toList_data, if_neg h, tail_data r _ (by simp [h])]
    simp [Go.Lib.joinTail, List.append_assoc]
theorem tail_join (n j : Nat) : (tail ⟨#[]⟩ (ws n j)).data.toList = Go.Lib.join ((ws n j).map (·.data.toList)) [43] := by
  have h : ∀ j, ∀ w ∈ ws n j, ∃ b l, w.data.toList = b :: l := by
    intro j
    induction j with
    | zero => intro w hw; cases hw
    | succ j ih =>
      intro w hw
      rw [ws] at hw
      split at hw
      · rcases List.mem_cons.1 hw with rfl | hw
        · exact word_some j
        · exact ih w hw
      · exact ih w hw
  have h := h j
  generalize ws n j = l at h
  cases l with
  | nil => rfl
  | cons w r =>
    obtain ⟨b, t, e⟩ := h w (List.mem_cons_self)
    rw [tail, Go.Lib.toList_data, if_pos rfl, tail_data r _ (by simp [e]), List.map_cons, Go.Lib.join_cons]
    simp
theorem join_len (n : Nat) : ∀ j, (Go.Lib.joinTail [43] ((ws n j).map (·.data.toList))).length ≤ 4 * j
  | 0 => by simp [ws, Go.Lib.joinTail]
  | j + 1 => by
    have h1 := join_len n j
    have h2 := word_len j
    rw [ws]
    split
    · simp only [Go.Lib.joinTail, List.map_cons, List.flatten_cons, List.length_append, List.length_cons, List.length_nil] at h1 ⊢
      omega
    · omega
/-- The text of a polynomial. -/
def txt (n : Nat) : ByteArray := if n = 0 then ⟨#[48]⟩ else tail ⟨#[]⟩ (ws n (bl n))
theorem text_ev (n : Nat) (h : (n : Int) ≤ 2199023255551) : Ev (fun k => spec_poText.f k (n : Int)) (txt n) ∧ Ev (fun k => impl_polyText.f k (n : Int)) (txt n) := by
  unfold txt
  have h41 := bl41 h
  by_cases c : n = 0
  · subst c
    rw [if_pos rfl]
    exact ⟨⟨0, fun k _ => by show spec_poText.f k ((0 : Nat) : Int) = _; unfold spec_poText.f; rw [if_pos (by omega)]⟩, ⟨0, fun k _ => by show impl_polyText.f k ((0 : Nat) : Int) = _; unfold impl_polyText.f; rw [if_pos (by omega)]⟩⟩
  · rw [if_neg c]
    refine ⟨⟨200, fun k hk => ?_⟩, ⟨200, fun k hk => ?_⟩⟩
    · show spec_poText.f k (n : Int) = _
      unfold spec_poText.f
      rw [if_neg (by omega), poDegree_at n (by omega) k (by omega)]
      simp only [Option.bind_some]
      exact spec_l0 n (by omega) (bl n) k ⟨#[]⟩ (by omega) (by omega) (by show 0 + _ ≤ _; omega)
    · show impl_polyText.f k (n : Int) = _
      unfold impl_polyText.f
      rw [if_neg (by omega), degree_at n (by omega)]
      simp only [Option.bind_some]
      rw [impl_l0 n (by omega) (bl n) k [] (by omega) (by omega) (by simp; omega), List.nil_append]
      have hj := tail_join n (bl n)
      have hw := ws_len n (bl n)
      have hl : (Go.Lib.join ((ws n (bl n)).map (·.data.toList)) [43]).length ≤ 1000 := by
        have h1 := join_len n (bl n)
        generalize ws n (bl n) = l at h1 ⊢
        cases l with
        | nil => simp [Go.Lib.join_nil]
        | cons w r =>
          rw [List.map_cons, Go.Lib.join_cons]
          simp only [Go.Lib.joinTail, List.map_cons, List.flatten_cons, List.length_append, List.length_cons, List.length_nil] at h1 ⊢
          omega
      unfold strings_Join.f
      rw [if_pos (by show (Go.Lib.join _ [43]).length ≤ _; omega), if_pos (by omega)]
      simp only [Option.bind_some]
      congr 1
      show (⟨(Go.Lib.join ((ws n (bl n)).map (·.data.toList)) [43]).toArray⟩ : ByteArray) = _
      rw [← hj]
end Go.Proofs.YtigkmdlbijdoaaaGreatDoor.Tx
