/- Texts of polynomials are read back: both sides. -/
import Derived.Test.YtigkmdlbijdoaaaGreatDoorTextZ
import Derived.Lib.SplitLaws
import Derived.Lib.CountLaws
import Derived.Lib.IndexMore
import Derived.Test.YtigkmdlbijdoaaaGreatDoorPx1
import Derived.Test.YtigkmdlbijdoaaaGreatDoorPx3
import Derived.Test.YtigkmdlbijdoaaaGreatDoorPx4
import Derived.Test.YtigkmdlbijdoaaaGreatDoorPx9
namespace Go.Proofs.YtigkmdlbijdoaaaGreatDoor.Ps
open Go.RowKit Go.Proofs.YtigkmdlbijdoaaaGreatDoor.P Go.Proofs.YtigkmdlbijdoaaaGreatDoor.Bt Go.Proofs.YtigkmdlbijdoaaaGreatDoor.Gf Go.Proofs.YtigkmdlbijdoaaaGreatDoor.Pf Go.Proofs.YtigkmdlbijdoaaaGreatDoor.Tx Go.Proofs.YtigkmdlbijdoaaaGreatDoorW.PrintWords Go.Proofs.YtigkmdlbijdoaaaGreatDoorW.PrintLast Go.Proofs.YtigkmdlbijdoaaaGreatDoorW.PrintMore
set_option linter.unusedVariables false
set_option linter.unusedSimpArgs false

/-! ### numbers -/
theorem or_small {p e : Nat} (hp : (p : Int) ≤ 2199023255551) (he : e ≤ 40) : ((p ||| 1 <<< e : Nat) : Int) ≤ 2199023255551 := by
  have h1 : p < 2 ^ 41 := by have : (2 : Nat) ^ 41 = 2199023255552 := rfl; omega
  have h2 : 1 <<< e < 2 ^ 41 := by rw [Nat.shiftLeft_eq, Nat.one_mul]; exact Nat.pow_lt_pow_right (by omega) (by omega)
  have h3 := Nat.or_lt_two_pow h1 h2
  have : (2 : Nat) ^ 41 = 2199023255552 := rfl
  omega
theorem or_val {p e : Nat} (hp : (p : Int) ≤ 2199023255551) (he : e ≤ 40) : Go.bits .or .i64 (p : Int) (shl .i64 1 (e : Int)) = ((p ||| 1 <<< e : Nat) : Int) := by
  have h2 : 1 <<< e < 2 ^ 41 := by rw [Nat.shiftLeft_eq, Nat.one_mul]; exact Nat.pow_lt_pow_right (by omega) (by omega)
  have : (2 : Nat) ^ 41 = 2199023255552 := rfl
  rw [shl_one (by omega), bits_or (by omega) (by omega)]
theorem or_mod (p n j : Nat) : (p ||| 1 <<< j) ||| n % 2 ^ j = p ||| (1 <<< j ||| n % 2 ^ j) := by rw [Nat.or_assoc]
theorem mod_succ (n j : Nat) : n % 2 ^ (j + 1) = if n.testBit j = true then 1 <<< j ||| n % 2 ^ j else n % 2 ^ j := by
  apply Nat.eq_of_testBit_eq
  intro i
  split
  · rename_i h
    rw [Nat.testBit_mod_two_pow, Nat.testBit_or, Nat.shiftLeft_eq, Nat.one_mul, Nat.testBit_two_pow, Nat.testBit_mod_two_pow]
    by_cases e : j = i
    · subst e; simp [h]
    · by_cases c : i < j
      · simp [e, c, show i < j + 1 by omega]
      · simp [e, c, show ¬ i < j + 1 by omega]
  · rename_i h
    rw [Nat.testBit_mod_two_pow, Nat.testBit_mod_two_pow]
    by_cases e : j = i
    · subst e; simp at h; simp [h]
    · by_cases c : i < j
      · simp [c, show i < j + 1 by omega]
      · simp [c, show ¬ i < j + 1 by omega]
/-! ### the program's side -/
theorem step_nat (p : Nat) (hp : (p : Int) ≤ 2199023255551) (x : ByteArray) : stepW (p : Int) x = none ∨ ∃ q : Nat, (q : Int) ≤ 2199023255551 ∧ stepW (p : Int) x = some (q : Int) := by
  unfold stepW
  split
  · exact .inr ⟨p ||| 1 <<< 0, or_small hp (by omega), by rw [← or_val hp (by omega)]; rfl⟩
  · split
    · exact .inr ⟨p ||| 1 <<< 1, or_small hp (by omega), by rw [← or_val hp (by omega)]; rfl⟩
    · split
      · split
        · cases atoiR (x.extract 1 x.size).data.toList with
          | none => exact .inl rfl
          | some v =>
            simp only [Option.bind_some]
            split
            · rename_i h
              obtain ⟨e, rfl⟩ : ∃ e : Nat, v = e := ⟨v.toNat, by omega⟩
              exact .inr ⟨p ||| 1 <<< e, or_small hp (by omega), by rw [or_val hp (by omega)]⟩
            · exact .inl rfl
        · exact .inl rfl
      · exact .inr ⟨p, hp, rfl⟩
theorem parse_nat : ∀ (W : List ByteArray) (p : Nat), (p : Int) ≤ 2199023255551 → parseL W (p : Int) = none ∨ ∃ q : Nat, (q : Int) ≤ 2199023255551 ∧ parseL W (p : Int) = some (q : Int)
  | [], p, hp => .inr ⟨p, hp, rfl⟩
  | x :: W, p, hp => by
    rw [parseL]
    rcases step_nat p hp x with e | ⟨q, hq, e⟩
    · rw [e]; exact .inl rfl
    · rw [e]; simp only [Option.bind_some]; exact parse_nat W q hq
theorem atoi_num : ∀ k : Fin 41, 2 ≤ k.1 → atoiR (num k.1) = some (k.1 : Int) := by decide +kernel
theorem word_two {j : Nat} (h : 2 ≤ j) : word j = ⟨#[120]⟩ ++ ⟨(num j).toArray⟩ := by unfold word; rw [if_neg (by omega), if_neg (by omega)]
theorem word_two_data {j : Nat} (h : 2 ≤ j) : (word j).data.toList = 120 :: num j := by rw [word_two h]; simp
theorem num_some (j : Nat) : ∃ a l, num j = a :: l := by unfold num; split <;> exact ⟨_, _, rfl⟩
theorem ext_word {j : Nat} (h : 2 ≤ j) : (word j).extract 1 (word j).size = ⟨(num j).toArray⟩ := by
  refine Go.WideShapes.bytes_inj ?_
  rw [Go.Lib.extract_to_end, word_two_data h]
  rfl
theorem step_word (p j : Nat) (hp : (p : Int) ≤ 2199023255551) (hj : j ≤ 40) : stepW (p : Int) (word j) = some ((p ||| 1 <<< j : Nat) : Int) := by
  unfold stepW
  rw [Go.Lib.toList_data]
  by_cases c0 : j = 0
  · subst c0
    rw [if_pos (show (word 0).data.toList = [49] from rfl), ← or_val hp (by omega)]; rfl
  · by_cases c1 : j = 1
    · subst c1
      rw [if_neg (by decide), if_pos (show (word 1).data.toList = [120] from rfl), ← or_val hp (by omega)]; rfl
    · have h2 : 2 ≤ j := by omega
      have hs : 1 ≤ (word j).size := by rw [Go.Lib.size_eq, word_two_data h2]; simp
      obtain ⟨a, l, e⟩ := num_some j
      rw [if_neg (by rw [word_two_data h2]; simp), if_neg (by rw [word_two_data h2, e]; simp), if_pos (by rw [word_two_data h2]; rfl), if_pos hs, ext_word h2]
      rw [show (⟨(num j).toArray⟩ : ByteArray).data.toList = num j from rfl, atoi_num ⟨j, by omega⟩ h2]
      simp only [Option.bind_some]
      rw [if_pos (by omega), or_val hp hj]
theorem parse_ws (n : Nat) : ∀ (j p : Nat), j ≤ 41 → (p : Int) ≤ 2199023255551 → parseL (ws n j) (p : Int) = some ((p ||| n % 2 ^ j : Nat) : Int)
  | 0, p, _, _ => by rw [ws, parseL, Nat.pow_zero, Nat.mod_one, Nat.or_zero]
  | j + 1, p, hj, hp => by
    rw [ws, mod_succ]
    split
    · rw [parseL, step_word p j hp (by omega)]
      simp only [Option.bind_some]
      rw [parse_ws n j _ (by omega) (or_small hp (by omega)), or_mod]
    · exact parse_ws n j p (by omega) hp
/-! ### cutting -/
theorem occ_at {s : List UInt8} {i : Nat} (h : Go.Lib.occAt s [43] i = true) : s[i]? = some 43 := Go.Lib.occAt_head (t := []) rfl h
theorem index_word (x r : List UInt8) (hx : 43 ∉ x) : Go.Lib.index (x ++ 43 :: r) [43] = x.length := by
  refine Go.Lib.index_first (by simp) (by unfold Go.Lib.occAt; simp) (fun j hj => ?_)
  by_cases h : Go.Lib.occAt (x ++ 43 :: r) [43] j = true
  · have e := occ_at h
    rw [List.getElem?_append_left hj] at e
    exact absurd (List.mem_of_getElem? e) hx
  · simpa using h
theorem index_last (x : List UInt8) (hx : 43 ∉ x) : Go.Lib.index x [43] = -1 := by
  refine Go.Lib.index_none (fun j _ => ?_)
  by_cases h : Go.Lib.occAt x [43] j = true
  · exact absurd (List.mem_of_getElem? (occ_at h)) hx
  · simpa using h
theorem join_two (w v : List UInt8) (r : List (List UInt8)) : Go.Lib.join (w :: v :: r) [43] = w ++ 43 :: Go.Lib.join (v :: r) [43] := by
  rw [Go.Lib.join_cons, Go.Lib.join_cons]
  simp [Go.Lib.joinTail]
theorem split_join : ∀ (r : List (List UInt8)) (w : List UInt8), (∀ x ∈ w :: r, (43 : UInt8) ∉ x) → Go.Lib.count (Go.Lib.join (w :: r) [43]) [43] = r.length ∧ Go.Lib.splitK [43] 0 r.length (Go.Lib.join (w :: r) [43]) = w :: r
  | [], w, h => by
    rw [Go.Lib.join_one]
    exact ⟨Go.Lib.count_miss (index_last w (h w List.mem_cons_self)), rfl⟩
  | v :: r, w, h => by
    have hw := h w List.mem_cons_self
    obtain ⟨c, s⟩ := split_join r v (fun x hx => h x (List.mem_cons_of_mem _ hx))
    have hi := index_word w (Go.Lib.join (v :: r) [43]) hw
    have hd : (w ++ 43 :: Go.Lib.join (v :: r) [43]).drop (w.length + ([43] : List UInt8).length) = Go.Lib.join (v :: r) [43] := by
      rw [List.drop_append]
      simp
    rw [join_two]
    refine ⟨?_, ?_⟩
    · rw [Go.Lib.count_hit (by simp) hi, hd, c, List.length_cons]; omega
    · rw [List.length_cons, Go.Lib.splitK, if_neg (by rw [hi]; simp), hi, Int.toNat_natCast, hd, s]
      simp
theorem map_inj {xs ys : List ByteArray} (h : xs.map (·.data.toList) = ys.map (·.data.toList)) : xs = ys := by
  induction xs generalizing ys with
  | nil => cases ys with
    | nil => rfl
    | cons y ys => simp at h
  | cons x xs ih => cases ys with
    | nil => simp at h
    | cons y ys =>
      rw [List.map_cons, List.map_cons] at h
      injection h with h1 h2
      rw [Go.WideShapes.bytes_inj h1, ih h2]
theorem words_join (s : ByteArray) (W : List ByteArray) (hW : W ≠ []) (h : ∀ x ∈ W, (43 : UInt8) ∉ x.data.toList) (e : s.data.toList = Go.Lib.join (W.map (·.data.toList)) [43]) : words s = W := by
  cases W with
  | nil => exact absurd rfl hW
  | cons w r =>
    obtain ⟨c, k⟩ := split_join (r.map (·.data.toList)) w.data.toList (fun x hx => by
      rw [← List.map_cons (f := fun b : ByteArray => b.data.toList)] at hx
      obtain ⟨y, hy, rfl⟩ := List.mem_map.1 hx
      exact h y hy)
    rw [List.map_cons] at e
    refine map_inj ?_
    unfold words
    rw [Go.Lib.splitB_data, show Go.Lib.countB s ⟨#[43]⟩ = Go.Lib.count s.data.toList [43] from rfl, e, c]
    exact k
theorem num_plus : ∀ k : Fin 100, (43 : UInt8) ∉ num k.1 := by decide +kernel
theorem word_plus {j : Nat} (h : j < 100) : (43 : UInt8) ∉ (word j).data.toList := by
  by_cases c0 : j = 0
  · subst c0; decide
  · by_cases c1 : j = 1
    · subst c1; decide
    · rw [word_two_data (by omega)]
      have := num_plus ⟨j, h⟩
      simp only [List.mem_cons, not_or]
      exact ⟨by decide, this⟩
theorem ws_mem (n : Nat) : ∀ (j : Nat), ∀ x ∈ ws n j, ∃ i, i < j ∧ x = word i
  | 0, x, h => by cases h
  | j + 1, x, h => by
    rw [ws] at h
    split at h
    · rcases List.mem_cons.1 h with rfl | h
      · exact ⟨j, by omega, rfl⟩
      · obtain ⟨i, hi, e⟩ := ws_mem n j x h; exact ⟨i, by omega, e⟩
    · obtain ⟨i, hi, e⟩ := ws_mem n j x h; exact ⟨i, by omega, e⟩
theorem ws_top {n : Nat} (h : n ≠ 0) : ∃ r, ws n (bl n) = word (bl n - 1) :: r := by
  have hp := bl_pos' h
  obtain ⟨d, hd⟩ : ∃ d, bl n = d + 1 := ⟨bl n - 1, by omega⟩
  have ht : n.testBit d = true := by
    have := top_bit h
    rwa [hd] at this
  rw [hd, ws, if_pos ht]
  exact ⟨_, rfl⟩
theorem mod_bl (n : Nat) : n % 2 ^ bl n = n := Nat.mod_eq_of_lt (bl_le_iff.1 (Nat.le_refl _))
/-- What a side may answer to a text. -/
def Fits (s : ByteArray) (R : Int × Bool) : Prop := R = (0, false) ∨ ∃ n : Nat, (n : Int) ≤ 2199023255551 ∧ R = ((n : Int), true) ∧ (txt n).toList = s.toList
theorem impl_fits (s : ByteArray) (hs : s.size ≤ 1048576) : ∃ R, Fits s R ∧ Ev (fun k => impl_ParsePoly.f k s) R := by
  rcases parse_nat (words s) 0 (by omega) with e | ⟨q, hq, e⟩
  · refine ⟨(0, false), .inl rfl, 0, fun k _ => ?_⟩
    show impl_ParsePoly.f k s = _
    unfold impl_ParsePoly.f impl_parsePoly.f
    rw [if_pos hs, show ((0 : Nat) : Int) = 0 from rfl] at *
    rw [e]; rfl
  · obtain ⟨-, ⟨K, ht⟩⟩ := text_ev q hq
    simp only at ht
    by_cases c : (txt q).toList = s.toList
    · refine ⟨((q : Int), true), .inr ⟨q, hq, rfl, c⟩, K, fun k hk => ?_⟩
      show impl_ParsePoly.f k s = _
      unfold impl_ParsePoly.f impl_parsePoly.f
      rw [if_pos hs, show (0 : Int) = ((0 : Nat) : Int) from rfl, e]
      simp only
      rw [ht k hk]
      simp only [Option.bind_some, c, beq_self_eq_true]
      rfl
    · refine ⟨(0, false), .inl rfl, K, fun k hk => ?_⟩
      show impl_ParsePoly.f k s = _
      unfold impl_ParsePoly.f impl_parsePoly.f
      rw [if_pos hs, show (0 : Int) = ((0 : Nat) : Int) from rfl, e]
      simp only
      rw [ht k hk]
      simp only [Option.bind_some, beq_eq_false_iff_ne.mpr c]
      rfl
/-! ### the reference's side -/
/-- A text cut at each '+', letter for letter. -/
def cutG : List UInt8 → List UInt8 → List (List UInt8)
  | cur, [] => [cur]
  | cur, c :: r => if c = 43 then cur :: cutG [] r else cutG (cur ++ [c]) r
theorem bt_mid (s : ByteArray) (pre r : List UInt8) (c : UInt8) (h : s.data.toList = pre ++ c :: r) : bt s (pre.length : Int) = (c.toNat : Int) := by
  have hl : pre.length < s.size := by rw [Go.Lib.size_eq, h]; simp
  unfold bt
  rw [dif_pos (by omega)]
  have e : s[pre.length]'hl = c := by
    show s.data[pre.length] = c
    rw [← Array.getElem_toList]
    simp [h]
  simp only [Int.toNat_natCast]
  rw [e]
theorem split_l0 (s : ByteArray) (hs : s.size ≤ 1000) : ∀ (rest pre cur : List UInt8) (acc : List ByteArray) (k : Nat), s.data.toList = pre ++ cur ++ rest → rest.length < k → acc.length + rest.length ≤ 100000 →
    spec_l1Split.l0 k s 43 acc (pre.length : Int) ((pre ++ cur).length : Int) = some (acc ++ (cutG cur rest).map (fun l => (⟨l.toArray⟩ : ByteArray)))
  | [], pre, cur, acc, k, h, hk, ha => by
    obtain ⟨k, rfl⟩ : ∃ m, k = m + 1 := ⟨k - 1, by simp at hk; omega⟩
    have hz : s.size = (pre ++ cur).length := by rw [Go.Lib.size_eq, h]; simp
    have hz2 := hz
    rw [List.length_append] at hz2
    rw [spec_l1Split.l0, if_neg (by omega), if_pos (by omega), if_pos (by omega), if_pos (by simp at ha; omega)]
    have e : s.extract (pre.length : Int).toNat s.size = ⟨cur.toArray⟩ := by
      refine Go.WideShapes.bytes_inj ?_
      rw [Int.toNat_natCast, Go.Lib.extract_to_end, h]
      simp
    rw [e]
    rfl
  | c :: r, pre, cur, acc, k, h, hk, ha => by
    obtain ⟨k, rfl⟩ : ∃ m, k = m + 1 := ⟨k - 1, by simp at hk; omega⟩
    have hz : s.size = (pre ++ cur).length + (r.length + 1) := by rw [Go.Lib.size_eq, h]; simp; omega
    have hz2 := hz
    rw [List.length_append] at hz2
    simp only [List.length_cons] at hk ha
    rw [spec_l1Split.l0, if_pos (by omega), if_pos (by omega), bt_mid s (pre ++ cur) r c h, wrap_id (by omega) (by omega)]
    by_cases hc : c = 43
    · subst hc
      have ih := split_l0 s hs r (pre ++ cur ++ [43]) [] (acc ++ [⟨cur.toArray⟩]) k (by rw [h]; simp) (by omega) (by simp; omega)
      have e : s.extract (pre.length : Int).toNat ((pre ++ cur).length : Int).toNat = ⟨cur.toArray⟩ := by
        refine Go.WideShapes.bytes_inj ?_
        rw [Int.toNat_natCast, Int.toNat_natCast, Go.Lib.extract_data, h]
        simp
      rw [if_pos (by decide), if_pos (by omega), if_pos (by rw [List.length_append]; omega), if_pos (by omega), if_pos (by omega), e, cutG, if_pos rfl]
      rw [List.append_nil] at ih
      rw [show (((pre ++ cur).length : Nat) : Int) + 1 = ((pre ++ cur ++ [43]).length : Int) by simp [List.length_append]; omega, ih]
      simp
    · have ih := split_l0 s hs r pre (cur ++ [c]) acc k (by rw [h]; simp) (by omega) (by omega)
      have hne : ¬ ((c.toNat : Int) = 43) := fun e => hc (by
        have : c.toNat = 43 := by omega
        exact UInt8.toNat_inj.1 this)
      rw [if_neg hne, cutG, if_neg hc, show (((pre ++ cur).length : Nat) : Int) + 1 = ((pre ++ (cur ++ [c])).length : Int) by simp [List.length_append]; omega, ih]
theorem split_ev (s : ByteArray) (hs : s.size ≤ 1000) : Ev (fun k => spec_l1Split.f k s 43) ((cutG [] s.data.toList).map (fun l => (⟨l.toArray⟩ : ByteArray))) := by
  refine ⟨1001, fun k hk => ?_⟩
  have hl : s.data.toList.length = s.size := (Go.Lib.size_eq s).symm
  have := split_l0 s hs s.data.toList [] [] [] k rfl (by omega) (by simp; omega)
  rw [List.nil_append] at this
  exact this
theorem cutG_len : ∀ (l cur : List UInt8), (cutG cur l).length ≤ l.length + 1
  | [], cur => by simp [cutG]
  | c :: r, cur => by
    rw [cutG]
    split
    · have := cutG_len r []; simp only [List.length_cons]; omega
    · have := cutG_len r (cur ++ [c]); simp only [List.length_cons]; omega
theorem cutG_size : ∀ (l cur : List UInt8), ∀ x ∈ cutG cur l, x.length ≤ cur.length + l.length
  | [], cur, x, h => by rw [cutG, List.mem_singleton] at h; rw [h]; simp
  | c :: r, cur, x, h => by
    rw [cutG] at h
    split at h
    · rcases List.mem_cons.1 h with rfl | h
      · simp
      · have := cutG_size r [] x h; simp at this ⊢; omega
    · have := cutG_size r (cur ++ [c]) x h; simp at this ⊢; omega
theorem cutG_word : ∀ (x cur r : List UInt8), (43 : UInt8) ∉ x → cutG cur (x ++ 43 :: r) = (cur ++ x) :: cutG [] r
  | [], cur, r, _ => by simp [cutG]
  | c :: x, cur, r, h => by
    simp only [List.mem_cons, not_or] at h
    rw [List.cons_append, cutG, if_neg (fun e => h.1 e.symm), cutG_word x (cur ++ [c]) r h.2]
    simp
theorem cutG_last : ∀ (x cur : List UInt8), (43 : UInt8) ∉ x → cutG cur x = [cur ++ x]
  | [], cur, _ => by simp [cutG]
  | c :: x, cur, h => by
    simp only [List.mem_cons, not_or] at h
    rw [cutG, if_neg (fun e => h.1 e.symm), cutG_last x (cur ++ [c]) h.2]
    simp
theorem cutG_join : ∀ (r : List (List UInt8)) (w : List UInt8), (∀ x ∈ w :: r, (43 : UInt8) ∉ x) → cutG [] (Go.Lib.join (w :: r) [43]) = w :: r
  | [], w, h => by rw [Go.Lib.join_one, cutG_last w [] (h w List.mem_cons_self)]; rfl
  | v :: r, w, h => by
    rw [join_two, cutG_word w [] _ (h w List.mem_cons_self), cutG_join r v (fun x hx => h x (List.mem_cons_of_mem _ hx))]
    rfl
theorem read_l0 (x : ByteArray) (hx : x.size ≤ 1000) : ∀ (d i k : Nat) (v : Int), x.size - i = d → i ≤ x.size → d < k → ∃ r, ∀ k', k ≤ k' → spec_l1Read.l0 k' x v (i : Int) = some r
  | 0, i, k, v, hd, hi, hk => ⟨v, fun k' hk' => by
    obtain ⟨k', rfl⟩ : ∃ m, k' = m + 1 := ⟨k' - 1, by omega⟩
    rw [spec_l1Read.l0, if_neg (by omega)]⟩
  | d + 1, i, k, v, hd, hi, hk => by
    obtain ⟨r, hr⟩ := read_l0 x hx d (i + 1) (k - 1) (wrap64 ((wrap64 (10 * v)) + (((bt x (i : Int)) - 48) % 256))) (by omega) (by omega) (by omega)
    by_cases c1 : bt x (i : Int) < 48
    · exact ⟨-1, fun k' hk' => by
        obtain ⟨k', rfl⟩ : ∃ m, k' = m + 1 := ⟨k' - 1, by omega⟩
        rw [spec_l1Read.l0, if_pos (by omega), if_pos (by omega), if_pos c1]⟩
    · by_cases c2 : bt x (i : Int) > 57
      · exact ⟨-1, fun k' hk' => by
          obtain ⟨k', rfl⟩ : ∃ m, k' = m + 1 := ⟨k' - 1, by omega⟩
          rw [spec_l1Read.l0, if_pos (by omega), if_pos (by omega), if_neg c1, if_pos c2]⟩
      · exact ⟨r, fun k' hk' => by
          obtain ⟨k', rfl⟩ : ∃ m, k' = m + 1 := ⟨k' - 1, by omega⟩
          rw [spec_l1Read.l0, if_pos (by omega), if_pos (by omega), if_neg c1, if_neg c2, wrap_id (x := (i : Int) + 1) (by omega) (by omega)]
          have := hr k' (by omega)
          exact this⟩
theorem read_j0 (x : ByteArray) (hx : x.size ≤ 1000) (b : Bool) : ∃ r, Ev (fun k => spec_l1Read.j0 k x b) r := by
  cases b with
  | true => exact ⟨-1, 1, fun k hk => by
      obtain ⟨k, rfl⟩ : ∃ m, k = m + 1 := ⟨k - 1, by omega⟩
      show spec_l1Read.j0 (k + 1) x true = _
      rw [spec_l1Read.j0, if_pos rfl]⟩
  | false =>
    obtain ⟨r, hr⟩ := read_l0 x hx x.size 0 (x.size + 1) 0 (by omega) (by omega) (by omega)
    exact ⟨r, x.size + 2, fun k hk => by
      obtain ⟨k, rfl⟩ : ∃ m, k = m + 1 := ⟨k - 1, by omega⟩
      show spec_l1Read.j0 (k + 1) x false = _
      rw [spec_l1Read.j0, if_neg (by decide)]
      exact hr k (by omega)⟩
theorem read_ev (x : ByteArray) (hx : x.size ≤ 1000) : ∃ r, Ev (fun k => spec_l1Read.f k x) r := by
  unfold spec_l1Read.f
  rw [l1In_at]
  simp only [Option.bind_some]
  by_cases c : (decide ((1 : Int) ≤ (x.size : Int)) && decide ((x.size : Int) ≤ 6)) = true
  · have c0 : (1 : Int) ≤ (x.size : Int) := by simp at c; omega
    simp only [if_pos c, if_pos (show (0 : Int) < (x.size : Int) by omega)]
    by_cases e : bt x 0 = 48
    · simp only [if_pos e]; exact read_j0 x hx _
    · simp only [if_neg e]; exact read_j0 x hx _
  · simp only [if_neg c]; exact read_j0 x hx _
theorem read_num : ∀ k : Fin 41, 2 ≤ k.1 → spec_l1Read.f 12 ⟨(num k.1).toArray⟩ = some (k.1 : Int) := by decide +kernel
theorem read_at {j : Nat} (h : 2 ≤ j) (h2 : j ≤ 40) : ∀ k, 12 ≤ k → spec_l1Read.f k ⟨(num j).toArray⟩ = some (j : Int) := by
  intro k hk
  obtain ⟨d, rfl⟩ : ∃ d, k = 12 + d := ⟨k - 12, by omega⟩
  clear hk
  induction d with
  | zero => exact read_num ⟨j, by omega⟩ h
  | succ d ih => exact spec_l1Read.mono _ _ _ ih
theorem fin_ev (s : ByteArray) (p : Nat) (hp : (p : Int) ≤ 2199023255551) : ∃ R, Fits s R ∧ ((txt p).toList = s.toList → R = ((p : Int), true)) ∧ Ev (fun k => (spec_poText.f k (p : Int)).bind fun t => if t.toList = s.toList then some ((p : Int), true) else some (0, false)) R := by
  obtain ⟨⟨K, ht⟩, -⟩ := text_ev p hp
  simp only at ht
  by_cases c : (txt p).toList = s.toList
  · exact ⟨((p : Int), true), .inr ⟨p, hp, rfl, c⟩, fun _ => rfl, K, fun k hk => by
      show (spec_poText.f k (p : Int)).bind _ = _
      rw [ht k hk]
      simp only [Option.bind_some]
      rw [if_pos c]⟩
  · exact ⟨(0, false), .inl rfl, fun h => absurd h c, K, fun k hk => by
      show (spec_poText.f k (p : Int)).bind _ = _
      rw [ht k hk]
      simp only [Option.bind_some]
      rw [if_neg c]⟩
theorem ev_one {α : Type} {f : Nat → Option α} {a b : α} (ha : Ev f a) (hb : Ev f b) : a = b := by
  obtain ⟨K, h⟩ := ha
  obtain ⟨L, g⟩ := hb
  have h1 := h (K + L) (by omega)
  have g1 := g (K + L) (by omega)
  rw [h1] at g1
  exact Option.some.inj g1
theorem rd_at (W : List ByteArray) (i : Nat) (hi : i < W.length) : rdOf ByteArray.empty W (i : Int) = W[i] := by simp [rdOf, hi]
theorem word0_list : (word 0).toList = [49] := by rw [Go.Lib.toList_data]; rfl
theorem word1_list : (word 1).toList = [120] := by rw [Go.Lib.toList_data]; rfl
theorem word_49 {j : Nat} (h : (word j).toList = [49]) : j = 0 := by
  rw [Go.Lib.toList_data] at h
  by_cases c0 : j = 0
  · exact c0
  · by_cases c1 : j = 1
    · subst c1; exact absurd h (by decide)
    · rw [word_two_data (by omega)] at h; simp at h
theorem word_120 {j : Nat} (h : (word j).toList = [120]) : j = 1 := by
  rw [Go.Lib.toList_data] at h
  by_cases c0 : j = 0
  · subst c0; exact absurd h (by decide)
  · by_cases c1 : j = 1
    · exact c1
    · obtain ⟨a, l, e⟩ := num_some j
      rw [word_two_data (by omega), e] at h; simp at h
theorem j1_false (k : Nat) (s : ByteArray) (p : Int) (x : ByteArray) (W : List ByteArray) (n i : Int) : spec_ParsePoly.j1 (k + 1) s p x (-1) W n i false = some (0, false) := by
  rw [spec_ParsePoly.j1, if_neg (by decide), l1In_at]
  simp
theorem sp_step (s : ByteArray) (W : List ByteArray) (hW : ∀ x ∈ W, x.size ≤ 1000) (hl : W.length ≤ 2000) (i : Nat) (hi : i < W.length) : ∃ o : Option Nat, (∀ e, o = some e → e ≤ 40) ∧ (∀ j, j ≤ 40 → W[i] = word j → o = some j) ∧ ∀ p : Nat, (p : Int) ≤ 2199023255551 →
    (o = none → Ev (fun k => spec_ParsePoly.l0 k s (p : Int) W (W.length : Int) (i : Int)) (0, false)) ∧
    (∀ e, o = some e → ∀ R, Ev (fun k => spec_ParsePoly.l0 k s ((p ||| 1 <<< e : Nat) : Int) W (W.length : Int) ((i + 1 : Nat) : Int)) R → Ev (fun k => spec_ParsePoly.l0 k s (p : Int) W (W.length : Int) (i : Int)) R) := by
  have hr := rd_at W i hi
  have hw : wrap64 ((i : Int) + 1) = ((i + 1 : Nat) : Int) := by rw [wrap_id (by omega) (by omega)]; omega
  obtain ⟨x, hx⟩ : ∃ x, x = W[i] := ⟨_, rfl⟩
  have hxs := hW W[i] (List.getElem_mem hi)
  rw [← hx] at hr hxs
  rw [← hx]
  by_cases c1 : x.toList = [49]
  · refine ⟨some 0, fun e h => (by injection h with h; omega), fun j _ h => (by rw [h] at c1; rw [word_49 c1]), fun p hp => ⟨fun h => (by cases h), fun e h R hR => ?_⟩⟩
    injection h with h
    subst h
    obtain ⟨K, hK⟩ := hR
    refine ⟨K + 1, fun k hk => ?_⟩
    obtain ⟨k, rfl⟩ : ∃ m, k = m + 1 := ⟨k - 1, by omega⟩
    show spec_ParsePoly.l0 (k + 1) s (p : Int) W (W.length : Int) (i : Int) = _
    rw [spec_ParsePoly.l0, if_pos (by omega), if_pos (by omega), if_pos (by omega), hr, if_pos c1, l1In_at, hw]
    simp only [Option.bind_some]
    rw [if_pos (by decide), show Go.bits .or .i64 (p : Int) 1 = ((p ||| 1 <<< 0 : Nat) : Int) by rw [← or_val hp (by omega)]; rfl]
    exact hK k (by omega)
  · by_cases c2 : x.toList = [120]
    · refine ⟨some 1, fun e h => (by injection h with h; omega), fun j _ h => (by rw [h] at c2; rw [word_120 c2]), fun p hp => ⟨fun h => (by cases h), fun e h R hR => ?_⟩⟩
      injection h with h
      subst h
      obtain ⟨K, hK⟩ := hR
      refine ⟨K + 1, fun k hk => ?_⟩
      obtain ⟨k, rfl⟩ : ∃ m, k = m + 1 := ⟨k - 1, by omega⟩
      show spec_ParsePoly.l0 (k + 1) s (p : Int) W (W.length : Int) (i : Int) = _
      rw [spec_ParsePoly.l0, if_pos (by omega), if_pos (by omega), if_pos (by omega), hr, if_neg c1, if_pos c2, l1In_at, hw]
      simp only [Option.bind_some]
      rw [if_pos (by decide), show Go.bits .or .i64 (p : Int) (1 * 2) = ((p ||| 1 <<< 1 : Nat) : Int) by rw [← or_val hp (by omega)]; rfl]
      exact hK k (by omega)
    · by_cases c3 : (x.size : Int) > 1
      · by_cases c4 : bt x 0 = 120
        · have hxe : (x.extract 1 x.size).size ≤ 1000 := by rw [ByteArray.size_extract]; omega
          obtain ⟨v, hv⟩ := read_ev (x.extract 1 x.size) hxe
          have enter : ∀ (p : Nat) (k : Nat), spec_ParsePoly.l0 (k + 2) s (p : Int) W (W.length : Int) (i : Int) = (spec_l1Read.f k (x.extract 1 x.size)).bind fun t175 => ((spec_l1In.f t175 0 40).bind fun t176 => (if t176 = true then (if 0 ≤ t175 then (spec_ParsePoly.l0 k s (Go.bits .or .i64 (p : Int) (shl .i64 1 t175)) W (W.length : Int) ((i + 1 : Nat) : Int)) else (none)) else (some (0, false)))) := fun p k => by
            rw [spec_ParsePoly.l0, if_pos (by omega), if_pos (by omega), if_pos (by omega), hr, if_neg c1, if_neg c2, if_pos c3, if_pos (by omega), c4, spec_ParsePoly.j1, if_pos (by decide), if_pos (by omega), hw]
          by_cases c5 : 0 ≤ v ∧ v ≤ 40
          · obtain ⟨e, rfl⟩ : ∃ e : Nat, v = e := ⟨v.toNat, by omega⟩
            refine ⟨some e, fun e' h => (by injection h with h; omega), fun j hj h => ?_, fun p hp => ⟨fun h => (by cases h), fun e' h R hR => ?_⟩⟩
            · have h2 : 2 ≤ j := by
                by_cases q0 : j = 0
                · subst q0; rw [h] at c1; exact absurd word0_list c1
                · by_cases q1 : j = 1
                  · subst q1; rw [h] at c2; exact absurd word1_list c2
                  · omega
              rw [h, ext_word h2] at hv
              have := ev_one hv ⟨12, fun k hk => read_at h2 hj k hk⟩
              congr 1; omega
            · injection h with h
              subst h
              obtain ⟨K, hK⟩ := hR
              obtain ⟨L, hL⟩ := hv
              refine ⟨K + L + 2, fun k hk => ?_⟩
              obtain ⟨k, rfl⟩ : ∃ m, k = m + 2 := ⟨k - 2, by omega⟩
              show spec_ParsePoly.l0 (k + 2) s (p : Int) W (W.length : Int) (i : Int) = _
              rw [enter, show spec_l1Read.f k (x.extract 1 x.size) = _ from hL k (by omega)]
              simp only [Option.bind_some]
              rw [l1In_at]
              simp only [Option.bind_some]
              rw [if_pos (by simp; omega), if_pos (by omega), or_val hp (by omega)]
              exact hK k (by omega)
          · refine ⟨none, fun e' h => (by cases h), fun j hj h => ?_, fun p hp => ⟨fun _ => ?_, fun e' h => by cases h⟩⟩
            · exfalso
              have h2 : 2 ≤ j := by
                by_cases q0 : j = 0
                · subst q0; rw [h] at c1; exact absurd word0_list c1
                · by_cases q1 : j = 1
                  · subst q1; rw [h] at c2; exact absurd word1_list c2
                  · omega
              rw [h, ext_word h2] at hv
              have := ev_one hv ⟨12, fun k hk => read_at h2 hj k hk⟩
              omega
            · obtain ⟨L, hL⟩ := hv
              refine ⟨L + 2, fun k hk => ?_⟩
              obtain ⟨k, rfl⟩ : ∃ m, k = m + 2 := ⟨k - 2, by omega⟩
              show spec_ParsePoly.l0 (k + 2) s (p : Int) W (W.length : Int) (i : Int) = _
              rw [enter, show spec_l1Read.f k (x.extract 1 x.size) = _ from hL k (by omega)]
              simp only [Option.bind_some]
              rw [l1In_at]
              simp only [Option.bind_some]
              rw [if_neg (by simp; omega)]
        · refine ⟨none, fun e' h => (by cases h), fun j hj h => ?_, fun p hp => ⟨fun _ => ?_, fun e' h => by cases h⟩⟩
          · exfalso
            have h2 : 2 ≤ j := by
              by_cases q0 : j = 0
              · subst q0; rw [h] at c1; exact absurd word0_list c1
              · by_cases q1 : j = 1
                · subst q1; rw [h] at c2; exact absurd word1_list c2
                · omega
            have := bt_mid x [] (num j) 120 (by rw [h]; exact word_two_data h2)
            exact c4 this
          · refine ⟨2, fun k hk => ?_⟩
            obtain ⟨k, rfl⟩ : ∃ m, k = m + 2 := ⟨k - 2, by omega⟩
            show spec_ParsePoly.l0 (k + 2) s (p : Int) W (W.length : Int) (i : Int) = _
            rw [spec_ParsePoly.l0, if_pos (by omega), if_pos (by omega), if_pos (by omega), hr, if_neg c1, if_neg c2, if_pos c3, if_pos (by omega), beq_eq_false_iff_ne.mpr c4, j1_false]
      · refine ⟨none, fun e' h => (by cases h), fun j hj h => ?_, fun p hp => ⟨fun _ => ?_, fun e' h => by cases h⟩⟩
        · exfalso
          have h2 : 2 ≤ j := by
            by_cases q0 : j = 0
            · subst q0; rw [h] at c1; exact absurd word0_list c1
            · by_cases q1 : j = 1
              · subst q1; rw [h] at c2; exact absurd word1_list c2
              · omega
          obtain ⟨a, l, e⟩ := num_some j
          have : x.size = (word j).data.toList.length := by rw [h]; exact Go.Lib.size_eq _
          rw [word_two_data h2, e] at this
          simp only [List.length_cons] at this
          omega
        · refine ⟨2, fun k hk => ?_⟩
          obtain ⟨k, rfl⟩ : ∃ m, k = m + 2 := ⟨k - 2, by omega⟩
          show spec_ParsePoly.l0 (k + 2) s (p : Int) W (W.length : Int) (i : Int) = _
          rw [spec_ParsePoly.l0, if_pos (by omega), if_pos (by omega), if_pos (by omega), hr, if_neg c1, if_neg c2, if_neg c3, j1_false]
theorem sp_end (s : ByteArray) (W : List ByteArray) (p : Nat) (R : Int × Bool) (h : Ev (fun k => (spec_poText.f k (p : Int)).bind fun t => if t.toList = s.toList then some ((p : Int), true) else some (0, false)) R) : Ev (fun k => spec_ParsePoly.l0 k s (p : Int) W (W.length : Int) (W.length : Int)) R := by
  obtain ⟨K, hK⟩ := h
  refine ⟨K + 1, fun k hk => ?_⟩
  obtain ⟨k, rfl⟩ : ∃ m, k = m + 1 := ⟨k - 1, by omega⟩
  show spec_ParsePoly.l0 (k + 1) s (p : Int) W (W.length : Int) (W.length : Int) = _
  rw [spec_ParsePoly.l0, if_neg (by omega)]
  exact hK k (by omega)
theorem sp_any (s : ByteArray) (W : List ByteArray) (hW : ∀ x ∈ W, x.size ≤ 1000) (hl : W.length ≤ 2000) : ∀ (d i p : Nat), W.length - i = d → i ≤ W.length → (p : Int) ≤ 2199023255551 → ∃ R, Fits s R ∧ Ev (fun k => spec_ParsePoly.l0 k s (p : Int) W (W.length : Int) (i : Int)) R
  | 0, i, p, hd, hi, hp => by
    obtain rfl : i = W.length := by omega
    obtain ⟨R, hf, -, hR⟩ := fin_ev s p hp
    exact ⟨R, hf, sp_end s W p R hR⟩
  | d + 1, i, p, hd, hi, hp => by
    obtain ⟨o, h1, -, h3⟩ := sp_step s W hW hl i (by omega)
    obtain ⟨a, b⟩ := h3 p hp
    cases o with
    | none => exact ⟨_, .inl rfl, a rfl⟩
    | some e =>
      obtain ⟨R, hf, hR⟩ := sp_any s W hW hl d (i + 1) (p ||| 1 <<< e) (by omega) (by omega) (or_small hp (h1 e rfl))
      exact ⟨R, hf, b e rfl R hR⟩
theorem sp_ws (s : ByteArray) (W : List ByteArray) (hW : ∀ x ∈ W, x.size ≤ 1000) (hl : W.length ≤ 2000) (n : Nat) : ∀ (j i p : Nat), W.drop i = ws n j → j ≤ 41 → i ≤ W.length → (p : Int) ≤ 2199023255551 → ∀ R, Ev (fun k => spec_ParsePoly.l0 k s ((p ||| n % 2 ^ j : Nat) : Int) W (W.length : Int) (W.length : Int)) R → Ev (fun k => spec_ParsePoly.l0 k s (p : Int) W (W.length : Int) (i : Int)) R
  | 0, i, p, hd, _, hi, hp, R, hR => by
    rw [ws] at hd
    have : W.length ≤ i := by have := congrArg List.length hd; simp at this; omega
    obtain rfl : i = W.length := by omega
    rw [Nat.pow_zero, Nat.mod_one, Nat.or_zero] at hR
    exact hR
  | j + 1, i, p, hd, hj, hi, hp, R, hR => by
    rw [ws] at hd
    rw [mod_succ] at hR
    by_cases c : n.testBit j = true
    · rw [if_pos c] at hd hR
      have hlt : i < W.length := by
        have := congrArg List.length hd
        simp at this; omega
      rw [List.drop_eq_getElem_cons hlt] at hd
      injection hd with e1 e2
      obtain ⟨o, h1, h2, h3⟩ := sp_step s W hW hl i hlt
      have ho := h2 j (by omega) e1
      subst ho
      obtain ⟨-, b⟩ := h3 p hp
      refine b j rfl R (sp_ws s W hW hl n j (i + 1) (p ||| 1 <<< j) e2 (by omega) (by omega) (or_small hp (by omega)) R ?_)
      rw [or_mod]
      exact hR
    · rw [if_neg c] at hd hR
      exact sp_ws s W hW hl n j i p hd (by omega) hi hp R hR
theorem spec_fits (s : ByteArray) : ∃ R, (R = ((0 : Int), true) ∧ s.toList = [48] ∨ Fits s R) ∧ Ev (fun k => spec_ParsePoly.f k s) R := by
  by_cases c : s.toList = [48]
  · exact ⟨_, .inl ⟨rfl, c⟩, 0, fun k _ => by show spec_ParsePoly.f k s = _; unfold spec_ParsePoly.f; rw [if_pos c]⟩
  · by_cases c2 : (s.size : Int) > 300
    · exact ⟨(0, false), .inr (.inl rfl), 0, fun k _ => by show spec_ParsePoly.f k s = _; unfold spec_ParsePoly.f; rw [if_neg c, if_pos c2]⟩
    · obtain ⟨K, hK⟩ := split_ev s (by omega)
      simp only at hK
      have hsz := Go.Lib.size_eq s
      obtain ⟨R, hf, L, hL⟩ := sp_any s ((cutG [] s.data.toList).map (fun l => (⟨l.toArray⟩ : ByteArray))) (fun x hx => by
        obtain ⟨l, hl, rfl⟩ := List.mem_map.1 hx
        have := cutG_size _ _ l hl
        rw [Go.Lib.size_eq]
        simp at this ⊢
        omega) (by rw [List.length_map]; have := cutG_len s.data.toList []; omega) _ 0 0 rfl (Nat.zero_le _) (by omega)
      simp only at hL
      refine ⟨R, .inr hf, K + L, fun k hk => ?_⟩
      show spec_ParsePoly.f k s = _
      unfold spec_ParsePoly.f
      rw [if_neg c, if_neg c2, hK k (by omega)]
      simp only [Option.bind_some]
      exact hL k (by omega)
theorem txt_data {n : Nat} (h : n ≠ 0) : (txt n).data.toList = Go.Lib.join ((ws n (bl n)).map (·.data.toList)) [43] := by
  unfold txt; rw [if_neg h]; exact tail_join n (bl n)
theorem ws_plus (n : Nat) (h : bl n ≤ 41) : ∀ x ∈ ws n (bl n), (43 : UInt8) ∉ x.data.toList := fun x hx => by
  obtain ⟨i, hi, rfl⟩ := ws_mem n (bl n) x hx
  exact word_plus (by omega)
theorem back_map (W : List ByteArray) : (W.map (·.data.toList)).map (fun l => (⟨l.toArray⟩ : ByteArray)) = W := by
  rw [List.map_map]
  conv => rhs; rw [← List.map_id W]
  refine List.map_congr_left (fun x _ => ?_)
  exact Go.WideShapes.bytes_inj (by simp)
theorem txt_size {n : Nat} (hn : n ≠ 0) (h : bl n ≤ 41) : (txt n).size ≤ 200 := by
  rw [Go.Lib.size_eq, txt_data hn]
  have h1 := join_len n (bl n)
  generalize ws n (bl n) = l at h1 ⊢
  cases l with
  | nil => simp [Go.Lib.join_nil]
  | cons w r =>
    rw [List.map_cons, Go.Lib.join_cons]
    simp only [Go.Lib.joinTail, List.map_cons, List.flatten_cons, List.length_append, List.length_cons, List.length_nil] at h1 ⊢
    omega
theorem txt_both (n : Nat) (hn : (n : Int) ≤ 2199023255551) : Ev (fun k => spec_ParsePoly.f k (txt n)) ((n : Int), true) ∧ Ev (fun k => impl_ParsePoly.f k (txt n)) ((n : Int), true) := by
  have h41 := bl41 hn
  obtain ⟨⟨K1, t1⟩, ⟨K2, t2⟩⟩ := text_ev n hn
  simp only at t1 t2
  have fin : ∀ (hs : (txt n).size ≤ 1048576), parseL (words (txt n)) 0 = some (n : Int) → Ev (fun k => impl_ParsePoly.f k (txt n)) ((n : Int), true) := fun hs e => by
    refine ⟨K2, fun k hk => ?_⟩
    show impl_ParsePoly.f k (txt n) = _
    unfold impl_ParsePoly.f impl_parsePoly.f
    rw [if_pos hs, e]
    simp only
    rw [t2 k hk]
    simp only [Option.bind_some, beq_self_eq_true]
    rfl
  by_cases c : n = 0
  · subst c
    have e : txt 0 = ⟨#[48]⟩ := rfl
    refine ⟨⟨0, fun k _ => ?_⟩, fin (by rw [e]; decide) ?_⟩
    · show spec_ParsePoly.f k (txt 0) = _
      unfold spec_ParsePoly.f
      rw [e, if_pos (by rw [Go.Lib.toList_data])]
      rfl
    · rw [words_join (txt 0) [⟨#[48]⟩] (by simp) (by intro x hx; rw [List.mem_singleton.1 hx]; decide) (by rw [e, List.map_cons, List.map_nil, Go.Lib.join_one])]
      rw [parseL, stepW, Go.Lib.toList_data]
      rfl
  · obtain ⟨r, hr⟩ := ws_top c
    have hd := txt_data c
    have hz := txt_size c h41
    have hnn : ws n (bl n) ≠ [] := by rw [hr]; simp
    have hp0 : ((0 : Nat) : Int) ≤ 2199023255551 := by omega
    have hcut : (cutG [] (txt n).data.toList).map (fun l => (⟨l.toArray⟩ : ByteArray)) = ws n (bl n) := by
      rw [hd]
      have hpl := ws_plus n h41
      rw [hr] at hpl ⊢
      rw [List.map_cons, cutG_join, ← List.map_cons (f := fun b : ByteArray => b.data.toList), back_map]
      intro x hx
      rw [← List.map_cons (f := fun b : ByteArray => b.data.toList)] at hx
      obtain ⟨y, hy, rfl⟩ := List.mem_map.1 hx
      exact hpl y hy
    refine ⟨?_, fin (by omega) ?_⟩
    · obtain ⟨K3, s3⟩ := split_ev (txt n) (by omega)
      simp only at s3
      rw [hcut] at s3
      have hwl := ws_len n (bl n)
      obtain ⟨R, -, hR, hE⟩ := fin_ev (txt n) n hn
      obtain rfl := hR rfl
      have hE2 := sp_end (txt n) (ws n (bl n)) n _ hE
      obtain ⟨K4, s4⟩ := sp_ws (txt n) (ws n (bl n)) (fun x hx => by
        obtain ⟨i, hi, rfl⟩ := ws_mem n (bl n) x hx
        have := word_len i
        rw [Go.Lib.size_eq]; omega) (by omega) n (bl n) 0 0 (by rw [List.drop_zero]) h41 (Nat.zero_le _) hp0 _ (by rw [Nat.zero_or, mod_bl]; exact hE2)
      simp only at s4
      refine ⟨K3 + K4, fun k hk => ?_⟩
      show spec_ParsePoly.f k (txt n) = _
      unfold spec_ParsePoly.f
      rw [if_neg ?_, if_neg (by omega), s3 k (by omega)]
      · simp only [Option.bind_some]
        exact s4 k (by omega)
      · intro h
        rw [Go.Lib.toList_data, hd, hr, List.map_cons, Go.Lib.join_cons] at h
        have hw : ∀ j, (word j).data.toList ≠ [] ∧ (word j).data.toList.head? ≠ some 48 := fun j => by
          by_cases q0 : j = 0
          · subst q0; decide
          · by_cases q1 : j = 1
            · subst q1; decide
            · rw [word_two_data (by omega)]; simp
        obtain ⟨a, l, e⟩ := word_some (bl n - 1)
        have := (hw (bl n - 1)).2
        rw [e] at h this
        simp at h this
        exact this h.1
    · rw [words_join (txt n) (ws n (bl n)) hnn (ws_plus n h41) hd, show (0 : Int) = ((0 : Nat) : Int) from rfl, parse_ws n (bl n) 0 h41 hp0, Nat.zero_or, mod_bl]
theorem both (s : ByteArray) (hs : s.size ≤ 1048576) : ∃ R, Fits s R ∧ Ev (fun k => spec_ParsePoly.f k s) R ∧ Ev (fun k => impl_ParsePoly.f k s) R := by
  by_cases h : ∃ n : Nat, (n : Int) ≤ 2199023255551 ∧ (txt n).toList = s.toList
  · obtain ⟨n, hn, e⟩ := h
    obtain rfl : txt n = s := Go.WideShapes.bytes_inj (by rw [← Go.Lib.toList_data, ← Go.Lib.toList_data, e])
    exact ⟨_, .inr ⟨n, hn, rfl, rfl⟩, (txt_both n hn).1, (txt_both n hn).2⟩
  · obtain ⟨R1, f1, e1⟩ := spec_fits s
    obtain ⟨R2, f2, e2⟩ := impl_fits s hs
    have g : ∀ R, Fits s R → R = (0, false) := fun R f => by
      rcases f with f | ⟨n, hn, _, f⟩
      · exact f
      · exact absurd ⟨n, hn, f⟩ h
    have g1 : R1 = (0, false) := by
      rcases f1 with ⟨_, f⟩ | f
      · exact absurd ⟨0, by omega, by rw [f, Go.Lib.toList_data]; rfl⟩ h
      · exact g R1 f
    subst g1
    obtain rfl := g R2 f2
    exact ⟨_, .inl rfl, e1, e2⟩
end Go.Proofs.YtigkmdlbijdoaaaGreatDoor.Ps
