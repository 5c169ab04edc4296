/- The machine's words on bits, at natural numbers below 2^63. How many bits are set: the trick of the machine's library, at every number of 16 bits. Small words: what stays when it is wrapped, and a row read at a place. Graphs as lists of rows: the words. What the program's 'is it a graph' answers. 'All are from lo to hi.' What 'is it a graph' answers on both sides. Counting. -/
import Derived.Test.YtdpdmhjmmpncoaaPoly
import Derived.Test.YtdpdmhjmmpncoaaWMore
import Derived.Lib.BitFns
import Derived.Test.YtdpdmhjmmpncoaaPx1
import Derived.Test.YtdpdmhjmmpncoaaPx17
namespace Go.Proofs.Ytdpdmhjmmpncoaa.Bt
open Go.RowKit Go.Proofs.YtdpdmhjmmpncoaaW.PrintWords Go.Proofs.YtdpdmhjmmpncoaaW.PrintLast Go.Proofs.YtdpdmhjmmpncoaaW.PrintMore
set_option linter.unusedVariables false
set_option linter.unusedSimpArgs false

theorem wrap_id {x : Int} (h0 : -9223372036854775808 ≤ x) (h : x < 9223372036854775808) : wrap64 x = x := by unfold wrap64; omega
theorem wrap_nat {n : Nat} (h : n < 9223372036854775808) : wrap64 (n : Int) = n := wrap_id (by omega) (by omega)
theorem ofInt_nat {a : Nat} (h : a < 9223372036854775808) : (BitVec.ofInt 64 (a : Int)).toNat = a := by
  rw [BitVec.toNat_ofInt]; omega
theorem bits_xor {a b : Nat} (ha : a < 9223372036854775808) (hb : b < 9223372036854775808) : Go.bits .xor .i64 (a : Int) (b : Int) = ((a ^^^ b : Nat) : Int) := by
  have h : a ^^^ b < 2 ^ 63 := Nat.xor_lt_two_pow (by simpa using ha) (by simpa using hb)
  show IntKind.i64.wrap ((BitVec.ofInt 64 (a : Int) ^^^ BitVec.ofInt 64 (b : Int)).toNat : Int) = _
  rw [BitVec.toNat_xor, ofInt_nat ha, ofInt_nat hb, i64_w, wrap_nat (by simpa using h)]
theorem bits_or {a b : Nat} (ha : a < 9223372036854775808) (hb : b < 9223372036854775808) : Go.bits .or .i64 (a : Int) (b : Int) = ((a ||| b : Nat) : Int) := by
  have h : a ||| b < 2 ^ 63 := Nat.or_lt_two_pow (by simpa using ha) (by simpa using hb)
  show IntKind.i64.wrap ((BitVec.ofInt 64 (a : Int) ||| BitVec.ofInt 64 (b : Int)).toNat : Int) = _
  rw [BitVec.toNat_or, ofInt_nat ha, ofInt_nat hb, i64_w, wrap_nat (by simpa using h)]
theorem bits_and {a b : Nat} (ha : a < 9223372036854775808) (hb : b < 9223372036854775808) : Go.bits .and .i64 (a : Int) (b : Int) = ((a &&& b : Nat) : Int) := by
  have h : a &&& b < 2 ^ 63 := Nat.and_lt_two_pow _ (by simpa using hb)
  show IntKind.i64.wrap ((BitVec.ofInt 64 (a : Int) &&& BitVec.ofInt 64 (b : Int)).toNat : Int) = _
  rw [BitVec.toNat_and, ofInt_nat ha, ofInt_nat hb, i64_w, wrap_nat (by simpa using h)]
theorem shl_nat {a n : Nat} (hn : n ≤ 64) (h : a * 2 ^ n < 9223372036854775808) : shl .i64 (a : Int) (n : Int) = ((a <<< n : Nat) : Int) := by
  unfold shl
  rw [i64_w, Nat.shiftLeft_eq, Int.toNat_natCast, Nat.min_eq_left (by simpa [IntKind.bits] using hn)]
  have e : (a : Int) * 2 ^ n = ((a * 2 ^ n : Nat) : Int) := by simp
  rw [e, wrap_nat h]
theorem shr_nat {a n : Nat} (ha : a < 9223372036854775808) : shr .i64 (a : Int) (n : Int) = ((a >>> n : Nat) : Int) := by
  unfold shr
  rw [Nat.shiftRight_eq_div_pow, Int.toNat_natCast]
  have e : ∀ m : Nat, (a : Int) / 2 ^ m = ((a / 2 ^ m : Nat) : Int) := fun m => by simp
  rw [e]
  congr 1
  show a / 2 ^ min n 64 = _
  rcases Nat.lt_or_ge 64 n with h | h
  · rw [Nat.min_eq_right (by omega), Nat.div_eq_of_lt (by omega), Nat.div_eq_of_lt]
    exact Nat.lt_of_lt_of_le (show a < 2 ^ 64 by omega) (Nat.pow_le_pow_right (by omega) (by omega))
  · rw [Nat.min_eq_left h]
theorem tmod_two (n : Nat) : Int.tmod (n : Int) 2 = ((n % 2 : Nat) : Int) := by rw [Int.tmod_eq_emod_of_nonneg (by omega)]; omega
theorem tdiv_two (n : Nat) : Int.tdiv (n : Int) 2 = ((n / 2 : Nat) : Int) := by rw [Int.tdiv_eq_ediv_of_nonneg (by omega)]; omega
theorem grIn_val {s i : Nat} (hs : s < 9223372036854775808) : ((Int.tmod (shr .i64 (s : Int) (i : Int)) 2) == 1) = s.testBit i := by
  rw [shr_nat hs, tmod_two, Nat.testBit_eq_decide_div_mod_eq, Nat.shiftRight_eq_div_pow, Bool.eq_iff_iff, beq_iff_eq, decide_eq_true_iff]
  omega
theorem has_val {s i : Nat} (hs : s < 9223372036854775808) : ((Go.bits .and .i64 (shr .i64 (s : Int) (i : Int)) 1) == 1) = s.testBit i := by
  have h1 : s >>> i < 9223372036854775808 := by
    rw [Nat.shiftRight_eq_div_pow]
    exact Nat.lt_of_le_of_lt (Nat.div_le_self _ _) hs
  rw [shr_nat hs, show (1 : Int) = ((1 : Nat) : Int) from rfl, bits_and h1 (by omega), Nat.and_one_is_mod, Nat.testBit_eq_decide_div_mod_eq, Nat.shiftRight_eq_div_pow, Bool.eq_iff_iff, beq_iff_eq, decide_eq_true_iff]
  omega
theorem bitLen_bl (n : Nat) (h : n < 18446744073709551616) : Go.Lib.bitLen n = Gf.bl n := by
  have key : ∀ f x, x < 2 ^ f → Go.Lib.bitLenAux f x = Gf.bl x := by
    intro f
    induction f with
    | zero => intro x hx; have : x = 0 := by omega
              subst this; rfl
    | succ f ih =>
      intro x hx
      rw [Go.Lib.bitLenAux]
      split
      · rename_i h0; subst h0; rfl
      · rename_i h0
        rw [ih (x / 2) (by rw [Nat.pow_succ] at hx; omega), Gf.bl_half h0]; omega
  exact key 64 n h
end Go.Proofs.Ytdpdmhjmmpncoaa.Bt

namespace Go.Proofs.Ytdpdmhjmmpncoaa.Gr
set_option linter.unusedVariables false
set_option linter.unusedSimpArgs false
/-- How many bits are set, of the lowest 16. -/
def pc (n : Nat) : Nat := Go.Lib.popAux 16 n
def trick (n : Nat) : Nat :=
  let a := (n / 2 &&& 6148914691236517205) + (n &&& 6148914691236517205)
  let b := (a / 4 &&& 3689348814741910323) + (a &&& 3689348814741910323)
  let c := (b / 16 + b) &&& 1085102592571150095
  let d := c + c / 256
  let e := d + d / 65536
  let f := e + e / 4294967296
  f &&& 127
def chk : Nat → Nat → Bool
  | 0, a => Nat.beq (trick a) (pc a)
  | l + 1, a => chk l (2 * a) && chk l (2 * a + 1)
theorem chk_at : ∀ (l a : Nat), chk l a = true → ∀ n, a * 2 ^ l ≤ n → n < (a + 1) * 2 ^ l → trick n = pc n := by
  intro l
  induction l with
  | zero =>
    intro a h n h1 h2
    have : n = a := by simp at h1 h2; omega
    subst this
    exact Nat.eq_of_beq_eq_true h
  | succ l ih =>
    intro a h n h1 h2
    simp only [chk, Bool.and_eq_true] at h
    have e1 : a * 2 ^ (l + 1) = 2 * a * 2 ^ l := by rw [Nat.pow_succ, Nat.mul_comm (2 ^ l) 2, ← Nat.mul_assoc, Nat.mul_comm a 2]
    have e2 : (a + 1) * 2 ^ (l + 1) = 2 * a * 2 ^ l + 2 * 2 ^ l := by rw [Nat.add_mul, e1, Nat.one_mul, Nat.pow_succ, Nat.mul_comm (2 ^ l) 2]
    have e3 : (2 * a + 1) * 2 ^ l = 2 * a * 2 ^ l + 2 ^ l := by rw [Nat.add_mul, Nat.one_mul]
    have e4 : (2 * a + 1 + 1) * 2 ^ l = 2 * a * 2 ^ l + 2 * 2 ^ l := by rw [Nat.add_assoc, Nat.add_mul]
    rcases Nat.lt_or_ge n ((2 * a + 1) * 2 ^ l) with c | c
    · exact ih (2 * a) h.1 n (by omega) c
    · exact ih (2 * a + 1) h.2 n c (by omega)
theorem chk0 : chk 11 0 = true := by decide +kernel
theorem chk1 : chk 11 1 = true := by decide +kernel
theorem chk2 : chk 11 2 = true := by decide +kernel
theorem chk3 : chk 11 3 = true := by decide +kernel
theorem chk4 : chk 11 4 = true := by decide +kernel
theorem chk5 : chk 11 5 = true := by decide +kernel
theorem chk6 : chk 11 6 = true := by decide +kernel
theorem chk7 : chk 11 7 = true := by decide +kernel
theorem chk8 : chk 11 8 = true := by decide +kernel
theorem chk9 : chk 11 9 = true := by decide +kernel
theorem chk10 : chk 11 10 = true := by decide +kernel
theorem chk11 : chk 11 11 = true := by decide +kernel
theorem chk12 : chk 11 12 = true := by decide +kernel
theorem chk13 : chk 11 13 = true := by decide +kernel
theorem chk14 : chk 11 14 = true := by decide +kernel
theorem chk15 : chk 11 15 = true := by decide +kernel
theorem chk16 : chk 11 16 = true := by decide +kernel
theorem chk17 : chk 11 17 = true := by decide +kernel
theorem chk18 : chk 11 18 = true := by decide +kernel
theorem chk19 : chk 11 19 = true := by decide +kernel
theorem chk20 : chk 11 20 = true := by decide +kernel
theorem chk21 : chk 11 21 = true := by decide +kernel
theorem chk22 : chk 11 22 = true := by decide +kernel
theorem chk23 : chk 11 23 = true := by decide +kernel
theorem chk24 : chk 11 24 = true := by decide +kernel
theorem chk25 : chk 11 25 = true := by decide +kernel
theorem chk26 : chk 11 26 = true := by decide +kernel
theorem chk27 : chk 11 27 = true := by decide +kernel
theorem chk28 : chk 11 28 = true := by decide +kernel
theorem chk29 : chk 11 29 = true := by decide +kernel
theorem chk30 : chk 11 30 = true := by decide +kernel
theorem chk31 : chk 11 31 = true := by decide +kernel
theorem trick_at {n : Nat} (h : n < 65536) : trick n = pc n := by
  obtain ⟨q, hq⟩ : ∃ q, q = n / 2048 := ⟨_, rfl⟩
  have h1 : q < 32 := by omega
  have h2 : q * 2 ^ 11 ≤ n := by omega
  have h3 : n < (q + 1) * 2 ^ 11 := by omega
  have h4 : chk 11 q = true := by
    have : q = 0 ∨ q = 1 ∨ q = 2 ∨ q = 3 ∨ q = 4 ∨ q = 5 ∨ q = 6 ∨ q = 7 ∨ q = 8 ∨ q = 9 ∨ q = 10 ∨ q = 11 ∨ q = 12 ∨ q = 13 ∨ q = 14 ∨ q = 15 ∨ q = 16 ∨ q = 17 ∨ q = 18 ∨ q = 19 ∨ q = 20 ∨ q = 21 ∨ q = 22 ∨ q = 23 ∨ q = 24 ∨ q = 25 ∨ q = 26 ∨ q = 27 ∨ q = 28 ∨ q = 29 ∨ q = 30 ∨ q = 31 := by omega
    rcases this with rfl | rfl | rfl | rfl | rfl | rfl | rfl | rfl | rfl | rfl | rfl | rfl | rfl | rfl | rfl | rfl | rfl | rfl | rfl | rfl | rfl | rfl | rfl | rfl | rfl | rfl | rfl | rfl | rfl | rfl | rfl | rfl
    · exact chk0
    · exact chk1
    · exact chk2
    · exact chk3
    · exact chk4
    · exact chk5
    · exact chk6
    · exact chk7
    · exact chk8
    · exact chk9
    · exact chk10
    · exact chk11
    · exact chk12
    · exact chk13
    · exact chk14
    · exact chk15
    · exact chk16
    · exact chk17
    · exact chk18
    · exact chk19
    · exact chk20
    · exact chk21
    · exact chk22
    · exact chk23
    · exact chk24
    · exact chk25
    · exact chk26
    · exact chk27
    · exact chk28
    · exact chk29
    · exact chk30
    · exact chk31
  exact chk_at 11 q h4 n h2 h3
theorem pc_le (n : Nat) : pc n ≤ 16 := by
  have : ∀ f m, Go.Lib.popAux f m ≤ f := fun f => by
    induction f with
    | zero => intro m; exact Nat.le_refl _
    | succ f ih => intro m; rw [Go.Lib.popAux]; have := ih (m / 2); omega
  exact this 16 n
end Go.Proofs.Ytdpdmhjmmpncoaa.Gr

namespace Go.Proofs.Ytdpdmhjmmpncoaa.Lw
set_option linter.unusedVariables false
set_option linter.unusedSimpArgs false
open Go.RowKit Go.Proofs.YtdpdmhjmmpncoaaW.PrintWords Go.Proofs.YtdpdmhjmmpncoaaW.PrintLast Go.Proofs.YtdpdmhjmmpncoaaW.PrintMore
theorem wrap_id {x : Int} (h0 : -9223372036854775808 ≤ x) (h : x < 9223372036854775808) : wrap64 x = x := by unfold wrap64; omega
theorem rd_nat (l : List Int) (i : Nat) : rd l (i : Int) = l.getD i 0 := by simp [rd]
end Go.Proofs.Ytdpdmhjmmpncoaa.Lw

namespace Go.Proofs.Ytdpdmhjmmpncoaa.Gr
open Go.RowKit Go.Proofs.Ytdpdmhjmmpncoaa.P Go.Proofs.Ytdpdmhjmmpncoaa.Bt Go.Proofs.Ytdpdmhjmmpncoaa.Lw Go.Proofs.YtdpdmhjmmpncoaaW.PrintWords Go.Proofs.YtdpdmhjmmpncoaaW.PrintLast Go.Proofs.YtdpdmhjmmpncoaaW.PrintMore
set_option linter.unusedVariables false
set_option linter.unusedSimpArgs false

theorem Ev.succ {α : Type} {f g : Nat → Option α} {r : α} (h : Ev g r) (K : Nat) (hs : ∀ k, K ≤ k → f (k + 1) = g k) : Ev f r := by
  obtain ⟨K1, h1⟩ := h
  refine ⟨K + K1 + 1, fun k hk => ?_⟩
  obtain ⟨k, rfl⟩ : ∃ m, k = m + 1 := ⟨k - 1, by omega⟩
  rw [hs k (by omega)]
  exact h1 k (by omega)
theorem Ev.konst {α : Type} {f : Nat → Option α} {r : α} (K : Nat) (hs : ∀ k, K ≤ k → f k = some r) : Ev f r := ⟨K, hs⟩
theorem Ev.unique {α : Type} {f : Nat → Option α} {r q : α} (h : Ev f r) (h' : Ev f q) : r = q := by
  obtain ⟨K, a⟩ := h
  obtain ⟨K', b⟩ := h'
  have h1 := a (K + K') (by omega)
  rw [b (K + K') (by omega)] at h1
  exact (Option.some.inj h1).symm

/-- The neighbours of i, as a natural number. -/
def nr (l : List Int) (i : Nat) : Nat := (l.getD i 0).toNat
/-- No loop, and whoever is a neighbour has one. -/
def OkE (l : List Int) (i j : Nat) : Prop := (nr l i).testBit j = true → i ≠ j ∧ (nr l j).testBit i = true
def Rng (l : List Int) : Prop := ∀ i, i < l.length → 0 ≤ l.getD i 0 ∧ l.getD i 0 < 2 ^ l.length
def Good (l : List Int) : Prop := 1 ≤ l.length ∧ l.length ≤ 16 ∧ Rng l ∧ ∀ i, i < l.length → ∀ j, j < l.length → OkE l i j
theorem pow16 {n : Nat} (h : n ≤ 16) : (2 : Nat) ^ n ≤ 65536 := Nat.le_trans (Nat.pow_le_pow_right (by omega) h) (by decide)
theorem nr_cast {l : List Int} (h : Rng l) {i : Nat} (hi : i < l.length) : l.getD i 0 = (nr l i : Int) := by
  have := (h i hi).1
  unfold nr; omega
theorem nr_lt {l : List Int} (h : Rng l) {i : Nat} (hi : i < l.length) : nr l i < 2 ^ l.length := by
  have := h i hi
  have e : ((2 ^ l.length : Nat) : Int) = (2 : Int) ^ l.length := by simp
  unfold nr; omega
theorem nr_small {l : List Int} (hl : l.length ≤ 16) (h : Rng l) {i : Nat} (hi : i < l.length) : nr l i < 65536 := Nat.lt_of_lt_of_le (nr_lt h hi) (pow16 hl)
theorem grIn_nat (s i : Nat) (hs : s < 9223372036854775808) : spec_grIn.f (s : Int) (i : Int) = some (s.testBit i) := by
  unfold spec_grIn.f; rw [if_pos (by omega), grIn_val hs]
theorem has_nat (s i : Nat) (hs : s < 9223372036854775808) : impl_has.f (s : Int) (i : Int) = some (s.testBit i) := by
  unfold impl_has.f; rw [if_pos (by omega), has_val hs]
theorem in_nat (a b c : Int) : impl_in.f a b c = some (decide (b ≤ a) && decide (a ≤ c)) := by
  unfold impl_in.f
  by_cases h : b ≤ a
  · rw [if_pos h]; simp [h]
  · rw [if_neg h]; simp [h]
theorem shl1 {n : Nat} (h : n ≤ 16) : wrap64 (shl .i64 1 (n : Int) - 1) = ((2 ^ n - 1 : Nat) : Int) := by
  have h2 := pow16 h
  have h3 := Nat.two_pow_pos n
  rw [show (1 : Int) = ((1 : Nat) : Int) from rfl, shl_nat (by omega) (by omega), Nat.shiftLeft_eq, Nat.one_mul, Bt.wrap_id (by omega) (by omega)]
  omega
theorem whole_nat {n : Nat} (h : n ≤ 16) : impl_whole.f (n : Int) = some ((2 ^ n - 1 : Nat) : Int) := by
  unfold impl_whole.f
  rw [if_pos (by omega), shl1 h]
theorem step1 {i : Nat} (h : i ≤ 1000) : wrap64 ((i : Int) + 1) = ((i + 1 : Nat) : Int) := by rw [Bt.wrap_id (by omega) (by omega)]; omega

end Go.Proofs.Ytdpdmhjmmpncoaa.Gr

namespace Go.Proofs.Ytdpdmhjmmpncoaa.Gr
open Go.RowKit Go.Proofs.Ytdpdmhjmmpncoaa.P Go.Proofs.Ytdpdmhjmmpncoaa.Bt Go.Proofs.Ytdpdmhjmmpncoaa.Lw Go.Proofs.YtdpdmhjmmpncoaaW.PrintWords Go.Proofs.YtdpdmhjmmpncoaaW.PrintLast Go.Proofs.YtdpdmhjmmpncoaaW.PrintMore
set_option linter.unusedVariables false
set_option linter.unusedSimpArgs false

/-- The program's side: the ranges are asked one by one, and each pair once. -/
def Im (l : List Int) (i : Nat) : Prop := 0 ≤ l.getD i 0 ∧ l.getD i 0 < 2 ^ l.length ∧ (nr l i).testBit i = false ∧ ∀ j, j < i → (nr l i).testBit j = (nr l j).testBit i
theorem isGraph_l0 (l : List Int) (own : Bool) (hl : l.length ≤ 16) : ∀ (d i : Nat), l.length - i = d → i ≤ l.length → (∀ i', i' < i → 0 ≤ l.getD i' 0 ∧ l.getD i' 0 < 2 ^ l.length) →
    ∃ b : Bool, Ev (fun k => impl_isGraph.l0 k (l.length : Int) l (l.length : Int) (i : Int) l own) b ∧ (b = true ↔ ∀ i', i ≤ i' → i' < l.length → Im l i') := by
  have hp := pow16 hl
  have ep : ((2 ^ l.length : Nat) : Int) = (2 : Int) ^ l.length := by simp
  have hp0 := Nat.two_pow_pos l.length
  intro d
  induction d with
  | zero =>
    intro i hd hi _
    refine ⟨true, Ev.konst 1 fun k hk => ?_, ⟨fun _ i' h1 h2 => by omega, fun _ => rfl⟩⟩
    obtain ⟨k, rfl⟩ : ∃ m, k = m + 1 := ⟨k - 1, by omega⟩
    rw [impl_isGraph.l0, if_neg (by omega)]
  | succ d ih =>
    intro i hd hi hpre
    by_cases hri : 0 ≤ l.getD i 0 ∧ l.getD i 0 < 2 ^ l.length
    · obtain ⟨b0, e0, h0⟩ := ih (i + 1) (by omega) (by omega) (fun i' h => by
        by_cases e : i' = i
        · subst e; exact hri
        · exact hpre i' (by omega))
      have hcast : ∀ j, j ≤ i → rd l (j : Int) = (nr l j : Int) ∧ nr l j < 65536 := by
        intro j hj
        have : 0 ≤ l.getD j 0 ∧ l.getD j 0 < 2 ^ l.length := by
          by_cases e : j = i
          · subst e; exact hri
          · exact hpre j (by omega)
        rw [rd_nat]
        unfold nr
        omega
      obtain ⟨hc, hs⟩ := hcast i (Nat.le_refl _)
      have hin : impl_in.f (rd l (i : Int)) 0 (((2 ^ l.length - 1 : Nat)) : Int) = some true := by
        rw [in_nat, rd_nat]
        congr 1
        simp only [Bool.and_eq_true, decide_eq_true_eq]
        omega
      by_cases hb : (nr l i).testBit i = true
      · refine ⟨false, Ev.konst 2 fun k hk => ?_, ⟨fun h => (by cases h), fun h => by have := (h i (Nat.le_refl _) (by omega)).2.2.1; rw [hb] at this; cases this⟩⟩
        obtain ⟨k, rfl⟩ : ∃ m, k = m + 2 := ⟨k - 2, by omega⟩
        rw [impl_isGraph.l0, if_pos (by omega), if_pos (by omega), if_pos (by omega), whole_nat hl]
        simp only [Option.bind_some]
        rw [hin]
        simp only [Option.bind_some, if_true]
        rw [hc, has_nat _ _ (by omega), hb]
        simp only [Option.bind_some]
        rw [impl_isGraph.j1, if_pos rfl]
      · have inner : ∀ (e j : Nat), i - j = e → j ≤ i →
            ∃ b : Bool, Ev (fun k => impl_isGraph.l1 k (l.length : Int) (i : Int) (rd l (i : Int)) l (l.length : Int) (i : Int) (i : Int) (j : Int) l own) b ∧ (b = true ↔ (∀ j', j ≤ j' → j' < i → (nr l i).testBit j' = (nr l j').testBit i) ∧ b0 = true) := by
          intro e
          induction e with
          | zero =>
            intro j hj1 hj2
            refine ⟨b0, Ev.succ e0 0 fun k _ => ?_, ⟨fun h => ⟨fun j' h1 h2 => by omega, h⟩, fun h => h.2⟩⟩
            rw [impl_isGraph.l1, if_neg (by omega), step1 (by omega)]
          | succ e ihe =>
            intro j hj1 hj2
            obtain ⟨b1, e1, h1⟩ := ihe (j + 1) (by omega) (by omega)
            obtain ⟨hcj, hsj⟩ := hcast j hj2
            have red : ∀ k, impl_isGraph.l1 (k + 1) (l.length : Int) (i : Int) (rd l (i : Int)) l (l.length : Int) (i : Int) (i : Int) (j : Int) l own =
                if ((nr l i).testBit j != (nr l j).testBit i) = true then some false else impl_isGraph.l1 k (l.length : Int) (i : Int) (rd l (i : Int)) l (l.length : Int) (i : Int) (i : Int) ((j + 1 : Nat) : Int) l own := by
              intro k
              have a1 : impl_has.f (rd l (i : Int)) (j : Int) = some ((nr l i).testBit j) := by rw [hc, has_nat _ _ (by omega)]
              have a2 : impl_has.f (rd l (j : Int)) (i : Int) = some ((nr l j).testBit i) := by rw [hcj, has_nat _ _ (by omega)]
              rw [impl_isGraph.l1, if_pos (by omega), a1]
              simp only [Option.bind_some]
              rw [if_pos (by omega), if_pos (by omega), a2]
              simp only [Option.bind_some]
              rw [step1 (by omega)]
            by_cases hq : (nr l i).testBit j = (nr l j).testBit i
            · refine ⟨b1, Ev.succ e1 0 fun k _ => ?_, ?_⟩
              · rw [red, if_neg (by simp [hq])]
              · rw [h1]
                constructor
                · rintro ⟨h2, h3⟩
                  refine ⟨fun j' h4 h5 => ?_, h3⟩
                  by_cases e : j' = j
                  · subst e; exact hq
                  · exact h2 j' (by omega) h5
                · rintro ⟨h2, h3⟩
                  exact ⟨fun j' h4 h5 => h2 j' (by omega) h5, h3⟩
            · refine ⟨false, Ev.konst 1 fun k hk => ?_, ⟨fun h => (by cases h), fun h => absurd (h.1 j (Nat.le_refl _) (by omega)) hq⟩⟩
              obtain ⟨k, rfl⟩ : ∃ m, k = m + 1 := ⟨k - 1, by omega⟩
              rw [red, if_pos (by simp [hq])]
        obtain ⟨b, eb, hbb⟩ := inner i 0 (by omega) (by omega)
        have eb2 : Ev (fun k => impl_isGraph.j1 k (l.length : Int) (i : Int) (rd l (i : Int)) l (l.length : Int) (i : Int) false l own) b := Ev.succ eb 0 fun k _ => by
          rw [impl_isGraph.j1, if_neg (by simp)]
          rfl
        refine ⟨b, Ev.succ eb2 0 fun k _ => ?_, ?_⟩
        · have a1 : impl_has.f (rd l (i : Int)) (i : Int) = some false := by rw [hc, has_nat _ _ (by omega), Bool.eq_false_iff.mpr hb]
          rw [impl_isGraph.l0, if_pos (by omega), if_pos (by omega), if_pos (by omega), whole_nat hl]
          simp only [Option.bind_some]
          rw [hin]
          simp only [Option.bind_some, if_true]
          rw [a1]
          rfl
        · rw [hbb, h0]
          constructor
          · rintro ⟨h1, h2⟩ i' h3 h4
            by_cases e : i' = i
            · subst e; exact ⟨hri.1, hri.2, Bool.eq_false_iff.mpr hb, fun j hj => h1 j (Nat.zero_le _) hj⟩
            · exact h2 i' (by omega) h4
          · intro h
            exact ⟨fun j' _ h2 => (h i (Nat.le_refl _) (by omega)).2.2.2 j' h2, fun i' h1 h2 => h i' (by omega) h2⟩
    · refine ⟨false, Ev.konst 2 fun k hk => ?_, ⟨fun h => (by cases h), fun h => absurd ⟨(h i (Nat.le_refl _) (by omega)).1, (h i (Nat.le_refl _) (by omega)).2.1⟩ hri⟩⟩
      obtain ⟨k, rfl⟩ : ∃ m, k = m + 2 := ⟨k - 2, by omega⟩
      have hin : impl_in.f (rd l (i : Int)) 0 (((2 ^ l.length - 1 : Nat)) : Int) = some false := by
        rw [in_nat, rd_nat]
        congr 1
        rw [Bool.eq_false_iff]
        simp only [ne_eq, Bool.and_eq_true, decide_eq_true_eq]
        omega
      rw [impl_isGraph.l0, if_pos (by omega), if_pos (by omega), if_pos (by omega), whole_nat hl]
      simp only [Option.bind_some]
      rw [hin]
      simp only [Option.bind_some]
      rw [if_neg (by simp), impl_isGraph.j1, if_pos rfl]
theorem size_impl (l : List Int) : impl_isCount.f (l.length : Int) = some (decide (1 ≤ (l.length : Int)) && decide ((l.length : Int) ≤ 16)) := by
  unfold impl_isCount.f; rw [in_nat]; rfl
/-- The program says of a list whether it is a graph. -/
theorem good_impl (l : List Int) (own : Bool) : ∃ b : Bool, (b = true ↔ Good l) ∧ Ev (fun k => impl_isGraph.f k l own) b := by
  by_cases c : (decide (1 ≤ (l.length : Int)) && decide ((l.length : Int) ≤ 16)) = true
  · have hc := c
    simp only [Bool.and_eq_true, decide_eq_true_eq] at hc
    have hl : l.length ≤ 16 := by omega
    obtain ⟨b2, e2, h2⟩ := isGraph_l0 l own hl l.length 0 (by omega) (by omega) (fun i' h => by omega)
    refine ⟨b2, ?_, ?_⟩
    · rw [h2]
      constructor
      · intro h
        have hr : Rng l := fun i hi => ⟨(h i (Nat.zero_le _) hi).1, (h i (Nat.zero_le _) hi).2.1⟩
        refine ⟨by omega, hl, hr, fun i hi j hj hb => ?_⟩
        have h3 := (h i (Nat.zero_le _) hi).2.2
        have h4 := (h j (Nat.zero_le _) hj).2.2
        have hne : i ≠ j := fun e => by subst e; rw [h3.1] at hb; cases hb
        refine ⟨hne, ?_⟩
        rcases Nat.lt_or_ge i j with h5 | h5
        · rw [h4.2 i h5]; exact hb
        · rw [← h3.2 j (by omega)]; exact hb
      · rintro ⟨g1, g2, g3, g4⟩ i _ hi
        refine ⟨(g3 i hi).1, (g3 i hi).2, ?_, fun j hj => ?_⟩
        · rw [Bool.eq_false_iff]; intro hb; exact (g4 i hi i hi hb).1 rfl
        · rw [Bool.eq_iff_iff]
          exact ⟨fun hb => (g4 i hi j (by omega) hb).2, fun hb => (g4 j (by omega) i hi hb).2⟩
    · obtain ⟨K, h⟩ := e2
      refine ⟨K, fun k hk => ?_⟩
      show impl_isGraph.f k l own = _
      unfold impl_isGraph.f
      rw [size_impl, c]
      exact h k hk
  · refine ⟨false, ⟨fun h => (by cases h), fun h => absurd (by simp only [Bool.and_eq_true, decide_eq_true_eq]; have := h.1; have := h.2.1; omega) c⟩, ⟨0, fun k _ => ?_⟩⟩
    show impl_isGraph.f k l own = _
    unfold impl_isGraph.f
    rw [size_impl, Bool.eq_false_iff.mpr c]
    rfl
end Go.Proofs.Ytdpdmhjmmpncoaa.Gr

namespace Go.Proofs.Ytdpdmhjmmpncoaa.Lw
open Go.RowKit Go.Proofs.Ytdpdmhjmmpncoaa.P Go.Proofs.YtdpdmhjmmpncoaaW.PrintWords Go.Proofs.YtdpdmhjmmpncoaaW.PrintLast Go.Proofs.YtdpdmhjmmpncoaaW.PrintMore
set_option linter.unusedVariables false
set_option linter.unusedSimpArgs false
theorem l1In_val (a b c : Int) : spec_l1In.f a b c = some (decide (b ≤ a) && decide (a ≤ c)) := by
  unfold spec_l1In.f
  by_cases h : b ≤ a
  · rw [if_pos h]; simp [h]
  · rw [if_neg h]; simp [h]
theorem all_step (p : Int → Bool) (l : List Int) (i : Nat) (h : i < l.length) : (l.drop i).all p = (p (l.getD i 0) && (l.drop (i + 1)).all p) := by
  rw [List.drop_eq_getElem_cons h, List.all_cons, List.getD_eq_getElem?_getD, List.getElem?_eq_getElem h]
  rfl
theorem l1All_l0 (l : List Int) (lo hi : Int) (hl : l.length ≤ 4611686018427387904) : ∀ (d i k : Nat), l.length - i = d → i ≤ l.length → d < k →
    spec_l1All.l0 k lo hi l (l.length : Int) (i : Int) = some ((l.drop i).all fun x => decide (lo ≤ x) && decide (x ≤ hi)) := by
  intro d
  induction d with
  | zero =>
    intro i k hd hi' hk
    obtain ⟨k, rfl⟩ : ∃ m, k = m + 1 := ⟨k - 1, by omega⟩
    have : i = l.length := by omega
    subst this
    rw [spec_l1All.l0, if_neg (by omega)]
    simp
  | succ d ih =>
    intro i k hd hi' hk
    obtain ⟨k, rfl⟩ : ∃ m, k = m + 1 := ⟨k - 1, by omega⟩
    rw [spec_l1All.l0, if_pos (by omega), if_pos (by omega), if_pos (by omega), l1In_val, rd_nat, all_step _ l i (by omega)]
    simp only [Option.bind_some]
    cases hq : (decide (lo ≤ l.getD i 0) && decide (l.getD i 0 ≤ hi)) with
    | true =>
      rw [if_pos rfl, wrap_id (by omega) (by omega), show ((i : Int) + 1) = ((i + 1 : Nat) : Int) from by omega, Bool.true_and]
      exact ih (i + 1) k (by omega) (by omega) (by omega)
    | false => rw [if_neg (by simp), Bool.false_and]
theorem l1All_at (l : List Int) (lo hi : Int) (hl : l.length ≤ 4611686018427387904) (k : Nat) (hk : l.length < k) : spec_l1All.f k l lo hi = some (l.all fun x => decide (lo ≤ x) && decide (x ≤ hi)) := by
  unfold spec_l1All.f
  have := l1All_l0 l lo hi hl l.length 0 k (by omega) (by omega) hk
  simpa using this
end Go.Proofs.Ytdpdmhjmmpncoaa.Lw

namespace Go.Proofs.Ytdpdmhjmmpncoaa.Gr
open Go.RowKit Go.Proofs.Ytdpdmhjmmpncoaa.P Go.Proofs.Ytdpdmhjmmpncoaa.Bt Go.Proofs.Ytdpdmhjmmpncoaa.Lw Go.Proofs.YtdpdmhjmmpncoaaW.PrintWords Go.Proofs.YtdpdmhjmmpncoaaW.PrintLast Go.Proofs.YtdpdmhjmmpncoaaW.PrintMore
set_option linter.unusedVariables false
set_option linter.unusedSimpArgs false

section
variable (l : List Int) (own : Bool) (hl : l.length ≤ 16) (hr : Rng l)
include hl hr
theorem grGood_l0 : ∀ (d i : Nat), l.length - i = d → i ≤ l.length →
    ∃ b : Bool, Ev (fun k => spec_grGood.l0 k l (l.length : Int) (i : Int) l own) b ∧ (b = true ↔ ∀ i', i ≤ i' → i' < l.length → ∀ j, j < l.length → OkE l i' j) := by
  intro d
  induction d with
  | zero =>
    intro i hd hi
    refine ⟨true, Ev.konst 1 fun k hk => ?_, ⟨fun _ i' h1 h2 => by omega, fun _ => rfl⟩⟩
    obtain ⟨k, rfl⟩ : ∃ m, k = m + 1 := ⟨k - 1, by omega⟩
    rw [spec_grGood.l0, if_neg (by omega)]
  | succ d ih =>
    intro i hd hi
    obtain ⟨b0, e0, h0⟩ := ih (i + 1) (by omega) (by omega)
    have inner : ∀ (e j : Nat), l.length - j = e → j ≤ l.length →
        ∃ b : Bool, Ev (fun k => spec_grGood.l1 k (i : Int) (rd l (i : Int)) l (l.length : Int) (i : Int) (l.length : Int) (j : Int) l own) b ∧ (b = true ↔ (∀ j', j ≤ j' → j' < l.length → OkE l i j') ∧ b0 = true) := by
      intro e
      induction e with
      | zero =>
        intro j hj1 hj2
        refine ⟨b0, Ev.succ e0 0 fun k _ => ?_, ⟨fun h => ⟨fun j' h1 h2 => by omega, h⟩, fun h => h.2⟩⟩
        rw [spec_grGood.l1, if_neg (by omega), step1 (by omega)]
      | succ e ihe =>
        intro j hj1 hj2
        obtain ⟨b1, e1, h1⟩ := ihe (j + 1) (by omega) (by omega)
        have hri : rd l (i : Int) = (nr l i : Int) := by rw [rd_nat]; exact nr_cast hr (by omega)
        have hrj : rd l (j : Int) = (nr l j : Int) := by rw [rd_nat]; exact nr_cast hr (by omega)
        have hsi := nr_small hl hr (i := i) (by omega)
        have hsj := nr_small hl hr (i := j) (by omega)
        by_cases hb : (nr l i).testBit j = true
        · by_cases hij : i = j
          · refine ⟨false, Ev.konst 1 fun k hk => ?_, ⟨fun h => (by cases h), fun h => absurd hij (h.1 j (Nat.le_refl _) (by omega) hb).1⟩⟩
            obtain ⟨k, rfl⟩ : ∃ m, k = m + 1 := ⟨k - 1, by omega⟩
            rw [spec_grGood.l1, if_pos (by omega), hri, grIn_nat _ _ (by omega), hb]
            simp only [Option.bind_some, if_true]
            rw [if_pos (by omega)]
          · by_cases hb2 : (nr l j).testBit i = true
            · refine ⟨b1, Ev.succ e1 0 fun k _ => ?_, ?_⟩
              · rw [spec_grGood.l1, if_pos (by omega), hrj, grIn_nat (nr l j) i (by omega), hb2, hri, grIn_nat (nr l i) j (by omega), hb]
                simp only [Option.bind_some, if_true]
                rw [if_neg (by omega), if_pos (by omega), if_pos (by omega), step1 (by omega), ← hri]
              · rw [h1]
                constructor
                · rintro ⟨h2, h3⟩
                  refine ⟨fun j' h4 h5 => ?_, h3⟩
                  by_cases e : j' = j
                  · subst e; exact fun _ => ⟨hij, hb2⟩
                  · exact h2 j' (by omega) h5
                · rintro ⟨h2, h3⟩
                  exact ⟨fun j' h4 h5 => h2 j' (by omega) h5, h3⟩
            · refine ⟨false, Ev.konst 1 fun k hk => ?_, ⟨fun h => (by cases h), fun h => absurd (h.1 j (Nat.le_refl _) (by omega) hb).2 hb2⟩⟩
              obtain ⟨k, rfl⟩ : ∃ m, k = m + 1 := ⟨k - 1, by omega⟩
              rw [spec_grGood.l1, if_pos (by omega), hrj, grIn_nat (nr l j) i (by omega), Bool.eq_false_iff.mpr hb2, hri, grIn_nat (nr l i) j (by omega), hb]
              simp only [Option.bind_some, if_true]
              rw [if_neg (by omega), if_pos (by omega), if_pos (by omega), if_neg (by simp)]
        · refine ⟨b1, Ev.succ e1 0 fun k _ => ?_, ?_⟩
          · rw [spec_grGood.l1, if_pos (by omega), hri, grIn_nat _ _ (by omega), Bool.eq_false_iff.mpr hb]
            simp only [Option.bind_some]
            rw [if_neg (by simp), step1 (by omega)]
          · rw [h1]
            constructor
            · rintro ⟨h2, h3⟩
              refine ⟨fun j' h4 h5 => ?_, h3⟩
              by_cases e : j' = j
              · subst e; exact fun h => absurd h hb
              · exact h2 j' (by omega) h5
            · rintro ⟨h2, h3⟩
              exact ⟨fun j' h4 h5 => h2 j' (by omega) h5, h3⟩
    obtain ⟨b, eb, hb⟩ := inner l.length 0 (by omega) (by omega)
    refine ⟨b, Ev.succ eb 0 fun k _ => ?_, ?_⟩
    · rw [spec_grGood.l0, if_pos (by omega), if_pos (by omega), if_pos (by omega)]
      rfl
    · rw [hb, h0]
      constructor
      · rintro ⟨h1, h2⟩ i' h3 h4 j h5
        by_cases e : i' = i
        · subst e; exact h1 j (Nat.zero_le _) h5
        · exact h2 i' (by omega) h4 j h5
      · intro h
        exact ⟨fun j' _ h2 => h i (Nat.le_refl _) (by omega) j' h2, fun i' h1 h2 => h i' (by omega) h2⟩
end

theorem size_spec (l : List Int) : spec_grSize.f (l.length : Int) = some (decide (1 ≤ (l.length : Int)) && decide ((l.length : Int) ≤ 16)) := by
  unfold spec_grSize.f; rw [l1In_val]; rfl
/-- Both say of a list whether it is a graph's. -/
theorem good_both (l : List Int) (own : Bool) (hlen : l.length ≤ 4611686018427387904) : ∃ b : Bool, (b = true ↔ Good l) ∧ Ev (fun k => spec_grGood.f k l own) b ∧ Ev (fun k => impl_isGraph.f k l own) b := by
  by_cases c : (decide (1 ≤ (l.length : Int)) && decide ((l.length : Int) ≤ 16)) = true
  · have hc := c
    simp only [Bool.and_eq_true, decide_eq_true_eq] at hc
    have hl : l.length ≤ 16 := by omega
    obtain ⟨b2, e2, h2⟩ := isGraph_l0 l own hl l.length 0 (by omega) (by omega) (fun i' h => by omega)
    have hp0 := Nat.two_pow_pos l.length
    have ep : ((2 ^ l.length : Nat) : Int) = (2 : Int) ^ l.length := by simp
    have i2 : Ev (fun k => impl_isGraph.f k l own) b2 := by
      obtain ⟨K, h⟩ := e2
      refine ⟨K, fun k hk => ?_⟩
      show impl_isGraph.f k l own = _
      unfold impl_isGraph.f
      rw [size_impl, c]
      exact h k hk
    have hI : b2 = true ↔ Good l := by
      rw [h2]
      constructor
      · intro h
        have hr : Rng l := fun i hi => ⟨(h i (Nat.zero_le _) hi).1, (h i (Nat.zero_le _) hi).2.1⟩
        refine ⟨by omega, hl, hr, fun i hi j hj hb => ?_⟩
        have h3 := (h i (Nat.zero_le _) hi).2.2
        have h4 := (h j (Nat.zero_le _) hj).2.2
        have hne : i ≠ j := fun e => by subst e; rw [h3.1] at hb; cases hb
        refine ⟨hne, ?_⟩
        rcases Nat.lt_or_ge i j with h5 | h5
        · rw [h4.2 i h5]; exact hb
        · rw [← h3.2 j (by omega)]; exact hb
      · rintro ⟨g1, g2, g3, g4⟩ i _ hi
        refine ⟨(g3 i hi).1, (g3 i hi).2, ?_, fun j hj => ?_⟩
        · rw [Bool.eq_false_iff]; intro hb; exact (g4 i hi i hi hb).1 rfl
        · rw [Bool.eq_iff_iff]
          exact ⟨fun hb => (g4 i hi j (by omega) hb).2, fun hb => (g4 j (by omega) i hi hb).2⟩
    have hall := l1All_at l 0 ((2 ^ l.length - 1 : Nat) : Int) hlen
    by_cases a : (l.all fun x => decide (0 ≤ x) && decide (x ≤ ((2 ^ l.length - 1 : Nat) : Int))) = true
    · have hr : Rng l := by
        intro i hi
        simp only [List.all_eq_true, Bool.and_eq_true, decide_eq_true_eq] at a
        have := a (l.getD i 0) (by rw [List.getD_eq_getElem?_getD, List.getElem?_eq_getElem hi]; exact List.getElem_mem _)
        omega
      obtain ⟨b1, e1, h1⟩ := grGood_l0 l own hl hr l.length 0 (by omega) (by omega)
      have hS : b1 = true ↔ Good l := by
        rw [h1]
        exact ⟨fun h => ⟨by omega, hl, hr, fun i hi j hj => h i (Nat.zero_le _) hi j hj⟩, fun h i _ hi j hj => h.2.2.2 i hi j hj⟩
      have e : b1 = b2 := by rw [Bool.eq_iff_iff, hS, hI]
      subst e
      refine ⟨b1, hS, ?_, i2⟩
      have e1' : Ev (fun k => spec_grGood.j0 k false l own) b1 := Ev.succ e1 0 fun k _ => by
        rw [spec_grGood.j0, if_neg (by simp)]
        rfl
      obtain ⟨K, h⟩ := e1'
      refine ⟨K + l.length + 1, fun k hk => ?_⟩
      show spec_grGood.f k l own = _
      unfold spec_grGood.f
      rw [size_spec, c, shl1 hl]
      simp only [Option.bind_some, if_true]
      rw [hall k (by omega), a]
      simp only [Option.bind_some, Bool.not_true]
      exact h k (by omega)
    · refine ⟨b2, hI, ?_, i2⟩
      have hn : ¬ Good l := by
        rintro ⟨_, _, g3, _⟩
        apply a
        simp only [List.all_eq_true, Bool.and_eq_true, decide_eq_true_eq]
        intro x hx
        obtain ⟨i, hi, rfl⟩ := List.getElem_of_mem hx
        have := g3 i hi
        rw [List.getD_eq_getElem?_getD, List.getElem?_eq_getElem hi] at this
        simp only [Option.getD_some] at this
        omega
      have : b2 = false := by rw [Bool.eq_false_iff]; exact fun h => hn (hI.1 h)
      subst this
      refine ⟨l.length + 2, fun k hk => ?_⟩
      obtain ⟨k, rfl⟩ : ∃ m, k = m + 1 := ⟨k - 1, by omega⟩
      show spec_grGood.f (k + 1) l own = _
      unfold spec_grGood.f
      rw [size_spec, c, shl1 hl]
      simp only [Option.bind_some, if_true]
      rw [hall (k + 1) (by omega), Bool.eq_false_iff.mpr a]
      simp only [Option.bind_some, Bool.not_false]
      rw [spec_grGood.j0, if_pos rfl]
  · refine ⟨false, ⟨fun h => (by cases h), fun h => absurd (by simp only [Bool.and_eq_true, decide_eq_true_eq]; have := h.1; have := h.2.1; omega) c⟩, ⟨1, fun k hk => ?_⟩, ⟨0, fun k _ => ?_⟩⟩
    · obtain ⟨k, rfl⟩ : ∃ m, k = m + 1 := ⟨k - 1, by omega⟩
      show spec_grGood.f (k + 1) l own = _
      unfold spec_grGood.f
      rw [size_spec, Bool.eq_false_iff.mpr c]
      simp only [Option.bind_some]
      rw [if_neg (by simp), spec_grGood.j0, if_pos rfl]
    · show impl_isGraph.f k l own = _
      unfold impl_isGraph.f
      rw [size_impl, Bool.eq_false_iff.mpr c]
      rfl
end Go.Proofs.Ytdpdmhjmmpncoaa.Gr

namespace Go.Proofs.Ytdpdmhjmmpncoaa.Gr
open Go.RowKit Go.Proofs.Ytdpdmhjmmpncoaa.P Go.Proofs.Ytdpdmhjmmpncoaa.Bt Go.Proofs.Ytdpdmhjmmpncoaa.Lw Go.Proofs.YtdpdmhjmmpncoaaW.PrintWords Go.Proofs.YtdpdmhjmmpncoaaW.PrintLast Go.Proofs.YtdpdmhjmmpncoaaW.PrintMore
set_option linter.unusedVariables false
set_option linter.unusedSimpArgs false

theorem u64_id {x : Int} (h0 : 0 ≤ x) (h : x < 18446744073709551616) : IntKind.u64.wrap x = x := by rw [IntKind.wrap_u64]; omega
theorem ofInt_nat' {a : Nat} (h : a < 18446744073709551616) : (BitVec.ofInt 64 (a : Int)).toNat = a := by
  rw [BitVec.toNat_ofInt]; omega
theorem and_u64 {a b : Nat} (ha : a < 18446744073709551616) (hb : b < 18446744073709551616) : Go.bits .and .u64 (a : Int) (b : Int) = ((a &&& b : Nat) : Int) := by
  have h : a &&& b ≤ a := Nat.and_le_left
  show IntKind.u64.wrap ((BitVec.ofInt 64 (a : Int) &&& BitVec.ofInt 64 (b : Int)).toNat : Int) = _
  rw [BitVec.toNat_and, ofInt_nat' ha, ofInt_nat' hb, u64_id (by omega) (by omega)]
theorem onesCount_at {n : Nat} (hn : n < 65536) : bits_OnesCount64.f (n : Int) = some ((pc n : Nat) : Int) := by
  rw [← trick_at hn]
  have hA : (n / 2 &&& 6148914691236517205) + (n &&& 6148914691236517205) ≤ 100000 := by
    have h1 : n / 2 &&& 6148914691236517205 ≤ n / 2 := Nat.and_le_left
    have h2 : n &&& 6148914691236517205 ≤ n := Nat.and_le_left
    omega
  unfold bits_OnesCount64.f
  have e1 : IntKind.u64.wrap ((Go.bits .and .u64 ((n : Int) / 2) 6148914691236517205) + (Go.bits .and .u64 (n : Int) 6148914691236517205)) = (((n / 2 &&& 6148914691236517205) + (n &&& 6148914691236517205) : Nat) : Int) := by
    rw [show (n : Int) / 2 = ((n / 2 : Nat) : Int) from by omega, show (6148914691236517205 : Int) = ((6148914691236517205 : Nat) : Int) from rfl, and_u64 (by omega) (by omega), and_u64 (by omega) (by omega), u64_id (by omega) (by omega)]
    omega
  rw [e1]
  unfold trick
  generalize (n / 2 &&& 6148914691236517205) + (n &&& 6148914691236517205) = a at hA ⊢
  have hB : (a / 4 &&& 3689348814741910323) + (a &&& 3689348814741910323) ≤ 200000 := by
    have h1 : a / 4 &&& 3689348814741910323 ≤ a / 4 := Nat.and_le_left
    have h2 : a &&& 3689348814741910323 ≤ a := Nat.and_le_left
    omega
  have e2 : IntKind.u64.wrap ((Go.bits .and .u64 ((a : Int) / 4) 3689348814741910323) + (Go.bits .and .u64 (a : Int) 3689348814741910323)) = (((a / 4 &&& 3689348814741910323) + (a &&& 3689348814741910323) : Nat) : Int) := by
    rw [show (a : Int) / 4 = ((a / 4 : Nat) : Int) from by omega, show (3689348814741910323 : Int) = ((3689348814741910323 : Nat) : Int) from rfl, and_u64 (by omega) (by omega), and_u64 (by omega) (by omega), u64_id (by omega) (by omega)]
    omega
  simp only [e2]
  generalize (a / 4 &&& 3689348814741910323) + (a &&& 3689348814741910323) = b at hB ⊢
  have hC : (b / 16 + b) &&& 1085102592571150095 ≤ 300000 := by
    have h1 : (b / 16 + b) &&& 1085102592571150095 ≤ b / 16 + b := Nat.and_le_left
    omega
  have e3 : Go.bits .and .u64 (IntKind.u64.wrap ((b : Int) / 16 + (b : Int))) 1085102592571150095 = (((b / 16 + b) &&& 1085102592571150095 : Nat) : Int) := by
    rw [show (b : Int) / 16 + (b : Int) = ((b / 16 + b : Nat) : Int) from by omega, u64_id (by omega) (by omega), show (1085102592571150095 : Int) = ((1085102592571150095 : Nat) : Int) from rfl, and_u64 (by omega) (by omega)]
  simp only [e3]
  generalize (b / 16 + b) &&& 1085102592571150095 = c at hC ⊢
  have e4 : IntKind.u64.wrap ((c : Int) + (c : Int) / 256) = ((c + c / 256 : Nat) : Int) := by rw [u64_id (by omega) (by omega)]; omega
  simp only [e4]
  have hD : c + c / 256 ≤ 400000 := by omega
  generalize c + c / 256 = d at hD ⊢
  have e5 : IntKind.u64.wrap ((d : Int) + (d : Int) / 65536) = ((d + d / 65536 : Nat) : Int) := by rw [u64_id (by omega) (by omega)]; omega
  simp only [e5]
  have hE : d + d / 65536 ≤ 500000 := by omega
  generalize d + d / 65536 = e at hE ⊢
  have e6 : IntKind.u64.wrap ((e : Int) + (e : Int) / 4294967296) = ((e + e / 4294967296 : Nat) : Int) := by rw [u64_id (by omega) (by omega)]; omega
  simp only [e6]
  rw [wrap_nat (by omega), show (127 : Int) = ((127 : Nat) : Int) from rfl, bits_and (by omega) (by omega)]
theorem count_at {n : Nat} (hn : n < 65536) : impl_count.f (n : Int) = some ((pc n : Nat) : Int) := by
  unfold impl_count.f bits_OnesCount.f
  rw [u64_id (by omega) (by omega), onesCount_at hn]
  rfl
theorem grCount_l0 : ∀ (f n : Nat) (c : Nat) (k : Nat), n < 2 ^ f → f ≤ 16 → c + f ≤ 100 → f < k → spec_grCount.l0 k (n : Int) (c : Int) = some ((c + Go.Lib.popAux f n : Nat) : Int) := by
  intro f
  induction f with
  | zero =>
    intro n c k hn _ _ hk
    obtain ⟨k, rfl⟩ : ∃ m, k = m + 1 := ⟨k - 1, by omega⟩
    have : n = 0 := by omega
    subst this
    rw [spec_grCount.l0, if_neg (by omega)]
    simp [Go.Lib.popAux]
  | succ f ih =>
    intro n c k hn hf hc hk
    obtain ⟨k, rfl⟩ : ∃ m, k = m + 1 := ⟨k - 1, by omega⟩
    have h16 := pow16 hf
    by_cases h0 : n = 0
    · subst h0
      have z : ∀ g, Go.Lib.popAux g 0 = 0 := fun g => by induction g with
        | zero => rfl
        | succ g ih => rw [Go.Lib.popAux]; simp [ih]
      rw [spec_grCount.l0, if_neg (by omega), z]
      simp
    · rw [spec_grCount.l0, if_pos (by omega), tdiv_two, tmod_two, wrap_nat (by omega), show (c : Int) + ((n % 2 : Nat) : Int) = ((c + n % 2 : Nat) : Int) from by omega,
        wrap_nat (by omega), ih (n / 2) (c + n % 2) k (by rw [Nat.pow_succ] at hn; omega) (by omega) (by omega) (by omega), Go.Lib.popAux]
      congr 2; omega
theorem grCount_at {n : Nat} (hn : n < 65536) (k : Nat) (hk : 16 < k) : spec_grCount.f k (n : Int) = some ((pc n : Nat) : Int) := by
  have := grCount_l0 16 n 0 k hn (by omega) (by omega) hk
  simpa [spec_grCount.f, pc] using this
end Go.Proofs.Ytdpdmhjmmpncoaa.Gr
