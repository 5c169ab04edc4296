/- The machine's words on bits, at natural numbers below 2^63. -/
import Derived.Test.YtfhbkgbhogndfaaPoly
import Derived.Test.YtfhbkgbhogndfaaWMore
import Derived.Lib.BitFns
namespace Go.Proofs.Ytfhbkgbhogndfaa.Bt
open Go.RowKit Go.Proofs.YtfhbkgbhogndfaaW.PrintWords Go.Proofs.YtfhbkgbhogndfaaW.PrintLast Go.Proofs.YtfhbkgbhogndfaaW.PrintMore
set_option linter.unusedVariables false
set_option linter.unusedSimpArgs false

theorem wrap_id {x : Int} (h0 : -9223372036854775808 ≤ x) (h : x < 9223372036854775808) : wrap64 x = x := by unfold wrap64; omega
theorem wrap_nat {n : Nat} (h : n < 9223372036854775808) : wrap64 (n : Int) = n := wrap_id (by omega) (by omega)
theorem ofInt_nat {a : Nat} (h : a < 9223372036854775808) : (BitVec.ofInt 64 (a : Int)).toNat = a := by
  rw [BitVec.toNat_ofInt]; omega
theorem bits_xor {a b : Nat} (ha : a < 9223372036854775808) (hb : b < 9223372036854775808) : Go.bits .xor .i64 (a : Int) (b : Int) = ((a ^^^ b : Nat) : Int) := by
  have h : a ^^^ b < 2 ^ 63 := Nat.xor_lt_two_pow (by simpa using ha) (by simpa using hb)
  show IntKind.i64.wrap ((BitVec.ofInt 64 (a : Int) ^^^ BitVec.ofInt 64 (b : Int)).toNat : Int) = _
  rw [BitVec.toNat_xor, ofInt_nat ha, ofInt_nat hb, i64_w, wrap_nat (by simpa using h)]
theorem bits_or {a b : Nat} (ha : a < 9223372036854775808) (hb : b < 9223372036854775808) : Go.bits .or .i64 (a : Int) (b : Int) = ((a ||| b : Nat) : Int) := by
  have h : a ||| b < 2 ^ 63 := Nat.or_lt_two_pow (by simpa using ha) (by simpa using hb)
  show IntKind.i64.wrap ((BitVec.ofInt 64 (a : Int) ||| BitVec.ofInt 64 (b : Int)).toNat : Int) = _
  rw [BitVec.toNat_or, ofInt_nat ha, ofInt_nat hb, i64_w, wrap_nat (by simpa using h)]
theorem bits_and {a b : Nat} (ha : a < 9223372036854775808) (hb : b < 9223372036854775808) : Go.bits .and .i64 (a : Int) (b : Int) = ((a &&& b : Nat) : Int) := by
  have h : a &&& b < 2 ^ 63 := Nat.and_lt_two_pow _ (by simpa using hb)
  show IntKind.i64.wrap ((BitVec.ofInt 64 (a : Int) &&& BitVec.ofInt 64 (b : Int)).toNat : Int) = _
  rw [BitVec.toNat_and, ofInt_nat ha, ofInt_nat hb, i64_w, wrap_nat (by simpa using h)]
theorem shl_nat {a n : Nat} (hn : n ≤ 64) (h : a * 2 ^ n < 9223372036854775808) : shl .i64 (a : Int) (n : Int) = ((a <<< n : Nat) : Int) := by
  unfold shl
  rw [i64_w, Nat.shiftLeft_eq, Int.toNat_natCast, Nat.min_eq_left (by simpa [IntKind.bits] using hn)]
  have e : (a : Int) * 2 ^ n = ((a * 2 ^ n : Nat) : Int) := by simp
  rw [e, wrap_nat h]
theorem shr_nat {a n : Nat} (ha : a < 9223372036854775808) : shr .i64 (a : Int) (n : Int) = ((a >>> n : Nat) : Int) := by
  unfold shr
  rw [Nat.shiftRight_eq_div_pow, Int.toNat_natCast]
  have e : ∀ m : Nat, (a : Int) / 2 ^ m = ((a / 2 ^ m : Nat) : Int) := fun m => by simp
  rw [e]
  congr 1
  show a / 2 ^ min n 64 = _
  rcases Nat.lt_or_ge 64 n with h | h
  · rw [Nat.min_eq_right (by omega), Nat.div_eq_of_lt (by omega), Nat.div_eq_of_lt]
    exact Nat.lt_of_lt_of_le (show a < 2 ^ 64 by omega) (Nat.pow_le_pow_right (by omega) (by omega))
  · rw [Nat.min_eq_left h]
theorem tmod_two (n : Nat) : Int.tmod (n : Int) 2 = ((n % 2 : Nat) : Int) := by rw [Int.tmod_eq_emod_of_nonneg (by omega)]; omega
theorem tdiv_two (n : Nat) : Int.tdiv (n : Int) 2 = ((n / 2 : Nat) : Int) := by rw [Int.tdiv_eq_ediv_of_nonneg (by omega)]; omega
theorem grIn_val {s i : Nat} (hs : s < 9223372036854775808) : ((Int.tmod (shr .i64 (s : Int) (i : Int)) 2) == 1) = s.testBit i := by
  rw [shr_nat hs, tmod_two, Nat.testBit_eq_decide_div_mod_eq, Nat.shiftRight_eq_div_pow, Bool.eq_iff_iff, beq_iff_eq, decide_eq_true_iff]
  omega
theorem has_val {s i : Nat} (hs : s < 9223372036854775808) : ((Go.bits .and .i64 (shr .i64 (s : Int) (i : Int)) 1) == 1) = s.testBit i := by
  have h1 : s >>> i < 9223372036854775808 := by
    rw [Nat.shiftRight_eq_div_pow]
    exact Nat.lt_of_le_of_lt (Nat.div_le_self _ _) hs
  rw [shr_nat hs, show (1 : Int) = ((1 : Nat) : Int) from rfl, bits_and h1 (by omega), Nat.and_one_is_mod, Nat.testBit_eq_decide_div_mod_eq, Nat.shiftRight_eq_div_pow, Bool.eq_iff_iff, beq_iff_eq, decide_eq_true_iff]
  omega
theorem bitLen_bl (n : Nat) (h : n < 18446744073709551616) : Go.Lib.bitLen n = Gf.bl n := by
  have key : ∀ f x, x < 2 ^ f → Go.Lib.bitLenAux f x = Gf.bl x := by
    intro f
    induction f with
    | zero => intro x hx; have : x = 0 := by omega
              subst this; rfl
    | succ f ih =>
      intro x hx
      rw [Go.Lib.bitLenAux]
      split
      · rename_i h0; subst h0; rfl
      · rename_i h0
        rw [ih (x / 2) (by rw [Nat.pow_succ] at hx; omega), Gf.bl_half h0]; omega
  exact key 64 n h
end Go.Proofs.Ytfhbkgbhogndfaa.Bt
