/- Counting, and 'is it a set of buttons'. -/
import Derived.Test.YtdpdmhjmmpncoaaPc
import Derived.Test.YtdpdmhjmmpncoaaGraph
import Derived.Test.YtdpdmhjmmpncoaaLawG
import Derived.Test.YtdpdmhjmmpncoaaPx1
import Derived.Test.YtdpdmhjmmpncoaaPx16
import Derived.Test.YtdpdmhjmmpncoaaPx17
import Derived.Test.YtdpdmhjmmpncoaaPx21
namespace Go.Proofs.Ytdpdmhjmmpncoaa.Gr
open Go.RowKit Go.Proofs.Ytdpdmhjmmpncoaa.P Go.Proofs.Ytdpdmhjmmpncoaa.Bt Go.Proofs.Ytdpdmhjmmpncoaa.Lw Go.Proofs.YtdpdmhjmmpncoaaW.PrintWords Go.Proofs.YtdpdmhjmmpncoaaW.PrintLast Go.Proofs.YtdpdmhjmmpncoaaW.PrintMore
set_option linter.unusedVariables false
set_option linter.unusedSimpArgs false

theorem u64_id {x : Int} (h0 : 0 ≤ x) (h : x < 18446744073709551616) : IntKind.u64.wrap x = x := by rw [IntKind.wrap_u64]; omega
theorem ofInt_nat' {a : Nat} (h : a < 18446744073709551616) : (BitVec.ofInt 64 (a : Int)).toNat = a := by
  rw [BitVec.toNat_ofInt]; omega
theorem and_u64 {a b : Nat} (ha : a < 18446744073709551616) (hb : b < 18446744073709551616) : Go.bits .and .u64 (a : Int) (b : Int) = ((a &&& b : Nat) : Int) := by
  have h : a &&& b ≤ a := Nat.and_le_left
  show IntKind.u64.wrap ((BitVec.ofInt 64 (a : Int) &&& BitVec.ofInt 64 (b : Int)).toNat : Int) = _
  rw [BitVec.toNat_and, ofInt_nat' ha, ofInt_nat' hb, u64_id (by omega) (by omega)]
theorem onesCount_at {n : Nat} (hn : n < 65536) : bits_OnesCount64.f (n : Int) = some ((pc n : Nat) : Int) := by
  rw [← trick_at hn]
  have hA : (n / 2 &&& 6148914691236517205) + (n &&& 6148914691236517205) ≤ 100000 := by
    have h1 : n / 2 &&& 6148914691236517205 ≤ n / 2 := Nat.and_le_left
    have h2 : n &&& 6148914691236517205 ≤ n := Nat.and_le_left
    omega
  unfold bits_OnesCount64.f
  have e1 : IntKind.u64.wrap ((Go.bits .and .u64 ((n : Int) / 2) 6148914691236517205) + (Go.bits .and .u64 (n : Int) 6148914691236517205)) = (((n / 2 &&& 6148914691236517205) + (n &&& 6148914691236517205) : Nat) : Int) := by
    rw [show (n : Int) / 2 = ((n / 2 : Nat) : Int) from by omega, show (6148914691236517205 : Int) = ((6148914691236517205 : Nat) : Int) from rfl, and_u64 (by omega) (by omega), and_u64 (by omega) (by omega), u64_id (by omega) (by omega)]
    omega
  rw [e1]
  unfold trick
  generalize (n / 2 &&& 6148914691236517205) + (n &&& 6148914691236517205) = a at hA ⊢
  have hB : (a / 4 &&& 3689348814741910323) + (a &&& 3689348814741910323) ≤ 200000 := by
    have h1 : a / 4 &&& 3689348814741910323 ≤ a / 4 := Nat.and_le_left
    have h2 : a &&& 3689348814741910323 ≤ a := Nat.and_le_left
    omega
  have e2 : IntKind.u64.wrap ((Go.bits .and .u64 ((a : Int) / 4) 3689348814741910323) + (Go.bits .and .u64 (a : Int) 3689348814741910323)) = (((a / 4 &&& 3689348814741910323) + (a &&& 3689348814741910323) : Nat) : Int) := by
    rw [show (a : Int) / 4 = ((a / 4 : Nat) : Int) from by omega, show (3689348814741910323 : Int) = ((3689348814741910323 : Nat) : Int) from rfl, and_u64 (by omega) (by omega), and_u64 (by omega) (by omega), u64_id (by omega) (by omega)]
    omega
  simp only [e2]
  generalize (a / 4 &&& 3689348814741910323) + (a &&& 3689348814741910323) = b at hB ⊢
  have hC : (b / 16 + b) &&& 1085102592571150095 ≤ 300000 := by
    have h1 : (b / 16 + b) &&& 1085102592571150095 ≤ b / 16 + b := Nat.and_le_left
    omega
  have e3 : Go.bits .and .u64 (IntKind.u64.wrap ((b : Int) / 16 + (b : Int))) 1085102592571150095 = (((b / 16 + b) &&& 1085102592571150095 : Nat) : Int) := by
    rw [show (b : Int) / 16 + (b : Int) = ((b / 16 + b : Nat) : Int) from by omega, u64_id (by omega) (by omega), show (1085102592571150095 : Int) = ((1085102592571150095 : Nat) : Int) from rfl, and_u64 (by omega) (by omega)]
  simp only [e3]
  generalize (b / 16 + b) &&& 1085102592571150095 = c at hC ⊢
  have e4 : IntKind.u64.wrap ((c : Int) + (c : Int) / 256) = ((c + c / 256 : Nat) : Int) := by rw [u64_id (by omega) (by omega)]; omega
  simp only [e4]
  have hD : c + c / 256 ≤ 400000 := by omega
  generalize c + c / 256 = d at hD ⊢
  have e5 : IntKind.u64.wrap ((d : Int) + (d : Int) / 65536) = ((d + d / 65536 : Nat) : Int) := by rw [u64_id (by omega) (by omega)]; omega
  simp only [e5]
  have hE : d + d / 65536 ≤ 500000 := by omega
  generalize d + d / 65536 = e at hE ⊢
  have e6 : IntKind.u64.wrap ((e : Int) + (e : Int) / 4294967296) = ((e + e / 4294967296 : Nat) : Int) := by rw [u64_id (by omega) (by omega)]; omega
  simp only [e6]
  rw [wrap_nat (by omega), show (127 : Int) = ((127 : Nat) : Int) from rfl, bits_and (by omega) (by omega)]
theorem count_at {n : Nat} (hn : n < 65536) : impl_count.f (n : Int) = some ((pc n : Nat) : Int) := by
  unfold impl_count.f bits_OnesCount.f
  rw [u64_id (by omega) (by omega), onesCount_at hn]
  rfl
theorem grCount_l0 : ∀ (f n : Nat) (c : Nat) (k : Nat), n < 2 ^ f → f ≤ 16 → c + f ≤ 100 → f < k → spec_grCount.l0 k (n : Int) (c : Int) = some ((c + Go.Lib.popAux f n : Nat) : Int) := by
  intro f
  induction f with
  | zero =>
    intro n c k hn _ _ hk
    obtain ⟨k, rfl⟩ : ∃ m, k = m + 1 := ⟨k - 1, by omega⟩
    have : n = 0 := by omega
    subst this
    rw [spec_grCount.l0, if_neg (by omega)]
    simp [Go.Lib.popAux]
  | succ f ih =>
    intro n c k hn hf hc hk
    obtain ⟨k, rfl⟩ : ∃ m, k = m + 1 := ⟨k - 1, by omega⟩
    have h16 := pow16 hf
    by_cases h0 : n = 0
    · subst h0
      have z : ∀ g, Go.Lib.popAux g 0 = 0 := fun g => by induction g with
        | zero => rfl
        | succ g ih => rw [Go.Lib.popAux]; simp [ih]
      rw [spec_grCount.l0, if_neg (by omega), z]
      simp
    · rw [spec_grCount.l0, if_pos (by omega), tdiv_two, tmod_two, wrap_nat (by omega), show (c : Int) + ((n % 2 : Nat) : Int) = ((c + n % 2 : Nat) : Int) from by omega,
        wrap_nat (by omega), ih (n / 2) (c + n % 2) k (by rw [Nat.pow_succ] at hn; omega) (by omega) (by omega) (by omega), Go.Lib.popAux]
      congr 2; omega
theorem grCount_at {n : Nat} (hn : n < 65536) (k : Nat) (hk : 16 < k) : spec_grCount.f k (n : Int) = some ((pc n : Nat) : Int) := by
  have := grCount_l0 16 n 0 k hn (by omega) (by omega) hk
  simpa [spec_grCount.f, pc] using this
/-- Is it a set of buttons of the graph? Both say the same. -/
theorem set_both (l : List Int) (own : Bool) (hlen : l.length ≤ 4611686018427387904) (a : Int) :
    ∃ b : Bool, (b = true ↔ Good l ∧ 0 ≤ a ∧ a < 2 ^ l.length) ∧ Ev (fun k => spec_grSet.f k l own a) b ∧ Ev (fun k => impl_isSet.f k l own [a]) b := by
  obtain ⟨g, hg, ⟨K1, e1⟩, ⟨K2, e2⟩⟩ := good_both l own hlen
  simp only at e1 e2
  cases g with
  | false =>
    refine ⟨false, ⟨fun h => (by cases h), fun h => (by have := hg.2 h.1; cases this)⟩, ⟨K1, fun k hk => ?_⟩, ⟨K2, fun k hk => ?_⟩⟩
    · show spec_grSet.f k l own a = _
      unfold spec_grSet.f; rw [e1 k hk]; rfl
    · show impl_isSet.f k l own [a] = _
      unfold impl_isSet.f; rw [e2 k hk]; rfl
  | true =>
    have G := hg.1 rfl
    have hl := G.2.1
    have hp := pow16 hl
    have ep : ((2 ^ l.length : Nat) : Int) = (2 : Int) ^ l.length := by simp
    have hp0 := Nat.two_pow_pos l.length
    refine ⟨(decide (0 ≤ a) && decide (a ≤ ((2 ^ l.length - 1 : Nat) : Int))), ?_, ⟨K1, fun k hk => ?_⟩, ⟨K2, fun k hk => ?_⟩⟩
    · simp only [Bool.and_eq_true, decide_eq_true_eq]
      constructor
      · intro h; exact ⟨G, h.1, by omega⟩
      · intro h; exact ⟨h.2.1, by omega⟩
    · show spec_grSet.f k l own a = _
      unfold spec_grSet.f; rw [e1 k hk]
      simp only [Option.bind_some, if_true]
      rw [shl1 hl, l1In_val]; rfl
    · show impl_isSet.f k l own [a] = _
      unfold impl_isSet.f; rw [e2 k hk]
      simp only [Option.bind_some, if_true]
      rw [whole_nat hl]
      simp
theorem toGraph_ev (l : List Int) (b : Bool) (hl : l.length ≤ 35184372088832) : Ev (fun k => laws_toGraph.f k l b) (l, b) := by
  obtain ⟨K, h⟩ := toIntS_ev l hl
  refine ⟨K, fun k hk => ?_⟩
  show laws_toGraph.f k l b = _
  unfold laws_toGraph.f
  have := h k hk
  simp only at this
  rw [this]; rfl
theorem szGraph_small (l : List Int) (b : Bool) (h : l.length ≤ 1048576) : laws_szGraph.f l b 1048576 = some (1048576 - (l.length : Int)) := by
  unfold laws_szGraph.f laws_szIntS.f
  rw [Bt.wrap_id (by omega) (by omega), if_neg (by omega)]
  simp only [Option.bind_some]
  rw [if_neg (by omega)]
theorem szGraph_big (l : List Int) (b : Bool) (hl : l.length ≤ 9223372036854775807) (h : ¬ l.length ≤ 1048576) : laws_szGraph.f l b 1048576 = some (-1) := by
  unfold laws_szGraph.f laws_szIntS.f
  rw [Bt.wrap_id (by omega) (by omega), if_pos (by omega)]
  rfl
end Go.Proofs.Ytdpdmhjmmpncoaa.Gr
