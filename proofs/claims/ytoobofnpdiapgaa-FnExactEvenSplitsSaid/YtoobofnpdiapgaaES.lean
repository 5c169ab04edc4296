/- All sums of a basis; how many there are; parities. All splits: the model's list and the program's. All splits: the program's list is the model's. -/
import Derived.Test.YtoobofnpdiapgaaSplits
import Derived.Test.YtoobofnpdiapgaaPx0
import Derived.Test.YtoobofnpdiapgaaPx6
import Derived.Test.YtoobofnpdiapgaaPx10
import Derived.Test.YtoobofnpdiapgaaPx12
import Derived.Test.YtoobofnpdiapgaaPx13
import Derived.Test.YtoobofnpdiapgaaPx23
import Derived.Test.YtoobofnpdiapgaaPx24
import Derived.Test.YtoobofnpdiapgaaPx3
namespace Go.Proofs.Ytoobofnpdiapgaa.Gr
open Go.RowKit Go.Proofs.Ytoobofnpdiapgaa.P Go.Proofs.Ytoobofnpdiapgaa.Bt Go.Proofs.Ytoobofnpdiapgaa.Lw Go.Proofs.Ytoobofnpdiapgaa.Sp Go.Proofs.Ytoobofnpdiapgaa.Pa Go.Proofs.Ytoobofnpdiapgaa.St Go.Proofs.Ytoobofnpdiapgaa.Sv Go.Proofs.Ytoobofnpdiapgaa.Sy Go.Proofs.Ytoobofnpdiapgaa.Bo Go.Proofs.YtoobofnpdiapgaaW.PrintWords Go.Proofs.YtoobofnpdiapgaaW.PrintLast Go.Proofs.YtoobofnpdiapgaaW.PrintMore
set_option linter.unusedVariables false
set_option linter.unusedSimpArgs false

/-- All sums. -/
def sums : List Nat → List Nat
  | [] => [0]
  | b :: B => sums B ++ (sums B).map (· ^^^ b)
theorem sums_len : ∀ B : List Nat, (sums B).length = 2 ^ B.length
  | [] => rfl
  | b :: B => by rw [sums, List.length_append, List.length_map, sums_len B, List.length_cons, Nat.pow_succ]; omega
theorem sums_mem : ∀ (B : List Nat) (x : Nat), x ∈ sums B ↔ InSpan B x
  | [], x => by simp [sums, InSpan]
  | b :: B, x => by
    rw [sums, List.mem_append, List.mem_map]
    show _ ↔ InSpan B x ∨ InSpan B (x ^^^ b)
    rw [sums_mem B x]
    constructor
    · rintro (h | ⟨y, hy, rfl⟩)
      · exact .inl h
      · exact .inr (by rw [Gf.xor_cancel]; exact (sums_mem B y).1 hy)
    · rintro (h | h)
      · exact .inl h
      · exact .inr ⟨x ^^^ b, (sums_mem B _).2 h, Gf.xor_cancel x b⟩
theorem sums_nodup : ∀ {B : List Nat}, Tri B → (sums B).Nodup
  | [], _ => by simp [sums]
  | b :: B, h => by
    rw [sums, List.nodup_append]
    refine ⟨sums_nodup h.2.2, ?_, fun x hx y hy e => ?_⟩
    · rw [List.nodup_iff_pairwise_ne, List.pairwise_map]
      exact (List.nodup_iff_pairwise_ne.1 (sums_nodup h.2.2)).imp (fun hab e => hab (by
        have := congrArg (· ^^^ b) e
        simpa [Gf.xor_cancel] using this))
    · subst e
      obtain ⟨z, hz, rfl⟩ := List.mem_map.1 hy
      have h1 := ((sums_mem B _).1 hx).xor ((sums_mem B z).1 hz)
      rw [Nat.xor_comm z b, Gf.xor_cancel] at h1
      obtain ⟨c, hc, e⟩ := h.2.2.top h1 h.1
      exact h.2.1 c hc e
def cntN (p : Nat → Bool) : Nat → Nat → Nat
  | 0, _ => 0
  | d + 1, x => (if p x = true then 1 else 0) + cntN p d (x + 1)
theorem cntN_filter (p : Nat → Bool) : ∀ d x, cntN p d x = ((List.range' x d).filter p).length
  | 0, _ => rfl
  | d + 1, x => by
    rw [cntN, cntN_filter p d (x + 1), List.range'_succ, List.filter_cons]
    split
    · rw [List.length_cons]; omega
    · omega
theorem cnt_span {B : List Nat} (hB : Tri B) {N : Nat} {p : Nat → Bool} (h : ∀ x, InSpan B x ↔ x < N ∧ p x = true) : cntN p N 0 = 2 ^ B.length := by
  rw [cntN_filter, ← sums_len B]
  refine List.Perm.length_eq ((List.perm_ext_iff_of_nodup (List.Pairwise.filter _ List.nodup_range') (sums_nodup hB)).2 (fun x => ?_))
  rw [List.mem_filter, sums_mem, h, List.mem_range'_1]
  constructor
  · rintro ⟨⟨_, h1⟩, h2⟩; exact ⟨by omega, h2⟩
  · rintro ⟨h1, h2⟩; exact ⟨⟨by omega, by omega⟩, h2⟩
theorem xs_lt (f : Nat → Bool) (v : Nat) : ∀ n, v ≤ n → xs (fun i => decide (i < v) && f i) n = xs f v
  | 0, h => by
    have : v = 0 := by omega
    subst this; rfl
  | n + 1, h => by
    by_cases e : v = n + 1
    · subst e
      exact xs_congr _ (fun i hi => by rw [decide_eq_true hi]; rfl)
    · rw [xs, xs_lt f v n (by omega), decide_eq_false (by omega)]; simp
theorem xs_eq (f : Nat → Bool) (v : Nat) : ∀ n, v < n → xs (fun i => decide (i = v) && f i) n = f v
  | n + 1, h => by
    rw [xs]
    by_cases e : v = n
    · subst e
      rw [xs_congr (g := fun _ => false) v (fun i hi => by rw [decide_eq_false (by omega)]; rfl), xs_false]; simp
    · rw [xs_eq f v n (by omega), decide_eq_false (Ne.symm e)]; simp
theorem xs_front (f : Nat → Bool) : ∀ n, xs f (n + 1) = (f 0 ^^ xs (fun i => f (i + 1)) n)
  | 0 => by simp [xs]
  | n + 1 => by rw [xs, xs_front f n, xs]; cases f 0 <;> cases f (n + 1) <;> simp
theorem pop_par : ∀ (g m : Nat), xs (fun j => m.testBit j) g = (Go.Lib.popAux g m % 2 == 1)
  | 0, m => by simp [xs, Go.Lib.popAux]
  | g + 1, m => by
    rw [xs_front, Go.Lib.popAux]
    have h1 : xs (fun i => m.testBit (i + 1)) g = xs (fun j => (m / 2).testBit j) g := xs_congr g (fun i _ => by rw [Nat.testBit_succ])
    rw [h1, pop_par g (m / 2)]
    have h2 : m.testBit 0 = (m % 2 == 1) := by rw [Nat.testBit_zero]; by_cases e : m % 2 = 1 <;> simp [e]
    rw [h2]
    have a : m % 2 = 0 ∨ m % 2 = 1 := by omega
    have b : Go.Lib.popAux g (m / 2) % 2 = 0 ∨ Go.Lib.popAux g (m / 2) % 2 = 1 := by omega
    rcases a with a | a <;> rcases b with b | b <;> rw [a, b]
    · rw [show (0 + Go.Lib.popAux g (m / 2)) % 2 = 0 by omega]; rfl
    · rw [show (0 + Go.Lib.popAux g (m / 2)) % 2 = 1 by omega]; rfl
    · rw [show (1 + Go.Lib.popAux g (m / 2)) % 2 = 1 by omega]; rfl
    · rw [show (1 + Go.Lib.popAux g (m / 2)) % 2 = 0 by omega]; rfl
theorem xs_more (f : Nat → Bool) {n : Nat} (h : ∀ i, n ≤ i → f i = false) : ∀ d, xs f (n + d) = xs f n
  | 0 => rfl
  | d + 1 => by rw [← Nat.add_assoc, xs, xs_more f h d, h (n + d) (by omega)]; simp
theorem par_n {m n : Nat} (hn : n ≤ 16) (hm : m < 2 ^ n) : xs (fun j => m.testBit j) n = (pc m % 2 == 1) := by
  have h1 := xs_more (fun j => m.testBit j) (n := n) (fun i hi => Nat.testBit_lt_two_pow (Nat.lt_of_lt_of_le hm (Nat.pow_le_pow_right (by omega) hi))) (16 - n)
  rw [show n + (16 - n) = 16 by omega] at h1
  rw [← h1, pop_par]; rfl
end Go.Proofs.Ytoobofnpdiapgaa.Gr

namespace Go.Proofs.Ytoobofnpdiapgaa.Gr
open Go.RowKit Go.Proofs.Ytoobofnpdiapgaa.P Go.Proofs.Ytoobofnpdiapgaa.Bt Go.Proofs.Ytoobofnpdiapgaa.Lw Go.Proofs.Ytoobofnpdiapgaa.Gf Go.Proofs.Ytoobofnpdiapgaa.Sp Go.Proofs.Ytoobofnpdiapgaa.Pa Go.Proofs.Ytoobofnpdiapgaa.St Go.Proofs.Ytoobofnpdiapgaa.Sv Go.Proofs.Ytoobofnpdiapgaa.Sy Go.Proofs.Ytoobofnpdiapgaa.Bo Go.Proofs.YtoobofnpdiapgaaW.PrintWords Go.Proofs.YtoobofnpdiapgaaW.PrintLast Go.Proofs.YtoobofnpdiapgaaW.PrintMore
set_option linter.unusedVariables false
set_option linter.unusedSimpArgs false

/-- Have all of a set, from the button i on, an even number of neighbours in it? -/
def allE (l : List Int) (s : Nat) : Nat → Nat → Bool
  | 0, _ => true
  | d + 1, i => (!s.testBit i || decide (pc (nr l i &&& s) % 2 = 0)) && allE l s d (i + 1)
theorem allE_iff (l : List Int) (s : Nat) : ∀ d i, allE l s d i = true ↔ ∀ j, i ≤ j → j < i + d → s.testBit j = true → pc (nr l j &&& s) % 2 = 0
  | 0, i => by simp [allE]; omega
  | d + 1, i => by
    rw [allE, Bool.and_eq_true, allE_iff l s d (i + 1)]
    constructor
    · rintro ⟨h1, h2⟩ j h3 h4 h5
      by_cases e : j = i
      · subst e
        rw [h5] at h1
        simpa using h1
      · exact h2 j (by omega) (by omega) h5
    · intro h
      refine ⟨?_, fun j h1 h2 h3 => h j (by omega) (by omega) h3⟩
      cases hb : s.testBit i with
      | false => rfl
      | true => simpa using h i (Nat.le_refl _) (by omega) hb
section
variable (l : List Int) (G : Good l)
include G
theorem all_at (own : Bool) (s : Nat) (hs : s < 65536) : ∀ (d i k : Nat), i + d = l.length → d + 30 < k → spec_paAll.l0 k (s : Int) 0 (l.length : Int) (i : Int) l own = some (allE l s d i) := by
  have hl := G.2.1
  have hr := G.2.2.1
  intro d
  induction d with
  | zero =>
    intro i k hi hk
    obtain ⟨k, rfl⟩ : ∃ m, k = m + 1 := ⟨k - 1, by omega⟩
    rw [spec_paAll.l0, if_neg (by omega)]; rfl
  | succ d ih =>
    intro i k hi hk
    obtain ⟨k, rfl⟩ : ∃ m, k = m + 1 := ⟨k - 1, by omega⟩
    have hlt : i < l.length := by omega
    have hri : rd l (i : Int) = (nr l i : Int) := by rw [rd_nat]; exact nr_cast hr hlt
    have hsm := nr_small hl hr hlt
    have ha : nr l i &&& s < 65536 := Nat.lt_of_le_of_lt Nat.and_le_right hs
    rw [spec_paAll.l0, if_pos (by omega), grIn_at hs]
    simp only [Option.bind_some]
    rw [allE]
    by_cases hb : s.testBit i = true
    · rw [hb, if_pos rfl]
      unfold spec_paDegree.f
      rw [if_pos (by omega), if_pos (by omega), hri, bits_and (by omega) (by omega), grCount_at ha k (by omega)]
      simp only [Option.bind_some]
      rw [tmod_two]
      by_cases c : pc (nr l i &&& s) % 2 = 0
      · rw [if_pos (by omega), step1' (by omega), ih (i + 1) k (by omega) (by omega), decide_eq_true c]; rfl
      · rw [if_neg (by omega), decide_eq_false c]; rfl
    · rw [if_neg hb, step1' (by omega), ih (i + 1) k (by omega) (by omega), Bool.eq_false_iff.mpr hb]; rfl
/-- What presses make, button by button. -/
theorem eff_row (odd : Bool) (S i : Nat) (hi : i < l.length) : (eff (fun j => (lF (nr l) (fOdd l odd) l.length).getD j 0) l.length S).testBit i = ((pc (nr l i &&& S) % 2 == 1) ^^ (fOdd l odd i && S.testBit i)) := by
  have hs : ∀ a b, a < l.length → b < l.length → (nr l a).testBit b = (nr l b).testBit a := fun a b ha hb => by
    rw [Bool.eq_iff_iff]; exact ⟨gsym G a b ha hb, gsym G b a hb ha⟩
  rw [eff_bit_at]
  have h3 : ∀ j, j < l.length → (S.testBit j && ((lF (nr l) (fOdd l odd) l.length).getD j 0).testBit i) = (((nr l i &&& S).testBit j) ^^ (decide (j = i) && (fOdd l odd j && S.testBit j))) := fun j hj => by
    rw [lF_at _ _ hj, rowF_bit, hs j i hj hi, Nat.testBit_and]
    by_cases e : j = i
    · subst e
      rw [gloop G j hj, decide_eq_true rfl]
      cases S.testBit j <;> cases fOdd l odd j <;> rfl
    · rw [decide_eq_false e]
      cases S.testBit j <;> cases (nr l i).testBit j <;> simp
  rw [xs_congr _ h3, xs_xor, xs_eq (fun j => fOdd l odd j && S.testBit j) i _ hi, par_n G.2.1 (Nat.lt_of_le_of_lt Nat.and_le_left (glt G i hi))]
theorem even_iff (x c : Nat) (hx : x < 2 ^ l.length) (hc : ∀ i, c.testBit i = (decide (i < l.length) && !x.testBit i)) :
    (allE l x l.length 0 && allE l c l.length 0) = decide (eff (fun j => (lF (nr l) (fOdd l false) l.length).getD j 0) l.length x = wOf (fOdd l false) l.length) := by
  have hpar : ∀ i, i < l.length → (pc (nr l i &&& c) % 2 == 1) = ((pc (nr l i) % 2 == 1) ^^ (pc (nr l i &&& x) % 2 == 1)) := fun i hi => by
    have hn := glt G i hi
    rw [← par_n G.2.1 (Nat.lt_of_le_of_lt Nat.and_le_left hn), ← par_n G.2.1 hn, ← par_n G.2.1 (Nat.lt_of_le_of_lt Nat.and_le_left hn), ← xs_xor]
    refine xs_congr _ (fun j hj => ?_)
    rw [Nat.testBit_and, Nat.testBit_and, hc, decide_eq_true hj]
    cases (nr l i).testBit j <;> cases x.testBit j <;> rfl
  have hodd : ∀ i, fOdd l false i = (pc (nr l i) % 2 == 1) := fun i => by unfold fOdd; simp
  have hbit : ∀ m : Nat, m % 2 = 0 ↔ (m % 2 == 1) = false := fun m => by
    have : m % 2 = 0 ∨ m % 2 = 1 := by omega
    rcases this with h | h <;> rw [h] <;> simp
  have hY := sym_of l G (fOdd l false)
  have h2 : eff (fun j => (lF (nr l) (fOdd l false) l.length).getD j 0) l.length x < 2 ^ l.length := eff_lt _ _ _ (fun i hi => by
    have := hY.l ((lF (nr l) (fOdd l false) l.length).getD i 0) (by
      rw [List.getD_eq_getElem?_getD, List.getElem?_eq_getElem (by rw [lF_len]; exact hi)]; exact List.getElem_mem _)
    rwa [lF_len] at this)
  rw [Bool.eq_iff_iff, Bool.and_eq_true, allE_iff, allE_iff, decide_eq_true_iff]
  constructor
  · rintro ⟨h3, h4⟩
    apply Nat.eq_of_testBit_eq
    intro i
    rw [wOf_bit]
    by_cases hi : i < l.length
    · rw [eff_row l G false x i hi, decide_eq_true hi, hodd]
      cases hb : x.testBit i with
      | true =>
        have := (hbit _).1 (h3 i (Nat.zero_le _) (by omega) hb)
        rw [this]; simp
      | false =>
        have := (hbit _).1 (h4 i (Nat.zero_le _) (by omega) (by rw [hc, decide_eq_true hi, hb]; rfl))
        rw [hpar i hi] at this
        revert this
        cases (pc (nr l i) % 2 == 1) <;> cases (pc (nr l i &&& x) % 2 == 1) <;> simp
    · rw [decide_eq_false hi, Nat.testBit_lt_two_pow (Nat.lt_of_lt_of_le h2 (Nat.pow_le_pow_right (by omega) (by omega)))]; rfl
  · intro h
    have key : ∀ i, i < l.length → ((pc (nr l i &&& x) % 2 == 1) ^^ ((pc (nr l i) % 2 == 1) && x.testBit i)) = (pc (nr l i) % 2 == 1) := fun i hi => by
      have := eff_row l G false x i hi
      rw [h, wOf_bit, decide_eq_true hi, hodd] at this
      simpa using this.symm
    refine ⟨fun i _ hi hb => ?_, fun i _ hi hb => ?_⟩
    · have := key i (by omega)
      rw [hb] at this
      refine (hbit _).2 ?_
      revert this
      cases (pc (nr l i) % 2 == 1) <;> cases (pc (nr l i &&& x) % 2 == 1) <;> simp
    · have hi' : i < l.length := by omega
      rw [hc, decide_eq_true hi'] at hb
      have hb' : x.testBit i = false := by simpa using hb
      have := key i hi'
      rw [hb'] at this
      refine (hbit _).2 ?_
      rw [hpar i hi']
      revert this
      cases (pc (nr l i) % 2 == 1) <;> cases (pc (nr l i &&& x) % 2 == 1) <;> simp
end
end Go.Proofs.Ytoobofnpdiapgaa.Gr

namespace Go.Proofs.Ytoobofnpdiapgaa.Gr
open Go.RowKit Go.Proofs.Ytoobofnpdiapgaa.P Go.Proofs.Ytoobofnpdiapgaa.Bt Go.Proofs.Ytoobofnpdiapgaa.Lw Go.Proofs.Ytoobofnpdiapgaa.Gf Go.Proofs.Ytoobofnpdiapgaa.Sp Go.Proofs.Ytoobofnpdiapgaa.Pa Go.Proofs.Ytoobofnpdiapgaa.St Go.Proofs.Ytoobofnpdiapgaa.Sv Go.Proofs.Ytoobofnpdiapgaa.Sy Go.Proofs.Ytoobofnpdiapgaa.Bo Go.Proofs.YtoobofnpdiapgaaW.PrintWords Go.Proofs.YtoobofnpdiapgaaW.PrintLast Go.Proofs.YtoobofnpdiapgaaW.PrintMore
set_option linter.unusedVariables false
set_option linter.unusedSimpArgs false

theorem bits_andNot {a b : Nat} (ha : a < 9223372036854775808) (hb : b < 9223372036854775808) : ∃ c : Nat, Go.bits .andNot .i64 (a : Int) (b : Int) = (c : Int) ∧ c ≤ a ∧ ∀ i, c.testBit i = (a.testBit i && !b.testBit i) := by
  refine ⟨(BitVec.ofInt 64 (a : Int) &&& ~~~BitVec.ofInt 64 (b : Int)).toNat, ?_, ?_, fun i => ?_⟩
  · have h : (BitVec.ofInt 64 (a : Int) &&& ~~~BitVec.ofInt 64 (b : Int)).toNat < 9223372036854775808 := by
      rw [BitVec.toNat_and, ofInt_nat ha]
      exact Nat.lt_of_le_of_lt Nat.and_le_left ha
    show IntKind.i64.wrap ((BitVec.ofInt 64 (a : Int) &&& ~~~BitVec.ofInt 64 (b : Int)).toNat : Int) = _
    rw [i64_w, wrap_nat h]
  · rw [BitVec.toNat_and, ofInt_nat ha]
    exact Nat.and_le_left
  · rw [BitVec.toNat_and, Nat.testBit_and, BitVec.toNat_not, ofInt_nat ha, ofInt_nat hb, Nat.sub_sub, Nat.add_comm 1 b, Nat.testBit_two_pow_sub_succ (by omega)]
    by_cases h : i < 64
    · rw [decide_eq_true h]; simp
    · have : a.testBit i = false := Nat.testBit_lt_two_pow (Nat.lt_of_lt_of_le ha (Nat.le_trans (show 9223372036854775808 ≤ 2 ^ 64 by decide) (Nat.pow_le_pow_right (by omega) (by omega))))
      rw [this]; simp
theorem patI_at {b : Nat} (hb : b < 65536) : ∀ (S out : List Nat), (∀ x ∈ S, x < 65536) → out.length + S.length ≤ 1000000 → patI (b : Int) (ci S) (ci out) = some (ci (out ++ S.map (· ^^^ b)))
  | [], out, _, _ => by simp [ci, patI]
  | s :: S, out, hS, hl => by
    have hs := hS s (List.mem_cons_self ..)
    have hl' : out.length + (S.length + 1) ≤ 1000000 := hl
    show patI (b : Int) ((s : Int) :: ci S) (ci out) = _
    rw [patI, if_pos (by rw [ci_length]; omega), bits_xor (by omega) (by omega), ci_snoc, patI_at hb S _ (fun x hx => hS x (List.mem_cons_of_mem _ hx)) (by rw [List.length_append, List.length_singleton]; omega)]
    simp
theorem sums_small {C : List Nat} (h : ∀ x ∈ C, x < 65536) : ∀ x ∈ sums C, x < 65536 := fun x hx =>
  InSpan.sub (P := fun v => v < 65536) (by omega) (fun u v hu hv => xor16 hu hv) h ((sums_mem C x).1 hx)
theorem patL_at : ∀ (B C : List Nat), (∀ x ∈ B, x < 65536) → (∀ x ∈ C, x < 65536) → B.length + C.length ≤ 16 → patL (ci B) (ci (sums C)) = some (ci (sums (B.reverse ++ C)))
  | [], C, _, _, _ => by simp [ci, patL]
  | b :: B, C, hB, hC, hl => by
    have hb := hB b (List.mem_cons_self ..)
    have hl' : B.length + 1 + C.length ≤ 16 := hl
    have hp : 2 ^ C.length ≤ 65536 := pow_le16 (by omega)
    have hq := Nat.two_pow_pos C.length
    show patL ((b : Int) :: ci B) (ci (sums C)) = _
    rw [patL, if_pos (by rw [ci_length, sums_len]; omega), patI_at hb _ _ (sums_small hC) (by rw [sums_len]; omega)]
    simp only [Option.bind_some]
    have := patL_at B (b :: C) (fun x hx => hB x (List.mem_cons_of_mem _ hx)) (fun x hx => by
      rcases List.mem_cons.1 hx with rfl | hx
      · exact hb
      · exact hC x hx) (by rw [List.length_cons]; omega)
    rw [show sums C ++ (sums C).map (· ^^^ b) = sums (b :: C) from rfl, this]
    simp
theorem oneI_at {b : Nat} (hb : b < 65536) : ∀ (S out : List Nat), (∀ x ∈ S, x < 65536) → out.length + S.length ≤ 1000000 → oneI (b : Int) (ci S) (ci out) = some (ci (out ++ S.map (b ^^^ ·)))
  | [], out, _, _ => by simp [ci, oneI]
  | s :: S, out, hS, hl => by
    have hs := hS s (List.mem_cons_self ..)
    have hl' : out.length + (S.length + 1) ≤ 1000000 := hl
    show oneI (b : Int) ((s : Int) :: ci S) (ci out) = _
    rw [oneI, if_pos (by rw [ci_length]; omega), bits_xor (by omega) (by omega), ci_snoc, oneI_at hb S _ (fun x hx => hS x (List.mem_cons_of_mem _ hx)) (by rw [List.length_append, List.length_singleton]; omega)]
    simp
theorem ci_le {l : List Nat} (h : l.Pairwise (· ≤ ·)) : (ci l).Pairwise (· ≤ ·) := by
  unfold ci
  rw [List.pairwise_map]
  exact h.imp (fun h => by omega)
/-- The program's list of splits. -/
theorem list_at {Q : List Nat} {r N W : Nat} {e : Nat → Nat} (hQ : Rb Q) (hl : Q.length ≤ 16) (hn : N ≤ 65536) (hs : ∀ x ∈ Q, x < 65536) (hk : ∀ v, InSpan Q v ↔ v < N ∧ e v = 0) (hx : ∀ u v, u < N → v < N → u ^^^ v < N) (he : ∀ u v, e (u ^^^ v) = e u ^^^ e v) (hr : r < N) (hrW : e r = W) :
    ∃ o q u, patL (ci Q) [0] = some o ∧ slices_Sort_int_int.f o = some q ∧ oneI (r : Int) q [] = some u ∧ slices_Sort_int_int.f u = some (ci ((List.range' 0 N).filter fun x => decide (e x = W))) := by
  have hp : 2 ^ Q.length ≤ 65536 := pow_le16 hl
  have h1 := patL_at Q [] hs (fun x hx => by cases hx) (by simpa using hl)
  rw [List.append_nil] at h1
  have hlen : (sums Q.reverse).length = 2 ^ Q.length := by rw [sums_len, List.length_reverse]
  have hsort : slices_Sort_int_int.f (ci (sums Q.reverse)) = some ((ci (sums Q.reverse)).mergeSort fun x y => decide (x ≤ y)) := by
    unfold slices_Sort_int_int.f
    rw [if_pos (by rw [ci_length, hlen]; omega)]
  obtain ⟨B, eB, pB⟩ := ci_toNat (List.mergeSort_perm (ci (sums Q.reverse)) (fun x y => decide (x ≤ y)))
  have hlB : B.length = 2 ^ Q.length := pB.length_eq.trans hlen
  have hmem : ∀ x, x ∈ B ↔ InSpan Q x := fun x => by rw [pB.mem_iff, sums_mem, InSpan.perm (List.reverse_perm Q)]
  have hBs : ∀ x ∈ B, x < 65536 := fun x hx => by have := ((hk x).1 ((hmem x).1 hx)).1; omega
  have hnd : B.Nodup := pB.nodup_iff.2 (sums_nodup (hQ.perm (List.reverse_perm Q)).tro.tri)
  refine ⟨_, _, ci (B.map (r ^^^ ·)), h1, hsort, ?_, ?_⟩
  · rw [eB]
    have := oneI_at (b := r) (by omega) B [] hBs (by simp; omega)
    exact this
  · unfold slices_Sort_int_int.f
    rw [if_pos (by rw [ci_length, List.length_map, hlB]; omega)]
    congr 1
    have pF : (B.map (r ^^^ ·)).Perm ((List.range' 0 N).filter fun x => decide (e x = W)) := by
      rw [List.perm_ext_iff_of_nodup]
      · intro y
        rw [List.mem_map, List.mem_filter, List.mem_range'_1, decide_eq_true_iff]
        constructor
        · rintro ⟨z, hz, rfl⟩
          obtain ⟨z1, z2⟩ := (hk z).1 ((hmem z).1 hz)
          exact ⟨⟨Nat.zero_le _, by have := hx r z hr z1; omega⟩, by rw [he, z2, Nat.xor_zero, hrW]⟩
        · rintro ⟨⟨_, h2⟩, h3⟩
          refine ⟨r ^^^ y, (hmem _).2 ((hk _).2 ⟨hx r y hr (by omega), by rw [he, hrW, h3, Nat.xor_self]⟩), ?_⟩
          show r ^^^ (r ^^^ y) = y
          rw [← Nat.xor_assoc, Nat.xor_self, Nat.zero_xor]
      · rw [List.nodup_iff_pairwise_ne, List.pairwise_map]
        exact (List.nodup_iff_pairwise_ne.1 hnd).imp (fun hab e => hab (by
          have := congrArg (r ^^^ ·) e
          simpa [← Nat.xor_assoc, Nat.xor_self] using this))
      · exact List.Pairwise.filter _ List.nodup_range'
    refine List.Perm.eq_of_pairwise (le := fun x y => x ≤ y) (fun a b _ _ h1 h2 => by omega) ?_ ?_ ((List.mergeSort_perm _ _).trans ?_)
    · have := List.pairwise_mergeSort (le := fun (x y : Int) => decide (x ≤ y)) (fun a b c h1 h2 => by simp at *; omega) (fun a b => by simp; omega) (ci (B.map (r ^^^ ·)))
      exact this.imp (fun h => by simpa using h)
    · exact ci_le (List.Pairwise.filter _ ((List.pairwise_lt_range' (s := 0) (n := N)).imp (fun h => Nat.le_of_lt h)))
    · unfold ci
      exact pF.map _
section
variable (l : List Int) (G : Good l)
include G
/-- The model's list of splits. -/
theorem spl_at (own : Bool) : ∀ (d x k : Nat) (acc : List Nat), x + d = 2 ^ l.length → acc.length ≤ x → d + 100 < k →
    spec_EvenSplits.l0 k ((2 ^ l.length - 1 : Nat) : Int) (ci acc) (x : Int) l own = some (ci (acc ++ (List.range' x d).filter fun y => decide (eff (fun j => (lF (nr l) (fOdd l false) l.length).getD j 0) l.length y = wOf (fOdd l false) l.length)), true) := by
  have hl := G.2.1
  have hp : 2 ^ l.length ≤ 65536 := pow_le16 hl
  have hq := Nat.two_pow_pos l.length
  intro d
  induction d with
  | zero =>
    intro x k acc hx ha hk
    obtain ⟨k, rfl⟩ : ∃ m, k = m + 1 := ⟨k - 1, by omega⟩
    rw [spec_EvenSplits.l0, if_neg (by omega)]; simp
  | succ d ih =>
    intro x k acc hx ha hk
    obtain ⟨k, rfl⟩ : ∃ m, k = m + 1 := ⟨k - 1, by omega⟩
    obtain ⟨c, hc, hcl, hcb⟩ := bits_andNot (a := 2 ^ l.length - 1) (b := x) (by omega) (by omega)
    have hcb' : ∀ i, c.testBit i = (decide (i < l.length) && !x.testBit i) := fun i => by rw [hcb, Nat.testBit_two_pow_sub_one]
    have hiff := even_iff l G x c (by omega) hcb'
    have a1 := all_at l G own x (by omega) l.length 0 k (by omega) (by omega)
    have a2 := all_at l G own c (by omega) l.length 0 k (by omega) (by omega)
    rw [spec_EvenSplits.l0, if_pos (by omega), hc]
    unfold spec_paAll.f
    rw [show ((0 : Nat) : Int) = 0 from rfl] at a1 a2
    rw [a1, a2]
    simp only [Option.bind_some]
    rw [List.range'_succ, List.filter_cons, ← hiff, step1' (by omega)]
    cases h1 : allE l x l.length 0 with
    | false =>
      rw [if_neg (by simp)]
      simpa using ih (x + 1) k acc (by omega) (by omega) (by omega)
    | true =>
      rw [if_pos rfl]
      cases h2 : allE l c l.length 0 with
      | false =>
        rw [if_neg (by simp)]
        simpa using ih (x + 1) k acc (by omega) (by omega) (by omega)
      | true =>
        rw [if_pos rfl, if_pos (by rw [ci_length]; omega), ci_snoc, ih (x + 1) k (acc ++ [x]) (by omega) (by simp; omega) (by omega)]
        simp
/-- Both sides' answers for a graph, and what the program's basis is. -/
theorem split_more (own : Bool) : ∃ (m r : Nat) (Q : List Nat), m ≤ l.length ∧ r < 2 ^ l.length ∧ eff (fun j => (lF (nr l) (fOdd l false) l.length).getD j 0) l.length r = wOf (fOdd l false) l.length ∧ Rb Q ∧ Q.length = l.length - m ∧
    (∀ v, InSpan Q v ↔ v < 2 ^ l.length ∧ eff (fun j => (lF (nr l) (fOdd l false) l.length).getD j 0) l.length v = 0) ∧
    Ev (fun k => spec_paSplit.f k l own false) (((2 ^ (l.length - m) : Nat) : Int), (r : Int)) ∧
    ∃ (E : List Int) (W : Int) (s : List (Int × Int) × List Int × List Int) (rp : Int), splF 0 l 0 [] 0 = some (E, W) ∧ solF 1000 E 0 [] [] [] = some s ∧ s.2.1 = ci Q ∧ reachL s.1 1000 W 0 = some (0, rp) ∧ impl_reduced.f s.2.1 rp = some (r : Int) := by
  have hl := G.2.1
  obtain ⟨m, r, hm, hr, hev, E, W, s, rp, s1, s2, s3, s4, s5⟩ := split_good l G own false
  have t1 := splF_at l G false l.length 0 (by omega)
  rw [List.drop_zero, show ci (List.take 0 (lF (nr l) (fOdd l false) l.length)) = [] by simp [ci], show ((wOf (fOdd l false) 0 : Nat) : Int) = 0 from rfl] at t1
  have t2 := s1.symm.trans t1
  injection t2 with t2
  injection t2 with e1 e2
  obtain ⟨P, Q, I, q1, hI⟩ := solF_all (L := lF (nr l) (fOdd l false) l.length) (fun x hx => by
    have := (sym_of l G (fOdd l false)).l x hx
    have hp : 2 ^ l.length ≤ 65536 := pow_le16 hl
    rw [lF_len] at this; omega) (by rw [lF_len]; exact hl) (k := 1000) (by omega)
  rw [e1, q1] at s2
  injection s2 with s2
  obtain ⟨m', r', f1, f2, f3, f4, f5, f6⟩ := spec_main (sym_of l G (fOdd l false))
  have hrr : r = r' := by
    obtain ⟨K, hK⟩ := hev
    have hK := hK (K + 100) (by omega)
    simp only at hK
    unfold spec_paSplit.f spec_paEquations.f at hK
    have h1 := eqs_at l G own false l.length 0 (by omega) (K + 100) (by omega)
    rw [show ci (List.take 0 (lF (nr l) (fOdd l false) l.length)) = [] by simp [ci], show ((wOf (fOdd l false) 0 : Nat) : Int) = 0 from rfl, show ((0 : Nat) : Int) = 0 from rfl] at h1
    rw [h1] at hK
    simp only [Option.bind_some] at hK
    rw [lF_len] at f1
    rw [f1] at hK
    simp only [Option.bind_some] at hK
    split at hK
    · injection hK with hK
      injection hK with _ hK
      omega
    · cases hK
  rw [lF_len] at hI f5
  have hQ2 : s.2.1 = ci Q := by rw [← s2]
  refine ⟨m, r, Q, hm, hr, by rw [hrr]; exact f5, hI.qr, by rw [← s3, hQ2, ci_length], fun v => ⟨fun h => ?_, fun h => ?_⟩, hev, E, W, s, rp, s1, by rw [e1, q1, s2], hQ2, s4, s5⟩
  · have := hI.qe v h
    rw [lF_len] at this
    exact this
  · have := hI.ker v h.1
    rw [lF_len] at this
    exact this h.2
end
end Go.Proofs.Ytoobofnpdiapgaa.Gr
