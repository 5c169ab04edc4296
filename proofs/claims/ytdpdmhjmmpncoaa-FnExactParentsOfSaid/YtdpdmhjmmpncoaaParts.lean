/- The parts of a graph: both sides find the least closed sets, one after another. -/
import Derived.Test.YtdpdmhjmmpncoaaClose
import Derived.Test.YtdpdmhjmmpncoaaBundleA
import Derived.Test.YtdpdmhjmmpncoaaPx3
import Derived.Test.YtdpdmhjmmpncoaaPx5
namespace Go.Proofs.Ytdpdmhjmmpncoaa.Gr
open Go.RowKit Go.Proofs.Ytdpdmhjmmpncoaa.P Go.Proofs.Ytdpdmhjmmpncoaa.Bt Go.Proofs.Ytdpdmhjmmpncoaa.Lw Go.Proofs.Ytdpdmhjmmpncoaa.Cl Go.Proofs.YtdpdmhjmmpncoaaW.PrintWords Go.Proofs.YtdpdmhjmmpncoaaW.PrintLast Go.Proofs.YtdpdmhjmmpncoaaW.PrintMore
set_option linter.unusedVariables false
set_option linter.unusedSimpArgs false

section
variable (l : List Int) (own : Bool) (hl : l.length ≤ 16) (hr : Rng l)
include hl hr
theorem spec_sweep (acc : List Int) (see i m : Nat) (r : List Int) : ∀ (d v S : Nat), v + d = l.length → S < 2 ^ l.length →
    Ev (fun k => spec_paParts.l1 k acc (see : Int) ((swS (nr l) d v S : Nat) : Int) (wrap64 ((m : Int) + 1)) (l.length : Int) (i : Int) l own) r →
    Ev (fun k => spec_paParts.l2 k acc (see : Int) (S : Int) (m : Int) (l.length : Int) (i : Int) l (l.length : Int) (v : Int) l own) r := by
  have hp := pow16 hl
  intro d
  induction d with
  | zero =>
    intro v S hv hS h
    refine Ev.succ h 0 fun k _ => ?_
    rw [spec_paParts.l2, if_neg (by omega)]
    rfl
  | succ d ih =>
    intro v S hv hS h
    have hrv : rd l (v : Int) = (nr l v : Int) := by rw [rd_nat]; exact nr_cast hr (by omega)
    have hlt := nr_lt hr (i := v) (by omega)
    by_cases c : S.testBit v = true
    · have h2 := ih (v + 1) (S ||| nr l v) (by omega) (Nat.or_lt_two_pow hS hlt) (by rw [swS, if_pos c] at h; exact h)
      refine Ev.succ h2 0 fun k _ => ?_
      rw [spec_paParts.l2, if_pos (by omega), if_pos (by omega), if_pos (by omega), grIn_nat S v (by omega), c]
      simp only [Option.bind_some, if_true]
      rw [hrv, bits_or (by omega) (by omega), step1 (by omega)]
    · have h2 := ih (v + 1) S (by omega) hS (by rw [swS, if_neg c] at h; exact h)
      refine Ev.succ h2 0 fun k _ => ?_
      rw [spec_paParts.l2, if_pos (by omega), if_pos (by omega), if_pos (by omega), grIn_nat S v (by omega), Bool.eq_false_iff.mpr c]
      simp only [Option.bind_some]
      rw [if_neg (by simp), step1 (by omega)]
theorem spec_hull (acc : List Int) (see i : Nat) (hacc : acc.length ≤ 16) (r : List Int) (hs : see < 2 ^ l.length) (hi : i < l.length) : ∀ (d m S : Nat), m + d = l.length → S < 2 ^ l.length →
    Ev (fun k => spec_paParts.l0 k (acc ++ [((sweeps (nr l) l.length d S : Nat) : Int)]) ((see ||| sweeps (nr l) l.length d S : Nat) : Int) (l.length : Int) ((i + 1 : Nat) : Int) l own) r →
    Ev (fun k => spec_paParts.l1 k acc (see : Int) (S : Int) (m : Int) (l.length : Int) (i : Int) l own) r := by
  have hp := pow16 hl
  intro d
  induction d with
  | zero =>
    intro m S hm hS h
    refine Ev.succ h 0 fun k _ => ?_
    rw [spec_paParts.l1, if_neg (by omega), if_pos (by omega), bits_or (by omega) (by omega), step1 (by omega)]
    rfl
  | succ d ih =>
    intro m S hm hS h
    have h2 := ih (m + 1) (swS (nr l) l.length 0 S) (by omega) (swS_lt (nr l) (fun v hv => nr_lt hr hv) _ _ _ (by omega) hS) h
    have h3 := spec_sweep l own hl hr acc see i m r l.length 0 S (by omega) hS (by rw [step1 (by omega)]; exact h2)
    refine Ev.succ h3 0 fun k _ => ?_
    rw [spec_paParts.l1, if_pos (by omega)]
    rfl
theorem impl_sweep (acc : List Int) (see i old : Nat) (r : List Int) (ho : old < 2 ^ l.length) : ∀ (d v S : Nat), v + d = l.length → S < 2 ^ l.length →
    Ev (fun k => impl_Graph_parts.l1 k acc (see : Int) (old : Int) ((swI (nr l) old d v S : Nat) : Int) (l.length : Int) (i : Int) l own) r →
    Ev (fun k => impl_Graph_parts.l2 k acc (see : Int) (old : Int) (S : Int) (l.length : Int) (i : Int) l (l.length : Int) (v : Int) l own) r := by
  have hp := pow16 hl
  intro d
  induction d with
  | zero =>
    intro v S hv hS h
    refine Ev.succ h 0 fun k _ => ?_
    rw [impl_Graph_parts.l2, if_neg (by omega)]
    rfl
  | succ d ih =>
    intro v S hv hS h
    have hrv : rd l (v : Int) = (nr l v : Int) := by rw [rd_nat]; exact nr_cast hr (by omega)
    have hlt := nr_lt hr (i := v) (by omega)
    by_cases c : old.testBit v = true
    · have h2 := ih (v + 1) (S ||| nr l v) (by omega) (Nat.or_lt_two_pow hS hlt) (by rw [swI, if_pos c] at h; exact h)
      refine Ev.succ h2 0 fun k _ => ?_
      rw [impl_Graph_parts.l2, if_pos (by omega), if_pos (by omega), if_pos (by omega), has_nat old v (by omega), c]
      simp only [Option.bind_some, if_true]
      rw [hrv, bits_or (by omega) (by omega), step1 (by omega)]
    · have h2 := ih (v + 1) S (by omega) hS (by rw [swI, if_neg c] at h; exact h)
      refine Ev.succ h2 0 fun k _ => ?_
      rw [impl_Graph_parts.l2, if_pos (by omega), if_pos (by omega), if_pos (by omega), has_nat old v (by omega), Bool.eq_false_iff.mpr c]
      simp only [Option.bind_some]
      rw [if_neg (by simp), step1 (by omega)]
/-- The other side's loop: until nothing is new. -/
theorem impl_hull (acc : List Int) (see i : Nat) (hacc : acc.length ≤ 16) (r : List Int) (hs : see < 2 ^ l.length) (hi : i < l.length) (T : Nat) (hT : Closed (nr l) l.length T) : ∀ (d S : Nat), l.length ≤ card l.length S + d → S < 2 ^ l.length → Sub S T → (∀ C, Closed (nr l) l.length C → Sub S C → Sub T C) →
    Ev (fun k => impl_Graph_parts.l0 k (acc ++ [(T : Int)]) ((see ||| T : Nat) : Int) (l.length : Int) ((i + 1 : Nat) : Int) l own) r →
    ∀ old, old ≠ S → Ev (fun k => impl_Graph_parts.l1 k acc (see : Int) (old : Int) (S : Int) (l.length : Int) (i : Int) l own) r := by
  have hp := pow16 hl
  intro d
  induction d with
  | zero =>
    intro S hc hS h1 h2 h old hne
    have hlt := swI_lt (nr l) (fun v hv => nr_lt hr hv) S l.length 0 S (by omega) hS
    have hsub := swI_sub (nr l) S l.length 0 S
    have e : swI (nr l) S l.length 0 S = S := by
      apply Classical.byContradiction
      intro hn
      have h3 := grow hlt hsub hn
      have h4 := card_le l.length (swI (nr l) S l.length 0 S)
      omega
    have hcl : Closed (nr l) l.length S := fun v hv hb => by
      have := swI_mem (nr l) S l.length 0 S v (by omega) (by omega) hb
      rwa [e] at this
    have : T = S := Sub.anti (h2 S hcl (Sub.refl _)) h1
    subst this
    have h5 : Ev (fun k => impl_Graph_parts.l1 k acc (see : Int) (T : Int) ((swI (nr l) T l.length 0 T : Nat) : Int) (l.length : Int) (i : Int) l own) r := by
      rw [e]
      refine Ev.succ h 0 fun k _ => ?_
      rw [impl_Graph_parts.l1, if_pos rfl, if_pos (by omega), bits_or (by omega) (by omega), step1 (by omega)]
    refine Ev.succ (impl_sweep l own hl hr acc see i T r hS l.length 0 T (by omega) hS h5) 0 fun k _ => ?_
    rw [impl_Graph_parts.l1, if_neg (by omega)]
    rfl
  | succ d ih =>
    intro S hc hS h1 h2 h old hne
    have hlt := swI_lt (nr l) (fun v hv => nr_lt hr hv) S l.length 0 S (by omega) hS
    have hsub := swI_sub (nr l) S l.length 0 S
    have h5 : Ev (fun k => impl_Graph_parts.l1 k acc (see : Int) (S : Int) ((swI (nr l) S l.length 0 S : Nat) : Int) (l.length : Int) (i : Int) l own) r := by
      by_cases e : swI (nr l) S l.length 0 S = S
      · have hcl : Closed (nr l) l.length S := fun v hv hb => by
          have := swI_mem (nr l) S l.length 0 S v (by omega) (by omega) hb
          rwa [e] at this
        have : T = S := Sub.anti (h2 S hcl (Sub.refl _)) h1
        subst this
        rw [e]
        refine Ev.succ h 0 fun k _ => ?_
        rw [impl_Graph_parts.l1, if_pos rfl, if_pos (by omega), bits_or (by omega) (by omega), step1 (by omega)]
      · have h3 := grow hlt hsub e
        exact ih (swI (nr l) S l.length 0 S) (by omega) hlt (swI_in (nr l) hT h1 _ _ _ (by omega) h1) (fun C hC hs' => h2 C hC (Sub.trans hsub hs')) h S (fun e' => e e'.symm)
    refine Ev.succ (impl_sweep l own hl hr acc see i S r hS l.length 0 S (by omega) hS h5) 0 fun k _ => ?_
    rw [impl_Graph_parts.l1, if_neg (by omega)]
    rfl
/-- The parts, as a plain law: see what was seen, and take the next part. -/
def partsOf : Nat → Nat → Nat → List Nat → List Nat
  | 0, _, _, acc => acc
  | d + 1, i, see, acc => if see.testBit i = true then partsOf d (i + 1) see acc else partsOf d (i + 1) (see ||| hull (nr l) l.length (1 <<< i)) (acc ++ [hull (nr l) l.length (1 <<< i)])
end
def up (l : List Nat) : List Int := List.map (fun n : Nat => (n : Int)) l
theorem up_length (l : List Nat) : (up l).length = l.length := by simp [up]
theorem up_add (l : List Nat) (n : Nat) : up (l ++ [n]) = up l ++ [(n : Int)] := by simp [up]
theorem one_bit_lt {n i : Nat} (h : i < n) : 1 <<< i < 2 ^ n := by
  rw [Nat.one_shiftLeft]; exact Nat.pow_lt_pow_right (by omega) h
theorem partsOf_length (l : List Int) : ∀ d i see acc, (partsOf l d i see acc).length ≤ acc.length + d := by
  intro d
  induction d with
  | zero => intro i see acc; exact Nat.le_refl _
  | succ d ih =>
    intro i see acc
    rw [partsOf]
    split
    · have := ih (i + 1) see acc; omega
    · have := ih (i + 1) (see ||| hull (nr l) l.length (1 <<< i)) (acc ++ [hull (nr l) l.length (1 <<< i)])
      simp at this
      omega
theorem parts_both (l : List Int) (own : Bool) (hl : l.length ≤ 16) (hr : Rng l) : ∀ (d i see : Nat) (acc : List Nat), i + d = l.length → acc.length ≤ i → see < 2 ^ l.length →
    Ev (fun k => spec_paParts.l0 k (up acc) (see : Int) (l.length : Int) (i : Int) l own) (up (partsOf l d i see acc)) ∧ Ev (fun k => impl_Graph_parts.l0 k (up acc) (see : Int) (l.length : Int) (i : Int) l own) (up (partsOf l d i see acc)) := by
  have hp := pow16 hl
  have hR : ∀ v, v < l.length → nr l v < 2 ^ l.length := fun v hv => nr_lt hr hv
  intro d
  induction d with
  | zero =>
    intro i see acc hi ha hs
    refine ⟨Ev.konst 1 fun k hk => ?_, Ev.konst 1 fun k hk => ?_⟩
    · obtain ⟨k, rfl⟩ : ∃ m, k = m + 1 := ⟨k - 1, by omega⟩
      rw [spec_paParts.l0, if_neg (by omega)]; rfl
    · obtain ⟨k, rfl⟩ : ∃ m, k = m + 1 := ⟨k - 1, by omega⟩
      rw [impl_Graph_parts.l0, if_neg (by omega)]; rfl
  | succ d ih =>
    intro i see acc hi ha hs
    have hsm : see < 9223372036854775808 := by omega
    rw [partsOf]
    by_cases c : see.testBit i = true
    · rw [if_pos c]
      obtain ⟨e1, e2⟩ := ih (i + 1) see acc (by omega) (by omega) hs
      refine ⟨Ev.succ e1 0 fun k _ => ?_, Ev.succ e2 0 fun k _ => ?_⟩
      · rw [spec_paParts.l0, if_pos (by omega), grIn_nat see i hsm, c]
        simp only [Option.bind_some, if_true]
        rw [step1 (by omega)]
      · rw [impl_Graph_parts.l0, if_pos (by omega), has_nat see i hsm, c]
        simp only [Option.bind_some, if_true]
        rw [step1 (by omega)]
    · rw [if_neg c]
      have hb := one_bit_lt (n := l.length) (i := i) (by omega)
      have hh := hull_lt (nr l) hR hb
      obtain ⟨e1, e2⟩ := ih (i + 1) (see ||| hull (nr l) l.length (1 <<< i)) (acc ++ [hull (nr l) l.length (1 <<< i)]) (by omega) (by simp; omega) (Nat.or_lt_two_pow hs hh)
      rw [up_add] at e1 e2
      have hsh : shl .i64 1 (i : Int) = ((1 <<< i : Nat) : Int) := by
        have := shl_nat (a := 1) (n := i) (by omega) (by rw [← Nat.shiftLeft_eq]; omega)
        simpa using this
      have f1 := spec_hull l own hl hr (up acc) see i (by rw [up_length]; omega) _ hs (by omega) l.length 0 (1 <<< i) (by omega) hb e1
      have hne : (0 : Nat) ≠ 1 <<< i := by
        have := Nat.two_pow_pos i
        rw [Nat.one_shiftLeft]; omega
      have f2 := impl_hull l own hl hr (up acc) see i (by rw [up_length]; omega) _ hs (by omega) (hull (nr l) l.length (1 <<< i)) (hull_closed (nr l) hR hb) l.length (1 <<< i) (by omega) hb (hull_sub (nr l) hR hb) (fun C hC h => hull_in (nr l) hC h) e2 0 hne
      refine ⟨Ev.succ f1 0 fun k _ => ?_, Ev.succ f2 0 fun k _ => ?_⟩
      · rw [spec_paParts.l0, if_pos (by omega), grIn_nat see i hsm, Bool.eq_false_iff.mpr c]
        simp only [Option.bind_some]
        rw [if_neg (by simp), if_pos (by omega), hsh]
        rfl
      · rw [impl_Graph_parts.l0, if_pos (by omega), has_nat see i hsm, Bool.eq_false_iff.mpr c]
        simp only [Option.bind_some]
        rw [if_neg (by simp), if_pos (by omega), hsh]
        rfl
theorem parts_ev (l : List Int) (own : Bool) (hl : l.length ≤ 16) (hr : Rng l) : Ev (fun k => spec_paParts.f k l own) (up (partsOf l l.length 0 0 [])) ∧ Ev (fun k => impl_Graph_parts.f k l own) (up (partsOf l l.length 0 0 [])) := by
  have := parts_both l own hl hr l.length 0 0 [] (by omega) (by simp) (Nat.two_pow_pos _)
  exact this
end Go.Proofs.Ytdpdmhjmmpncoaa.Gr
