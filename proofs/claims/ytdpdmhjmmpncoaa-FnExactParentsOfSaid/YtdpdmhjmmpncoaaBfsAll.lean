/- The whole search: its roots are as many as the parts, and it counts the edges that close a circle. -/
import Derived.Test.YtdpdmhjmmpncoaaBfs
namespace Go.Proofs.Ytdpdmhjmmpncoaa.Bf
set_option linter.unusedVariables false
set_option linter.unusedSimpArgs false
open Go.Proofs.Ytdpdmhjmmpncoaa.Cl

section
variable (R : Nat → Nat)
def partsR (n : Nat) : Nat → Nat → Nat → List Nat → List Nat
  | 0, _, _, acc => acc
  | d + 1, i, see, acc => if see.testBit i = true then partsR n d (i + 1) see acc else partsR n d (i + 1) (see ||| hull R n (1 <<< i)) (acc ++ [hull R n (1 <<< i)])
structure Rest (n i r : Nat) (s : B) : Prop where
  len : s.par.length = n
  sum : ∀ f, (s.q.map f).sum = sumB f s.seen n
  mem : ∀ u, s.seen.testBit u = true ↔ u ∈ s.q
  lt : ∀ u, u ∈ s.q → u < n
  cl : ∀ u, u ∈ s.q → Sub (R u) s.seen
  eq : (s.q.map fun u => card n (R u)).sum + 2 * r = 2 * s.q.length + s.bad
  done : ∀ j, j < i → s.seen.testBit j = true
theorem push_inv {n i r : Nat} {s : B} (I : Rest R n i r s) (hi : i < n) (c : ¬ s.seen.testBit i = true) : Inv R n s.q.length (push i s) := by
  have c' : s.seen.testBit i = false := Bool.eq_false_iff.mpr c
  refine ⟨?_, ?_, ?_, ?_, ?_, ?_, ?_⟩
  · show (s.par.set i (-1)).length = n
    rw [List.length_set]; exact I.len
  · intro f
    show ((s.q ++ [i]).map f).sum = sumB f (s.seen ||| 1 <<< i) n
    rw [sumB_add f _ _ c', if_pos hi, ← I.sum f]
    simp
  · intro u
    show (s.seen ||| 1 <<< i).testBit u = true ↔ u ∈ s.q ++ [i]
    rw [testBit_add, Bool.or_eq_true, decide_eq_true_eq, I.mem u, List.mem_append, List.mem_singleton]
    exact ⟨fun h => h.imp id fun e => e.symm, fun h => h.imp id fun e => e.symm⟩
  · intro u hu
    have hu' : u ∈ s.q ++ [i] := hu
    rw [List.mem_append, List.mem_singleton] at hu'
    rcases hu' with h | h
    · exact I.lt u h
    · omega
  · show s.q.length < (s.q ++ [i]).length
    rw [List.length_append, List.length_singleton]; omega
  · show (s.par.set i (-1)).getD ((s.q ++ [i]).getD s.q.length 0) 0 = -1
    rw [getD_last, getD_set_eq (by rw [I.len]; exact hi)]
  · intro j hj hj2
    have hj2' : j < (s.q ++ [i]).length := hj2
    rw [List.length_append, List.length_singleton] at hj2'
    omega
theorem phase {n i r : Nat} {s : B} (hsym : ∀ a b, a < n → b < n → (R a).testBit b = true → (R b).testBit a = true) (hR : ∀ v, v < n → R v < 2 ^ n) (I : Rest R n i r s) (hi : i < n) (c : ¬ s.seen.testBit i = true) :
    Rest R n (i + 1) (r + 1) (visit R n (n + 1) s.q.length (push i s)) ∧ (visit R n (n + 1) s.q.length (push i s)).seen = s.seen ||| hull R n (1 <<< i) ∧ s.bad ≤ (visit R n (n + 1) s.q.length (push i s)).bad := by
  have P := push_inv R I hi c
  have hq : (push i s).q = s.q ++ [i] := rfl
  obtain ⟨V, ⟨t, v2⟩, v3, v4, v5, v6, v7⟩ := visit_inv R hsym hR (r + 1) (n + 1) s.q.length (push i s) (by omega) (Nat.le_refl _) (by rw [hq, List.length_append]; omega) P (by
      rw [hq, List.take_append_of_le_length (Nat.le_refl _), List.take_length, if_pos rfl, List.length_append, List.length_singleton]
      have := I.eq
      show _ = _ + s.bad + 1
      omega) (by
      intro u hu
      rw [hq, List.take_append_of_le_length (Nat.le_refl _), List.take_length] at hu
      exact Sub.trans (I.cl u hu) (sub_or_left _ _))
  have hb : 1 <<< i < 2 ^ n := by rw [Nat.one_shiftLeft]; exact Nat.pow_lt_pow_right (by omega) hi
  have hcl : Closed R n (visit R n (n + 1) s.q.length (push i s)).seen := fun v _ hv => v6 v ((V.mem v).1 hv)
  have hseen : (visit R n (n + 1) s.q.length (push i s)).seen = s.seen ||| hull R n (1 <<< i) := by
    refine Sub.anti (v4 _ ?_ ?_) (or_sub (Sub.trans (sub_or_left _ _) v3) (hull_in R hcl (Sub.trans (sub_or_right _ _) v3)))
    · intro v hv hb'
      rw [Nat.testBit_or, Bool.or_eq_true] at hb'
      rcases hb' with h | h
      · exact Sub.trans (I.cl v ((I.mem v).1 h)) (sub_or_left _ _)
      · exact Sub.trans (hull_closed R hR hb v hv h) (sub_or_right _ _)
    · exact or_sub (sub_or_left _ _) (Sub.trans (hull_sub R hR hb) (sub_or_right _ _))
  refine ⟨⟨V.len, V.sum, V.mem, V.lt, v6, v7, fun j hj => ?_⟩, hseen, v5⟩
  apply v3
  show (s.seen ||| 1 <<< i).testBit j = true
  rw [testBit_add]
  by_cases e : j = i
  · simp [e]
  · rw [I.done j (by omega)]; rfl
theorem roots_inv {n : Nat} (hsym : ∀ a b, a < n → b < n → (R a).testBit b = true → (R b).testBit a = true) (hR : ∀ v, v < n → R v < 2 ^ n) : ∀ (d i : Nat) (s : B) (r : Nat), i + d = n → Rest R n i r s →
    Rest R n n (roots R n d i (s, r)).2 (roots R n d i (s, r)).1 ∧ (∀ acc, (partsR R n d i s.seen acc).length + r = acc.length + (roots R n d i (s, r)).2) ∧ s.bad ≤ (roots R n d i (s, r)).1.bad := by
  intro d
  induction d with
  | zero =>
    intro i s r hi I
    have : i = n := by omega
    subst this
    exact ⟨I, fun acc => rfl, Nat.le_refl _⟩
  | succ d ih =>
    intro i s r hi I
    rw [roots]
    by_cases c : s.seen.testBit i = true
    · rw [if_pos c]
      obtain ⟨a, b, e⟩ := ih (i + 1) s r (by omega) ⟨I.len, I.sum, I.mem, I.lt, I.cl, I.eq, fun j hj => by
        by_cases e : j = i
        · subst e; exact c
        · exact I.done j (by omega)⟩
      refine ⟨a, fun acc => ?_, e⟩
      rw [partsR, if_pos c]
      exact b acc
    · rw [if_neg c]
      obtain ⟨P, hs, hb⟩ := phase R hsym hR I (by omega) c
      obtain ⟨a, b, e⟩ := ih (i + 1) _ (r + 1) (by omega) P
      refine ⟨a, fun acc => ?_, Nat.le_trans hb e⟩
      rw [partsR, if_neg c, ← hs]
      have := b (acc ++ [hull R n (1 <<< i)])
      rw [List.length_append, List.length_singleton] at this
      show _ + r = acc.length + (roots R n d (i + 1) (visit R n (n + 1) s.q.length (push i s), r + 1)).2
      omega
def start (n : Nat) : B := { par := List.replicate n 0, q := [], seen := 0, bad := 0 }
theorem start_rest (n : Nat) : Rest R n 0 0 (start n) := by
  refine ⟨by simp [start], fun f => ?_, fun u => by simp [start], fun u hu => by simp [start] at hu, fun u hu => by simp [start] at hu, by simp [start], fun j hj => by omega⟩
  show 0 = sumB f 0 n
  induction n with
  | zero => rfl
  | succ n ih => rw [sumB, ← ih]; simp
/-- The edges, each once. -/
def edg (m : Nat) : Nat → Nat
  | 0 => 0
  | k + 1 => edg m k + cnt (R k) (m - (k + 1)) (k + 1)
def rowsum (m : Nat) : Nat → Nat
  | 0 => 0
  | k + 1 => rowsum m k + card m (R k)
theorem rowsum_succ (m : Nat) : ∀ k, k ≤ m → (∀ v, v < k → (R v).testBit m = (R m).testBit v) → rowsum R (m + 1) k = rowsum R m k + card k (R m) := by
  intro k
  induction k with
  | zero => intro _ _; rfl
  | succ k ih =>
    intro hk h
    rw [rowsum, rowsum, ih (by omega) fun v hv => h v (by omega), card_succ m, card_succ k, h k (by omega)]
    omega
theorem edg_succ (m : Nat) : ∀ k, k ≤ m → (∀ v, v < k → (R v).testBit m = (R m).testBit v) → edg R (m + 1) k = edg R m k + card k (R m) := by
  intro k
  induction k with
  | zero => intro _ _; rfl
  | succ k ih =>
    intro hk h
    have h1 := card_cnt (R k) (m - (k + 1)) (k + 1)
    have h2 := card_cnt (R k) (m + 1 - (k + 1)) (k + 1)
    have h3 := card_succ m (R k)
    rw [show k + 1 + (m - (k + 1)) = m by omega] at h1
    rw [show k + 1 + (m + 1 - (k + 1)) = m + 1 by omega] at h2
    rw [h k (by omega)] at h3
    rw [edg, edg, ih (by omega) fun v hv => h v (by omega), card_succ k]
    omega
theorem handshake (n : Nat) (hsym : ∀ a b, a < n → b < n → (R a).testBit b = (R b).testBit a) (hloop : ∀ a, a < n → (R a).testBit a = false) : ∀ m, m ≤ n → rowsum R m m = 2 * edg R m m := by
  intro m
  induction m with
  | zero => intro _; rfl
  | succ m ih =>
    intro hm
    have h1 := rowsum_succ R m m (Nat.le_refl _) fun v hv => hsym v m (by omega) (by omega)
    have h2 := edg_succ R m m (Nat.le_refl _) fun v hv => hsym v m (by omega) (by omega)
    rw [rowsum, edg, h1, h2, ih (by omega), card_succ, hloop m (by omega), Nat.sub_self]
    simp [cnt]
    omega
theorem sumB_rowsum (n S : Nat) : ∀ k, (∀ j, j < k → S.testBit j = true) → sumB (fun u => card n (R u)) S k = rowsum R n k := by
  intro k
  induction k with
  | zero => intro _; rfl
  | succ k ih => intro h; rw [sumB, rowsum, ih fun j hj => h j (by omega), if_pos (h k (by omega))]
/-- Twice the edges and twice the parts: twice the buttons, and each edge that closes a circle twice. -/
theorem count_all {n : Nat} (hsym : ∀ a b, a < n → b < n → (R a).testBit b = true → (R b).testBit a = true) (hloop : ∀ a, a < n → (R a).testBit a = false) (hR : ∀ v, v < n → R v < 2 ^ n) :
    2 * edg R n n + 2 * (partsR R n n 0 0 []).length = 2 * n + (roots R n n 0 (start n, 0)).1.bad := by
  obtain ⟨I, hp, _⟩ := roots_inv R hsym hR n 0 (start n) 0 (by omega) (start_rest R n)
  have h1 := hp []
  have h2 := I.eq
  have h3 := I.sum (fun u => card n (R u))
  rw [sumB_rowsum R n _ n I.done, handshake R n (fun a b ha hb => by rw [Bool.eq_iff_iff]; exact ⟨hsym a b ha hb, hsym b a hb ha⟩) hloop n (Nat.le_refl _)] at h3
  have h4 := I.sum (fun _ => 1)
  have h5 : sumB (fun _ => 1) (roots R n n 0 (start n, 0)).1.seen n = n := by
    rw [sumB_card]
    have : ∀ k, (∀ j, j < k → (roots R n n 0 (start n, 0)).1.seen.testBit j = true) → card k (roots R n n 0 (start n, 0)).1.seen = k := by
      intro k
      induction k with
      | zero => intro _; rfl
      | succ k ih => intro h; rw [card_succ, ih fun j hj => h j (by omega), if_pos (h k (by omega))]
    exact this n I.done
  have h6 : ∀ q : List Nat, (q.map fun _ => 1).sum = q.length := by
    intro q
    induction q with
    | nil => rfl
    | cons a q ih => simp at ih ⊢; omega
  rw [h6, h5] at h4
  simp only [List.length_nil] at h1
  have e0 : (start n).seen = 0 := rfl
  rw [e0] at h1
  omega
end
end Go.Proofs.Ytdpdmhjmmpncoaa.Bf
