/- A search by levels that counts the edges that close a circle, in plain Lean. -/
import Derived.Test.YtdpdmhjmmpncoaaClose
namespace Go.Proofs.Ytdpdmhjmmpncoaa.Bf
set_option linter.unusedVariables false
set_option linter.unusedSimpArgs false
open Go.Proofs.Ytdpdmhjmmpncoaa.Cl

def sumB (f : Nat → Nat) (S : Nat) : Nat → Nat
  | 0 => 0
  | n + 1 => sumB f S n + if S.testBit n = true then f n else 0
theorem testBit_one_shl (v j : Nat) : (1 <<< v).testBit j = decide (v = j) := by
  rw [Nat.one_shiftLeft, Nat.testBit_two_pow]
theorem testBit_add (S v j : Nat) : (S ||| 1 <<< v).testBit j = (S.testBit j || decide (v = j)) := by
  rw [Nat.testBit_or, testBit_one_shl]
theorem sumB_add (f : Nat → Nat) (S v : Nat) (hs : S.testBit v = false) : ∀ n, sumB f (S ||| 1 <<< v) n = sumB f S n + if v < n then f v else 0 := by
  intro n
  induction n with
  | zero => rfl
  | succ n ih =>
    rw [sumB, sumB, ih, testBit_add]
    by_cases e : v = n
    · subst e
      rw [hs, if_neg (by omega), if_pos (by simp), if_neg (by simp), if_pos (by omega)]
    · have h1 : decide (v = n) = false := by simp [e]
      rw [h1, Bool.or_false]
      by_cases c : v < n
      · rw [if_pos c, if_pos (show v < n + 1 by omega)]; omega
      · rw [if_neg c, if_neg (show ¬ v < n + 1 by omega)]; omega
theorem sumB_card (S : Nat) : ∀ n, sumB (fun _ => 1) S n = card n S := by
  intro n
  induction n with
  | zero => rfl
  | succ n ih => rw [sumB, ih, card_succ]
theorem sumB_all (f : Nat → Nat) {S T : Nat} : ∀ n, (∀ j, j < n → S.testBit j = T.testBit j) → sumB f S n = sumB f T n := by
  intro n
  induction n with
  | zero => intro _; rfl
  | succ n ih => intro h; rw [sumB, sumB, ih fun j hj => h j (by omega), h n (by omega)]
/-- Bits of S in [w, w + d). -/
def cnt (S : Nat) : Nat → Nat → Nat
  | 0, _ => 0
  | d + 1, w => (if S.testBit w = true then 1 else 0) + cnt S d (w + 1)
theorem card_cnt (S : Nat) : ∀ d w, card w S + cnt S d w = card (w + d) S := by
  intro d
  induction d with
  | zero => intro w; rfl
  | succ d ih =>
    intro w
    have h1 := ih (w + 1)
    rw [card_succ] at h1
    rw [cnt, show w + (d + 1) = w + 1 + d by omega, ← h1]
    omega
theorem cnt_card (S n : Nat) : cnt S n 0 = card n S := by
  have := card_cnt S n 0
  simpa [card] using this

structure B where
  par : List Int
  q : List Nat
  seen : Nat
  bad : Nat

section
variable (R : Nat → Nat)
def look (v w : Nat) (s : B) : B :=
  if (R v).testBit w = true ∧ s.par.getD v 0 ≠ (w : Int) then
    (if s.seen.testBit w = true then { s with bad := s.bad + 1 } else { par := s.par.set w (v : Int), q := s.q ++ [w], seen := s.seen ||| 1 <<< w, bad := s.bad })
  else s
def scan (v : Nat) : Nat → Nat → B → B
  | 0, _, s => s
  | d + 1, w, s => scan v d (w + 1) (look R v w s)
def visit (n : Nat) : Nat → Nat → B → B
  | 0, _, s => s
  | f + 1, h, s => if h < s.q.length then visit n f (h + 1) (scan R (s.q.getD h 0) n 0 s) else s
def push (i : Nat) (s : B) : B := { par := s.par.set i (-1), q := s.q ++ [i], seen := s.seen ||| 1 <<< i, bad := s.bad }
def roots (n : Nat) : Nat → Nat → B × Nat → B × Nat
  | 0, _, s => s
  | d + 1, i, s => if s.1.seen.testBit i = true then roots n d (i + 1) s else roots n d (i + 1) (visit R n (n + 1) s.1.q.length (push i s.1), s.2 + 1)

/-- What holds while a part is searched whose root stands at h0 of the queue. -/
structure Inv (n h0 : Nat) (s : B) : Prop where
  len : s.par.length = n
  sum : ∀ f, (s.q.map f).sum = sumB f s.seen n
  mem : ∀ u, s.seen.testBit u = true ↔ u ∈ s.q
  lt : ∀ u, u ∈ s.q → u < n
  hq : h0 < s.q.length
  root : s.par.getD (s.q.getD h0 0) 0 = -1
  non : ∀ j, h0 < j → j < s.q.length → ∃ p, p < n ∧ s.par.getD (s.q.getD j 0) 0 = ((p : Nat) : Int) ∧ (R (s.q.getD j 0)).testBit p = true ∧ s.seen.testBit p = true

theorem getD_mem {q : List Nat} {j : Nat} (h : j < q.length) : q.getD j 0 ∈ q := by
  rw [List.getD_eq_getElem?_getD, List.getElem?_eq_getElem h]
  exact List.getElem_mem _
theorem getD_app {q p : List Nat} {j : Nat} (h : j < q.length) : (q ++ p).getD j 0 = q.getD j 0 := by
  rw [List.getD_eq_getElem?_getD, List.getD_eq_getElem?_getD, List.getElem?_append_left h]
theorem getD_last (q : List Nat) (w : Nat) : (q ++ [w]).getD q.length 0 = w := by
  simp [List.getD_eq_getElem?_getD]
theorem getD_set_ne {l : List Int} {i j : Nat} {a : Int} (h : i ≠ j) : (l.set i a).getD j 0 = l.getD j 0 := by
  rw [List.getD_eq_getElem?_getD, List.getD_eq_getElem?_getD, List.getElem?_set_ne h]
theorem getD_set_eq {l : List Int} {i : Nat} {a : Int} (h : i < l.length) : (l.set i a).getD i 0 = a := by
  rw [List.getD_eq_getElem?_getD, List.getElem?_set_self h]; rfl

/-- How one look changes the state: what is kept, what is counted. -/
theorem look_inv {n h0 : Nat} (hsym : ∀ a b, a < n → b < n → (R a).testBit b = true → (R b).testBit a = true) {v w : Nat} {s : B} (I : Inv R n h0 s) (hv : v ∈ s.q) (hw : w < n) :
    Inv R n h0 (look R v w s) ∧ (look R v w s).q.length + (look R v w s).bad + (if (R v).testBit w = true ∧ s.par.getD v 0 = (w : Int) then 1 else 0) = s.q.length + s.bad + (if (R v).testBit w = true then 1 else 0)
    ∧ ((R v).testBit w = true → (s.par.getD v 0 = (w : Int) → s.seen.testBit w = true) → (look R v w s).seen.testBit w = true)
    ∧ Sub s.seen (look R v w s).seen ∧ (∃ t, (look R v w s).q = s.q ++ t) ∧ (look R v w s).par.getD v 0 = s.par.getD v 0
    ∧ (∀ C, Closed R n C → Sub s.seen C → Sub (look R v w s).seen C) ∧ s.bad ≤ (look R v w s).bad := by
  have hvn := I.lt v hv
  unfold look
  by_cases c : (R v).testBit w = true ∧ s.par.getD v 0 ≠ (w : Int)
  · rw [if_pos c]
    by_cases c2 : s.seen.testBit w = true
    · rw [if_pos c2]
      refine ⟨⟨I.len, I.sum, I.mem, I.lt, I.hq, I.root, I.non⟩, ?_, fun _ _ => c2, Sub.refl _, ⟨[], by simp⟩, rfl, fun C _ h => h, Nat.le_succ _⟩
      rw [if_neg (fun h => c.2 h.2), if_pos c.1]
      show s.q.length + (s.bad + 1) + 0 = _
      omega
    · rw [if_neg c2]
      have hnw : ¬ w ∈ s.q := fun h => c2 ((I.mem w).2 h)
      have hvw : w ≠ v := fun e => hnw (e ▸ hv)
      have c2' : s.seen.testBit w = false := Bool.eq_false_iff.mpr c2
      refine ⟨⟨?_, ?_, ?_, ?_, ?_, ?_, ?_⟩, ?_, ?_, sub_or_left _ _, ⟨[w], rfl⟩, ?_, ?_, Nat.le_refl _⟩
      · show (s.par.set w (v : Int)).length = n
        rw [List.length_set]; exact I.len
      · intro f
        show ((s.q ++ [w]).map f).sum = sumB f (s.seen ||| 1 <<< w) n
        rw [sumB_add f _ _ c2', if_pos hw, ← I.sum f]
        simp
      · intro u
        show (s.seen ||| 1 <<< w).testBit u = true ↔ u ∈ s.q ++ [w]
        rw [testBit_add, Bool.or_eq_true, decide_eq_true_eq, I.mem u, List.mem_append, List.mem_singleton]
        exact ⟨fun h => h.imp id fun e => e.symm, fun h => h.imp id fun e => e.symm⟩
      · intro u hu
        have hu' : u ∈ s.q ++ [w] := hu
        rw [List.mem_append, List.mem_singleton] at hu'
        rcases hu' with h | h
        · exact I.lt u h
        · omega
      · show h0 < (s.q ++ [w]).length
        have := I.hq
        rw [List.length_append]; omega
      · show (s.par.set w (v : Int)).getD ((s.q ++ [w]).getD h0 0) 0 = -1
        rw [getD_app I.hq, getD_set_ne (fun e => hnw (by rw [e]; exact getD_mem I.hq))]
        exact I.root
      · intro j hj hj2
        have hj2' : j < (s.q ++ [w]).length := hj2
        rw [List.length_append, List.length_singleton] at hj2'
        show ∃ p, p < n ∧ (s.par.set w (v : Int)).getD ((s.q ++ [w]).getD j 0) 0 = ((p : Nat) : Int) ∧ (R ((s.q ++ [w]).getD j 0)).testBit p = true ∧ (s.seen ||| 1 <<< w).testBit p = true
        by_cases e : j < s.q.length
        · rw [getD_app e, getD_set_ne (fun e' => hnw (by rw [e']; exact getD_mem e))]
          obtain ⟨p, h1, h2, h3, h4⟩ := I.non j hj e
          exact ⟨p, h1, h2, h3, by rw [testBit_add, h4, Bool.true_or]⟩
        · have : j = s.q.length := by omega
          subst this
          rw [getD_last]
          refine ⟨v, hvn, getD_set_eq (by rw [I.len]; exact hw), hsym v w hvn hw c.1, ?_⟩
          rw [testBit_add, (I.mem v).2 hv, Bool.true_or]
      · rw [if_neg (fun h => c.2 h.2), if_pos c.1]
        show (s.q ++ [w]).length + s.bad + 0 = _
        rw [List.length_append, List.length_singleton]; omega
      · intro _ _
        show (s.seen ||| 1 <<< w).testBit w = true
        rw [testBit_add]; simp
      · exact getD_set_ne hvw
      · intro C hC hs
        show Sub (s.seen ||| 1 <<< w) C
        refine or_sub hs fun j hj => ?_
        rw [testBit_one_shl, decide_eq_true_eq] at hj
        subst hj
        exact hC v hvn (hs v ((I.mem v).2 hv)) w c.1
  · rw [if_neg c]
    refine ⟨I, ?_, ?_, Sub.refl _, ⟨[], by simp⟩, rfl, fun C _ h => h, Nat.le_refl _⟩
    · by_cases c1 : (R v).testBit w = true
      · have : s.par.getD v 0 = (w : Int) := Classical.byContradiction fun h => c ⟨c1, h⟩
        rw [if_pos ⟨c1, this⟩, if_pos c1]
      · rw [if_neg (fun h => c1 h.1), if_neg c1]
    · intro c1 h
      exact h (Classical.byContradiction fun h => c ⟨c1, h⟩)
open Classical in
/-- A whole scan. -/
theorem scan_inv {n h0 : Nat} (hsym : ∀ a b, a < n → b < n → (R a).testBit b = true → (R b).testBit a = true) {v : Nat} : ∀ (d w : Nat) (s : B), w + d = n → Inv R n h0 s → v ∈ s.q → (∀ p : Nat, s.par.getD v 0 = (p : Int) → s.seen.testBit p = true) →
    Inv R n h0 (scan R v d w s) ∧ (scan R v d w s).q.length + (scan R v d w s).bad + (if ∃ p : Nat, w ≤ p ∧ p < n ∧ (R v).testBit p = true ∧ s.par.getD v 0 = (p : Int) then 1 else 0) = s.q.length + s.bad + cnt (R v) d w
    ∧ (∀ u, w ≤ u → u < n → (R v).testBit u = true → (scan R v d w s).seen.testBit u = true)
    ∧ Sub s.seen (scan R v d w s).seen ∧ (∃ t, (scan R v d w s).q = s.q ++ t)
    ∧ (∀ C, Closed R n C → Sub s.seen C → Sub (scan R v d w s).seen C) ∧ s.bad ≤ (scan R v d w s).bad := by
  intro d
  induction d with
  | zero =>
    intro w s hw I hv hp
    refine ⟨I, ?_, fun u h1 h2 => by omega, Sub.refl _, ⟨[], by simp [scan]⟩, fun C _ h => h, Nat.le_refl _⟩
    rw [if_neg (by rintro ⟨p, h1, h2, _⟩; omega)]
    rfl
  | succ d ih =>
    intro w s hw I hv hp
    obtain ⟨a1, a2, a3, a4, ⟨t, a5⟩, a6, a7, a8⟩ := look_inv R hsym I hv (w := w) (by omega)
    obtain ⟨b1, b2, b3, b4, ⟨t', b5⟩, b6, b7⟩ := ih (w + 1) (look R v w s) (by omega) a1 (by rw [a5]; exact List.mem_append_left _ hv) (fun p h => a4 p (hp p (by rw [← a6]; exact h)))
    rw [a6] at b2
    refine ⟨b1, ?_, ?_, Sub.trans a4 b4, ⟨t ++ t', by rw [scan, b5, a5, List.append_assoc]⟩, fun C hC h => b6 C hC (a7 C hC h), Nat.le_trans a8 b7⟩
    · rw [scan, cnt]
      by_cases c : (R v).testBit w = true ∧ s.par.getD v 0 = (w : Int)
      · have n1 : ¬ ∃ p : Nat, w + 1 ≤ p ∧ p < n ∧ (R v).testBit p = true ∧ s.par.getD v 0 = (p : Int) := by
          rintro ⟨p, h1, h2, h3, h4⟩
          have := c.2
          omega
        rw [if_neg n1] at b2
        rw [if_pos c, if_pos c.1] at a2
        rw [if_pos ⟨w, Nat.le_refl _, by omega, c.1, c.2⟩, if_pos c.1]
        omega
      · rw [if_neg c] at a2
        have e : (∃ p : Nat, w ≤ p ∧ p < n ∧ (R v).testBit p = true ∧ s.par.getD v 0 = (p : Int)) ↔ ∃ p : Nat, w + 1 ≤ p ∧ p < n ∧ (R v).testBit p = true ∧ s.par.getD v 0 = (p : Int) := by
          constructor
          · rintro ⟨p, h1, h2, h3, h4⟩
            refine ⟨p, ?_, h2, h3, h4⟩
            rcases Nat.lt_or_ge w p with h | h
            · exact h
            · have : p = w := by omega
              subst this
              exact absurd ⟨h3, h4⟩ c
          · rintro ⟨p, h1, h2, h3, h4⟩
            exact ⟨p, by omega, h2, h3, h4⟩
        by_cases x : ∃ p : Nat, w ≤ p ∧ p < n ∧ (R v).testBit p = true ∧ s.par.getD v 0 = (p : Int)
        · rw [if_pos (e.1 x)] at b2
          rw [if_pos x]
          omega
        · rw [if_neg (fun y => x (e.2 y))] at b2
          rw [if_neg x]
          omega
    · intro u h1 h2 h3
      by_cases e : u = w
      · subst e
        exact b4 u (a3 h3 fun h => hp u h)
      · exact b3 u (by omega) h2 h3
theorem bits_lt {n a j : Nat} (h : a < 2 ^ n) (hj : a.testBit j = true) : j < n := by
  rcases Nat.lt_or_ge j n with c | c
  · exact c
  · rw [Nat.testBit_lt_two_pow (Nat.lt_of_lt_of_le h (Nat.pow_le_pow_right (by omega) c))] at hj; cases hj
theorem Inv.short {n h0 : Nat} {s : B} (I : Inv R n h0 s) : s.q.length = card n s.seen := by
  have := I.sum fun _ => 1
  rw [sumB_card] at this
  rw [← this]
  clear this
  induction s.q with
  | nil => rfl
  | cons a q ih => simp at ih ⊢; omega
theorem take_succ_getD {q : List Nat} {h : Nat} (hh : h < q.length) : q.take (h + 1) = q.take h ++ [q.getD h 0] := by
  rw [List.take_succ_eq_append_getElem hh, List.getD_eq_getElem?_getD, List.getElem?_eq_getElem hh]
  rfl
/-- A visit of the whole queue, its root first. -/
theorem visit_inv {n h0 : Nat} (hsym : ∀ a b, a < n → b < n → (R a).testBit b = true → (R b).testBit a = true) (hR : ∀ v, v < n → R v < 2 ^ n) (r : Nat) : ∀ (f h : Nat) (s : B), n < f + h → h0 ≤ h → h ≤ s.q.length → Inv R n h0 s →
    ((s.q.take h).map fun u => card n (R u)).sum + 2 * r = h + s.q.length + s.bad + (if h = h0 then 1 else 0) →
    (∀ u, u ∈ s.q.take h → Sub (R u) s.seen) →
    Inv R n h0 (visit R n f h s) ∧ (∃ t, (visit R n f h s).q = s.q ++ t) ∧ Sub s.seen (visit R n f h s).seen ∧ (∀ C, Closed R n C → Sub s.seen C → Sub (visit R n f h s).seen C) ∧ s.bad ≤ (visit R n f h s).bad
      ∧ (∀ u, u ∈ (visit R n f h s).q → Sub (R u) (visit R n f h s).seen) ∧ ((visit R n f h s).q.map fun u => card n (R u)).sum + 2 * r = 2 * (visit R n f h s).q.length + (visit R n f h s).bad := by
  intro f
  induction f with
  | zero =>
    intro h s hf h1 h2 I
    have := I.short
    have := card_le n s.seen
    omega
  | succ f ih =>
    intro h s hf h1 h2 I hA hcl
    rw [visit]
    by_cases c : h < s.q.length
    · rw [if_pos c]
      have hv := getD_mem c
      have hvn := I.lt _ hv
      have hp : ∀ p : Nat, s.par.getD (s.q.getD h 0) 0 = (p : Int) → s.seen.testBit p = true := by
        intro p hp
        by_cases e : h = h0
        · subst e
          have := I.root
          omega
        · obtain ⟨p', _, a2, _, a4⟩ := I.non h (by omega) c
          have : p = p' := by omega
          subst this
          exact a4
      obtain ⟨b1, b2, b3, b4, ⟨t, b5⟩, b6, b7⟩ := scan_inv R hsym n 0 s (by omega) I hv hp
      have hlen : s.q.length ≤ (scan R (s.q.getD h 0) n 0 s).q.length := by rw [b5, List.length_append]; omega
      have htk : (scan R (s.q.getD h 0) n 0 s).q.take (h + 1) = s.q.take h ++ [s.q.getD h 0] := by
        rw [b5, List.take_append_of_le_length (by omega), take_succ_getD c]
      obtain ⟨c1, ⟨t', c2⟩, c3, c4, c5, c6, c7⟩ := ih (h + 1) (scan R (s.q.getD h 0) n 0 s) (by omega) (by omega) (by omega) b1 (by
          rw [htk, List.map_append, List.sum_append, if_neg (by omega : ¬ h + 1 = h0)]
          simp only [List.map_cons, List.map_nil, List.sum_cons, List.sum_nil, Nat.add_zero]
          rw [cnt_card] at b2
          by_cases e : h = h0
          · rw [if_pos e] at hA
            rw [if_neg (by
              rintro ⟨p, _, _, _, h4⟩
              have := I.root
              rw [e] at h4
              omega)] at b2
            omega
          · rw [if_neg e] at hA
            obtain ⟨p, a1, a2, a3, a4⟩ := I.non h (by omega) c
            rw [if_pos ⟨p, by omega, a1, a3, a2⟩] at b2
            omega) (by
          intro u hu
          rw [htk, List.mem_append, List.mem_singleton] at hu
          rcases hu with hu | hu
          · exact Sub.trans (hcl u hu) b4
          · subst hu
            intro j hj
            exact b3 j (by omega) (bits_lt (hR _ hvn) hj) hj)
      exact ⟨c1, ⟨t ++ t', by rw [c2, b5, List.append_assoc]⟩, Sub.trans b4 c3, fun C hC hs => c4 C hC (b6 C hC hs), Nat.le_trans b7 c5, c6, c7⟩
    · rw [if_neg c]
      have e : h = s.q.length := by omega
      have hq := I.hq
      rw [e, List.take_length, if_neg (by omega)] at hA
      rw [e, List.take_length] at hcl
      exact ⟨I, ⟨[], by simp⟩, Sub.refl _, fun C _ hs => hs, Nat.le_refl _, hcl, by omega⟩
end
end Go.Proofs.Ytdpdmhjmmpncoaa.Bf
