/- Even cuts: how many sets make one, and what the model counts. -/
import Derived.Test.YtoobofnpdiapgaaSplits
import Derived.Test.YtoobofnpdiapgaaGB
import Derived.Test.YtoobofnpdiapgaaPx40
import Derived.Test.YtoobofnpdiapgaaPx41
namespace Go.Proofs.Ytoobofnpdiapgaa.Gr
open Go.RowKit Go.Proofs.Ytoobofnpdiapgaa.P Go.Proofs.Ytoobofnpdiapgaa.Bt Go.Proofs.Ytoobofnpdiapgaa.Lw Go.Proofs.Ytoobofnpdiapgaa.Sp Go.Proofs.Ytoobofnpdiapgaa.Pa Go.Proofs.Ytoobofnpdiapgaa.St Go.Proofs.Ytoobofnpdiapgaa.Sv Go.Proofs.Ytoobofnpdiapgaa.Sy Go.Proofs.Ytoobofnpdiapgaa.Bo Go.Proofs.YtoobofnpdiapgaaW.PrintWords Go.Proofs.YtoobofnpdiapgaaW.PrintLast Go.Proofs.YtoobofnpdiapgaaW.PrintMore
set_option linter.unusedVariables false
set_option linter.unusedSimpArgs false

/-- All sums. -/
def sums : List Nat → List Nat
  | [] => [0]
  | b :: B => sums B ++ (sums B).map (· ^^^ b)
theorem sums_len : ∀ B : List Nat, (sums B).length = 2 ^ B.length
  | [] => rfl
  | b :: B => by rw [sums, List.length_append, List.length_map, sums_len B, List.length_cons, Nat.pow_succ]; omega
theorem sums_mem : ∀ (B : List Nat) (x : Nat), x ∈ sums B ↔ InSpan B x
  | [], x => by simp [sums, InSpan]
  | b :: B, x => by
    rw [sums, List.mem_append, List.mem_map]
    show _ ↔ InSpan B x ∨ InSpan B (x ^^^ b)
    rw [sums_mem B x]
    constructor
    · rintro (h | ⟨y, hy, rfl⟩)
      · exact .inl h
      · exact .inr (by rw [Gf.xor_cancel]; exact (sums_mem B y).1 hy)
    · rintro (h | h)
      · exact .inl h
      · exact .inr ⟨x ^^^ b, (sums_mem B _).2 h, Gf.xor_cancel x b⟩
theorem sums_nodup : ∀ {B : List Nat}, Tri B → (sums B).Nodup
  | [], _ => by simp [sums]
  | b :: B, h => by
    rw [sums, List.nodup_append]
    refine ⟨sums_nodup h.2.2, ?_, fun x hx y hy e => ?_⟩
    · rw [List.nodup_iff_pairwise_ne, List.pairwise_map]
      exact (List.nodup_iff_pairwise_ne.1 (sums_nodup h.2.2)).imp (fun hab e => hab (by
        have := congrArg (· ^^^ b) e
        simpa [Gf.xor_cancel] using this))
    · subst e
      obtain ⟨z, hz, rfl⟩ := List.mem_map.1 hy
      have h1 := ((sums_mem B _).1 hx).xor ((sums_mem B z).1 hz)
      rw [Nat.xor_comm z b, Gf.xor_cancel] at h1
      obtain ⟨c, hc, e⟩ := h.2.2.top h1 h.1
      exact h.2.1 c hc e
def cntN (p : Nat → Bool) : Nat → Nat → Nat
  | 0, _ => 0
  | d + 1, x => (if p x = true then 1 else 0) + cntN p d (x + 1)
theorem cntN_filter (p : Nat → Bool) : ∀ d x, cntN p d x = ((List.range' x d).filter p).length
  | 0, _ => rfl
  | d + 1, x => by
    rw [cntN, cntN_filter p d (x + 1), List.range'_succ, List.filter_cons]
    split
    · rw [List.length_cons]; omega
    · omega
theorem cnt_span {B : List Nat} (hB : Tri B) {N : Nat} {p : Nat → Bool} (h : ∀ x, InSpan B x ↔ x < N ∧ p x = true) : cntN p N 0 = 2 ^ B.length := by
  rw [cntN_filter, ← sums_len B]
  refine List.Perm.length_eq ((List.perm_ext_iff_of_nodup (List.Pairwise.filter _ List.nodup_range') (sums_nodup hB)).2 (fun x => ?_))
  rw [List.mem_filter, sums_mem, h, List.mem_range'_1]
  constructor
  · rintro ⟨⟨_, h1⟩, h2⟩; exact ⟨by omega, h2⟩
  · rintro ⟨h1, h2⟩; exact ⟨⟨by omega, by omega⟩, h2⟩
/-- Edges as pairs. -/
def rowP (R : Nat → Nat) (i : Nat) : Nat → Nat → List (Nat × Nat)
  | 0, _ => []
  | d + 1, j => (if (R i).testBit j = true then [(i, j)] else []) ++ rowP R i d (j + 1)
def toE (p : Nat × Nat) : List Int := [(p.1 : Int), (p.2 : Int)]
theorem rowE_P (R : Nat → Nat) (i : Nat) : ∀ d j, rowE R i d j = (rowP R i d j).map toE
  | 0, _ => rfl
  | d + 1, j => by
    rw [rowE, rowP, List.map_append, rowE_P R i d (j + 1)]
    congr 1
    split <;> rfl
def prs (R : Nat → Nat) (n : Nat) : Nat → List (Nat × Nat)
  | 0 => []
  | k + 1 => prs R n k ++ rowP R k (n - (k + 1)) (k + 1)
theorem edgesR_P (R : Nat → Nat) (n : Nat) : ∀ k, edgesR R n k = (prs R n k).map toE
  | 0 => rfl
  | k + 1 => by rw [edgesR, prs, List.map_append, edgesR_P R n k, rowE_P]
theorem rowP_lt (R : Nat → Nat) (i n : Nat) (hi : i < n) : ∀ d j, i < j → j + d ≤ n → ∀ p ∈ rowP R i d j, p.1 < n ∧ p.2 < n ∧ p.1 ≠ p.2
  | 0, _, _, _, p, hp => by cases hp
  | d + 1, j, h1, h2, p, hp => by
    rw [rowP] at hp
    rcases List.mem_append.1 hp with hp | hp
    · split at hp
      · simp at hp; subst hp; exact ⟨hi, by show j < n; omega, by show i ≠ j; omega⟩
      · cases hp
    · exact rowP_lt R i n hi d (j + 1) (by omega) (by omega) p hp
theorem prs_lt (R : Nat → Nat) (n : Nat) : ∀ k, k ≤ n → ∀ p ∈ prs R n k, p.1 < n ∧ p.2 < n ∧ p.1 ≠ p.2
  | 0, _, p, hp => by cases hp
  | k + 1, hk, p, hp => by
    rw [prs] at hp
    rcases List.mem_append.1 hp with hp | hp
    · exact prs_lt R n k (by omega) p hp
    · exact rowP_lt R k n (by omega) _ _ (by omega) (by omega) p hp
/-- Is an edge cut? -/
def cutB (S : Nat) (p : Nat × Nat) : Bool := S.testBit p.1 != S.testBit p.2
def sumE : List (Nat × Nat) → Nat → Nat
  | [], x => x
  | p :: E, x => sumE E (x ^^^ (2 ^ p.1 ||| 2 ^ p.2))
theorem rd_E (E : List (Nat × Nat)) {i : Nat} (h : i < E.length) : rd_L1 (E.map toE) (i : Int) = toE E[i] := by simp [rd_L1, h]
theorem toE_0 (p : Nat × Nat) : rd (toE p) 0 = (p.1 : Int) := rfl
theorem toE_1 (p : Nat × Nat) : rd (toE p) 1 = (p.2 : Int) := rfl
theorem toE_len (p : Nat × Nat) : ((toE p).length : Int) = 2 := rfl
theorem cut_l0 (S : Nat) (hS : S < 65536) (E : List (Nat × Nat)) (hl : E.length ≤ 1000) : ∀ (d i k : Nat) (acc : List (Nat × Nat)), i + d = E.length → acc.length ≤ i → d < k →
    spec_paCut.l0 k (S : Int) (acc.map toE) (E.map toE) (E.length : Int) (i : Int) = some ((acc ++ (E.drop i).filter (cutB S)).map toE) := by
  intro d
  induction d with
  | zero =>
    intro i k acc hi ha hk
    obtain ⟨k, rfl⟩ : ∃ m, k = m + 1 := ⟨k - 1, by omega⟩
    have : i = E.length := by omega
    subst this
    rw [spec_paCut.l0, if_neg (by omega), List.drop_length]; simp
  | succ d ih =>
    intro i k acc hi ha hk
    obtain ⟨k, rfl⟩ : ∃ m, k = m + 1 := ⟨k - 1, by omega⟩
    have hlt : i < E.length := by omega
    rw [spec_paCut.l0, if_pos (by omega), if_pos (by omega), if_pos (by rw [List.length_map]; omega), rd_E E hlt, toE_len, if_pos (by omega), toE_0, toE_1, grIn_at hS]
    simp only [Option.bind_some]
    rw [if_pos (by omega), grIn_at hS]
    simp only [Option.bind_some]
    rw [List.drop_eq_getElem_cons hlt, List.filter_cons, step1' (by omega)]
    show (if cutB S E[i] = true then _ else _) = _
    by_cases c : cutB S E[i] = true
    · rw [if_pos c, if_pos c, if_pos (by rw [List.length_map]; omega)]
      have := ih (i + 1) k (acc ++ [E[i]]) (by omega) (by simp; omega) (by omega)
      rw [List.append_assoc, List.map_append] at this
      exact this
    · rw [if_neg c, if_neg c]
      exact ih (i + 1) k acc (by omega) (by omega) (by omega)
theorem even_l0 (E : List (Nat × Nat)) (hl : E.length ≤ 1000) (hE : ∀ p ∈ E, p.1 < 16 ∧ p.2 < 16) : ∀ (d i k x : Nat), i + d = E.length → d < k → x < 65536 →
    spec_paEven.l0 k (x : Int) (E.map toE) (E.length : Int) (i : Int) = some (decide (sumE (E.drop i) x = 0)) := by
  intro d
  induction d with
  | zero =>
    intro i k x hi hk hx
    obtain ⟨k, rfl⟩ : ∃ m, k = m + 1 := ⟨k - 1, by omega⟩
    have : i = E.length := by omega
    subst this
    rw [spec_paEven.l0, if_neg (by omega), List.drop_length, sumE]
    congr 1
    by_cases c : x = 0
    · subst c; rfl
    · rw [decide_eq_false c]
      have : (x : Int) ≠ 0 := by omega
      simpa using this
  | succ d ih =>
    intro i k x hi hk hx
    obtain ⟨k, rfl⟩ : ∃ m, k = m + 1 := ⟨k - 1, by omega⟩
    have hlt : i < E.length := by omega
    have hp := hE E[i] (List.getElem_mem hlt)
    have p1 : 2 ^ E[i].1 ≤ 32768 := Nat.le_trans (Nat.pow_le_pow_right (by omega) (show E[i].1 ≤ 15 by omega)) (by decide)
    have p2 : 2 ^ E[i].2 ≤ 32768 := Nat.le_trans (Nat.pow_le_pow_right (by omega) (show E[i].2 ≤ 15 by omega)) (by decide)
    have hor : 2 ^ E[i].1 ||| 2 ^ E[i].2 < 65536 := Nat.or_lt_two_pow (n := 16) (by omega) (by omega)
    rw [spec_paEven.l0, if_pos (by omega), if_pos (by omega), if_pos (by rw [List.length_map]; omega), rd_E E hlt, toE_len, if_pos (by omega), toE_0, toE_1, if_pos (by omega), if_pos (by omega), if_pos (by omega),
      shl_at hp.1, shl_at hp.2, bits_or (by omega) (by omega), bits_xor (by omega) (by omega), step1' (by omega), ih (i + 1) k _ (by omega) (by omega) (xor16 hx hor), List.drop_eq_getElem_cons hlt, sumE]
theorem sumE_xor : ∀ (E : List (Nat × Nat)) (x : Nat), sumE E x = x ^^^ sumE E 0
  | [], x => by simp [sumE]
  | p :: E, x => by rw [sumE, sumE, sumE_xor E (x ^^^ _), sumE_xor E (0 ^^^ _), Nat.zero_xor, Nat.xor_assoc]
theorem sumE_app : ∀ (A B : List (Nat × Nat)), sumE (A ++ B) 0 = sumE A 0 ^^^ sumE B 0
  | [], B => by simp [sumE]
  | p :: A, B => by
    rw [List.cons_append, sumE, sumE_xor (A ++ B) (0 ^^^ _), sumE_app A B, sumE, sumE_xor A (0 ^^^ _)]
    simp only [Nat.zero_xor, Nat.xor_assoc]
theorem sumE_lt {n : Nat} : ∀ (E : List (Nat × Nat)), (∀ p ∈ E, p.1 < n ∧ p.2 < n) → ∀ x, x < 2 ^ n → sumE E x < 2 ^ n
  | [], _, x, h => h
  | p :: E, hE, x, h => by
    have hp := hE p (List.mem_cons_self ..)
    exact sumE_lt E (fun q hq => hE q (List.mem_cons_of_mem _ hq)) _ (Nat.xor_lt_two_pow h (Nat.or_lt_two_pow (Nat.pow_lt_pow_right (by omega) hp.1) (Nat.pow_lt_pow_right (by omega) hp.2)))
def xsr (f : Nat → Bool) : Nat → Nat → Bool
  | 0, _ => false
  | d + 1, j => f j ^^ xsr f d (j + 1)
theorem xs_split (f : Nat → Bool) : ∀ d m, xs f (m + d) = (xs f m ^^ xsr f d m)
  | 0, m => by simp [xsr]
  | d + 1, m => by
    have := xs_split f d (m + 1)
    rw [show m + (d + 1) = m + 1 + d by omega, this, xs, xsr]
    cases xs f m <;> cases f m <;> cases xsr f d (m + 1) <;> rfl
theorem xs_lt (f : Nat → Bool) (v : Nat) : ∀ n, v ≤ n → xs (fun i => decide (i < v) && f i) n = xs f v
  | 0, h => by
    have : v = 0 := by omega
    subst this; rfl
  | n + 1, h => by
    by_cases e : v = n + 1
    · subst e
      exact xs_congr _ (fun i hi => by rw [decide_eq_true hi]; rfl)
    · rw [xs, xs_lt f v n (by omega), decide_eq_false (by omega)]; simp
theorem xs_eq (f : Nat → Bool) (v : Nat) : ∀ n, v < n → xs (fun i => decide (i = v) && f i) n = f v
  | n + 1, h => by
    rw [xs]
    by_cases e : v = n
    · subst e
      rw [xs_congr (g := fun _ => false) v (fun i hi => by rw [decide_eq_false (by omega)]; rfl), xs_false]; simp
    · rw [xs_eq f v n (by omega), decide_eq_false (Ne.symm e)]; simp
/-- Does an edge stand in a cut? -/
def cE (R : Nat → Nat) (S i j : Nat) : Bool := (R i).testBit j && (S.testBit i != S.testBit j)
theorem row_bit (R : Nat → Nat) (S i v : Nat) : ∀ d j, i < j → (sumE ((rowP R i d j).filter (cutB S)) 0).testBit v = ((decide (i = v) && xsr (cE R S i) d j) ^^ (decide (j ≤ v ∧ v < j + d) && cE R S i v))
  | 0, j, h => by
    rw [decide_eq_false (show ¬ (j ≤ v ∧ v < j + 0) by omega)]
    simp [rowP, sumE, xsr]
  | d + 1, j, h => by
    have ih := row_bit R S i v d (j + 1) (by omega)
    rw [rowP, List.filter_append, sumE_app, Nat.testBit_xor, ih, xsr]
    have h1 : (sumE ((if (R i).testBit j = true then [(i, j)] else []).filter (cutB S)) 0).testBit v = (cE R S i j && (decide (i = v) || decide (j = v))) := by
      unfold cE
      by_cases c : (R i).testBit j = true
      · rw [if_pos c, c, List.filter_cons]
        by_cases c2 : cutB S (i, j) = true
        · have c3 : (S.testBit i != S.testBit j) = true := c2
          rw [if_pos c2, c3]
          simp [sumE, Nat.testBit_two_pow]
        · have c3 : (S.testBit i != S.testBit j) = false := by simpa [cutB] using c2
          rw [if_neg c2, c3]
          simp [sumE]
      · rw [if_neg c]
        simp [sumE, c]
    rw [h1]
    by_cases e : j = v
    · subst e
      rw [decide_eq_false (show ¬ i = j by omega), decide_eq_false (show ¬ (j + 1 ≤ j ∧ j < j + 1 + d) by omega), decide_eq_true (show j ≤ j ∧ j < j + (d + 1) by omega)]
      simp
    · have e2 : decide (j + 1 ≤ v ∧ v < j + 1 + d) = decide (j ≤ v ∧ v < j + (d + 1)) := by
        by_cases q : j + 1 ≤ v ∧ v < j + 1 + d
        · rw [decide_eq_true q, decide_eq_true (by omega)]
        · rw [decide_eq_false q, decide_eq_false (by omega)]
      rw [decide_eq_false e, e2]
      cases cE R S i j <;> cases decide (i = v) <;> cases xsr (cE R S i) d (j + 1) <;> simp
theorem prs_bit (R : Nat → Nat) (S n v : Nat) : ∀ k, k ≤ n → (sumE ((prs R n k).filter (cutB S)) 0).testBit v = xs (fun i => (decide (i = v) && xsr (cE R S i) (n - (i + 1)) (i + 1)) ^^ (decide (i + 1 ≤ v ∧ v < i + 1 + (n - (i + 1))) && cE R S i v)) k
  | 0, _ => by simp [prs, sumE, xs]
  | k + 1, h => by rw [prs, List.filter_append, sumE_app, Nat.testBit_xor, prs_bit R S n v k (by omega), row_bit R S k v _ _ (by omega), xs]
theorem cut_bit {R : Nat → Nat} {n : Nat} (hs : ∀ a b, a < n → b < n → (R a).testBit b = (R b).testBit a) (hl : ∀ a, a < n → (R a).testBit a = false) (S v : Nat) (hv : v < n) :
    (sumE ((prs R n n).filter (cutB S)) 0).testBit v = xs (cE R S v) n := by
  rw [prs_bit R S n v n (Nat.le_refl _), xs_xor, xs_eq (fun i => xsr (cE R S i) (n - (i + 1)) (i + 1)) v n hv]
  rw [xs_congr (g := fun i => decide (i < v) && cE R S i v) n (fun i hi => by
    by_cases q : i < v
    · rw [decide_eq_true q, decide_eq_true (by omega)]
    · rw [decide_eq_false q, decide_eq_false (by omega)]), xs_lt _ v n (by omega)]
  have h1 := xs_split (cE R S v) (n - (v + 1)) (v + 1)
  rw [show v + 1 + (n - (v + 1)) = n by omega] at h1
  rw [h1, xs]
  have h2 : xs (fun i => cE R S i v) v = xs (cE R S v) v := xs_congr v (fun i hi => by
    unfold cE
    rw [hs i v (by omega) hv]
    cases S.testBit i <;> cases S.testBit v <;> rfl)
  have h3 : cE R S v v = false := by unfold cE; rw [hl v hv]; rfl
  rw [h2, h3]
  cases xs (cE R S v) v <;> cases xsr (cE R S v) (n - (v + 1)) (v + 1) <;> rfl
theorem xs_front (f : Nat → Bool) : ∀ n, xs f (n + 1) = (f 0 ^^ xs (fun i => f (i + 1)) n)
  | 0 => by simp [xs]
  | n + 1 => by rw [xs, xs_front f n, xs]; cases f 0 <;> cases f (n + 1) <;> simp
theorem pop_par : ∀ (g m : Nat), xs (fun j => m.testBit j) g = (Go.Lib.popAux g m % 2 == 1)
  | 0, m => by simp [xs, Go.Lib.popAux]
  | g + 1, m => by
    rw [xs_front, Go.Lib.popAux]
    have h1 : xs (fun i => m.testBit (i + 1)) g = xs (fun j => (m / 2).testBit j) g := xs_congr g (fun i _ => by rw [Nat.testBit_succ])
    rw [h1, pop_par g (m / 2)]
    have h2 : m.testBit 0 = (m % 2 == 1) := by rw [Nat.testBit_zero]; by_cases e : m % 2 = 1 <;> simp [e]
    rw [h2]
    have a : m % 2 = 0 ∨ m % 2 = 1 := by omega
    have b : Go.Lib.popAux g (m / 2) % 2 = 0 ∨ Go.Lib.popAux g (m / 2) % 2 = 1 := by omega
    rcases a with a | a <;> rcases b with b | b <;> rw [a, b]
    · rw [show (0 + Go.Lib.popAux g (m / 2)) % 2 = 0 by omega]; rfl
    · rw [show (0 + Go.Lib.popAux g (m / 2)) % 2 = 1 by omega]; rfl
    · rw [show (1 + Go.Lib.popAux g (m / 2)) % 2 = 1 by omega]; rfl
    · rw [show (1 + Go.Lib.popAux g (m / 2)) % 2 = 0 by omega]; rfl
theorem xs_more (f : Nat → Bool) {n : Nat} (h : ∀ i, n ≤ i → f i = false) : ∀ d, xs f (n + d) = xs f n
  | 0 => rfl
  | d + 1 => by rw [← Nat.add_assoc, xs, xs_more f h d, h (n + d) (by omega)]; simp
theorem par_n {m n : Nat} (hn : n ≤ 16) (hm : m < 2 ^ n) : xs (fun j => m.testBit j) n = (pc m % 2 == 1) := by
  have h1 := xs_more (fun j => m.testBit j) (n := n) (fun i hi => Nat.testBit_lt_two_pow (Nat.lt_of_lt_of_le hm (Nat.pow_le_pow_right (by omega) hi))) (16 - n)
  rw [show n + (16 - n) = 16 by omega] at h1
  rw [← h1, pop_par]; rfl
section
variable (l : List Int) (G : Good l)
include G
/-- A cut is even where its set is quiet. -/
theorem cut_quiet (S : Nat) (hS : S < 2 ^ l.length) : (decide (sumE ((prs (nr l) l.length l.length).filter (cutB S)) 0 = 0)) = decide (eff (fun j => (lF (nr l) (fOdd l false) l.length).getD j 0) l.length S = 0) := by
  have hl := G.2.1
  have hs : ∀ a b, a < l.length → b < l.length → (nr l a).testBit b = (nr l b).testBit a := fun a b ha hb => by
    rw [Bool.eq_iff_iff]; exact ⟨gsym G a b ha hb, gsym G b a hb ha⟩
  have hY := sym_of l G (fOdd l false)
  have key : sumE ((prs (nr l) l.length l.length).filter (cutB S)) 0 = eff (fun j => (lF (nr l) (fOdd l false) l.length).getD j 0) l.length S := by
    have h1 : sumE ((prs (nr l) l.length l.length).filter (cutB S)) 0 < 2 ^ l.length := sumE_lt _ (fun p hp => by
      have := prs_lt (nr l) l.length l.length (Nat.le_refl _) p (List.mem_filter.1 hp).1
      exact ⟨this.1, this.2.1⟩) 0 (Nat.two_pow_pos _)
    have h2 : eff (fun j => (lF (nr l) (fOdd l false) l.length).getD j 0) l.length S < 2 ^ l.length := eff_lt _ _ _ (fun i hi => by
      have := hY.l ((lF (nr l) (fOdd l false) l.length).getD i 0) (by
        rw [List.getD_eq_getElem?_getD, List.getElem?_eq_getElem (by rw [lF_len]; exact hi)]; exact List.getElem_mem _)
      rwa [lF_len] at this)
    apply Nat.eq_of_testBit_eq
    intro v
    by_cases hv : v < l.length
    · rw [cut_bit hs (gloop G) S v hv, eff_bit_at]
      have h3 : ∀ j, j < l.length → (S.testBit j && ((lF (nr l) (fOdd l false) l.length).getD j 0).testBit v) = (((nr l v).testBit j && S.testBit j) ^^ (decide (j = v) && (fOdd l false j && S.testBit j))) := fun j hj => by
        rw [lF_at _ _ hj, rowF_bit, hs j v hj hv]
        by_cases e : j = v
        · subst e
          rw [gloop G j hj, decide_eq_true rfl]
          cases S.testBit j <;> cases fOdd l false j <;> rfl
        · rw [decide_eq_false e]
          cases S.testBit j <;> cases (nr l v).testBit j <;> simp
      rw [xs_congr _ h3, xs_xor, xs_eq (fun j => fOdd l false j && S.testBit j) v _ hv]
      have h4 : xs (cE (nr l) S v) l.length = (xs (fun j => (nr l v).testBit j && S.testBit j) l.length ^^ (S.testBit v && xs (fun j => (nr l v).testBit j) l.length)) := by
        rw [← xs_and, ← xs_xor]
        exact xs_congr _ (fun j _ => by
          unfold cE
          cases (nr l v).testBit j <;> cases S.testBit v <;> cases S.testBit j <;> rfl)
      rw [h4, par_n hl (glt G v hv)]
      have h5 : fOdd l false v = (pc (nr l v) % 2 == 1) := by unfold fOdd; simp
      rw [h5, Bool.and_comm (S.testBit v)]
    · have hp : 2 ^ l.length ≤ 2 ^ v := Nat.pow_le_pow_right (by omega) (by omega)
      rw [Nat.testBit_lt_two_pow (by omega), Nat.testBit_lt_two_pow (by omega)]
  rw [key]
theorem cuts_count (own : Bool) (h10 : l.length ≤ 10) : ∃ K : Nat, ∀ k, K + 2 ^ l.length < k → ∃ q : Nat,
    spec_CountEvenCuts.l0 k 0 0 l own = some (shr .i64 ((cntN (fun S => decide (eff (fun j => (lF (nr l) (fOdd l false) l.length).getD j 0) l.length S = 0)) (2 ^ l.length) 0 : Nat) : Int) ((up (partsOf l l.length 0 0 [])).length : Int), true) := by
  have hl := G.2.1
  obtain ⟨⟨K3, e3⟩, -⟩ := parts_ev l own G.2.1 G.2.2.1
  obtain ⟨⟨K5, e5⟩, -⟩ := edges_ev l own G.2.1 G.2.2.1
  simp only at e3 e5
  have h2 := edges_short (l := l) G.2.1
  have hpn : 2 ^ l.length ≤ 1024 := Nat.le_trans (Nat.pow_le_pow_right (by omega) h10) (by decide)
  rw [edgesR_P, List.length_map] at h2
  have hE := prs_lt (nr l) l.length l.length (Nat.le_refl _)
  have hsh := shl_nat (a := 1) (n := l.length) (by omega) (by omega)
  rw [Nat.shiftLeft_eq, Nat.one_mul, show ((1 : Nat) : Int) = 1 from rfl] at hsh
  refine ⟨K3 + K5 + 400, fun k hk => ⟨0, ?_⟩⟩
  have loop : ∀ (d x c k : Nat), x + d = 2 ^ l.length → c + d ≤ 3000 → K3 + K5 + 400 + d < k →
      spec_CountEvenCuts.l0 k (c : Int) (x : Int) l own = some (shr .i64 ((c + cntN (fun S => decide (eff (fun j => (lF (nr l) (fOdd l false) l.length).getD j 0) l.length S = 0)) d x : Nat) : Int) ((up (partsOf l l.length 0 0 [])).length : Int), true) := by
    intro d
    induction d with
    | zero =>
      intro x c k hx hc hk
      obtain ⟨k, rfl⟩ : ∃ m, k = m + 1 := ⟨k - 1, by omega⟩
      rw [spec_CountEvenCuts.l0, hsh, if_neg (by omega), e3 k (by omega)]
      simp [cntN]
    | succ d ih =>
      intro x c k hx hc hk
      obtain ⟨k, rfl⟩ : ∃ m, k = m + 1 := ⟨k - 1, by omega⟩
      have hxl : x < 2 ^ l.length := by omega
      have hcut : spec_paCut.f k l own (x : Int) = some (((prs (nr l) l.length l.length).filter (cutB x)).map toE) := by
        unfold spec_paCut.f
        rw [e5 k (by omega), edgesR_P]
        simp only [Option.bind_some]
        have := cut_l0 x (by omega) (prs (nr l) l.length l.length) (by omega) (prs (nr l) l.length l.length).length 0 k [] (by omega) (Nat.le_refl _) (by omega)
        rw [List.length_map]
        simpa using this
      have hfl := List.length_filter_le (cutB x) (prs (nr l) l.length l.length)
      have hev : spec_paEven.f k l own (((prs (nr l) l.length l.length).filter (cutB x)).map toE) = some (decide (eff (fun j => (lF (nr l) (fOdd l false) l.length).getD j 0) l.length x = 0)) := by
        unfold spec_paEven.f
        have := even_l0 ((prs (nr l) l.length l.length).filter (cutB x)) (by omega) (fun p hp => by
          have := hE p (List.mem_filter.1 hp).1
          omega) _ 0 k 0 (Nat.zero_add _) (by omega) (by omega)
        rw [List.drop_zero, cut_quiet l G x hxl] at this
        rw [List.length_map]
        exact this
      rw [spec_CountEvenCuts.l0, hsh, if_pos (by omega), hcut]
      simp only [Option.bind_some]
      rw [hev]
      simp only [Option.bind_some]
      rw [cntN]
      by_cases q : decide (eff (fun j => (lF (nr l) (fOdd l false) l.length).getD j 0) l.length x = 0) = true
      · rw [if_pos q, if_pos q, step1' (i := c) (by omega), step1' (i := x) (by omega), ih (x + 1) (c + 1) k (by omega) (by omega) (by omega), Nat.add_assoc]
      · rw [if_neg q, if_neg q, step1' (i := x) (by omega), ih (x + 1) c k (by omega) (by omega) (by omega), Nat.zero_add]
  have := loop (2 ^ l.length) 0 0 k (by omega) (by omega) (by omega)
  rw [Nat.zero_add] at this
  exact this
end
end Go.Proofs.Ytoobofnpdiapgaa.Gr
