/- Edges as pairs, and those that a set cuts. The search by levels on the stating side, in step with the plain one. A forest's matching: the model's insertion. The program's search by levels, in step with the plain one where there is no circle. A forest's matching: the program's row, and that both sides agree. What the search tells of a forest: parents stand before their children, and tell all edges. Plain Lean, no program. A forest's matching: both sides. -/
import Derived.Test.YtdpdmhjmmpncoaaGA
import Derived.Test.YtdpdmhjmmpncoaaPx24
import Derived.Test.YtdpdmhjmmpncoaaPx7
import Derived.Test.YtdpdmhjmmpncoaaPx34
import Derived.Test.YtdpdmhjmmpncoaaPx35
import Derived.Test.YtdpdmhjmmpncoaaPx32
import Derived.Test.YtdpdmhjmmpncoaaPx33
import Derived.Test.YtdpdmhjmmpncoaaPx40
import Derived.Test.YtdpdmhjmmpncoaaPx37
import Derived.Test.YtdpdmhjmmpncoaaPx41
import Derived.Test.YtdpdmhjmmpncoaaPx43
import Derived.Test.YtdpdmhjmmpncoaaPx44
namespace Go.Proofs.Ytdpdmhjmmpncoaa.Gr
open Go.RowKit Go.Proofs.Ytdpdmhjmmpncoaa.P Go.Proofs.Ytdpdmhjmmpncoaa.Bt Go.Proofs.Ytdpdmhjmmpncoaa.Lw Go.Proofs.YtdpdmhjmmpncoaaW.PrintWords Go.Proofs.YtdpdmhjmmpncoaaW.PrintLast Go.Proofs.YtdpdmhjmmpncoaaW.PrintMore
set_option linter.unusedVariables false
set_option linter.unusedSimpArgs false

/-- Edges as pairs. -/
def rowP (R : Nat → Nat) (i : Nat) : Nat → Nat → List (Nat × Nat)
  | 0, _ => []
  | d + 1, j => (if (R i).testBit j = true then [(i, j)] else []) ++ rowP R i d (j + 1)
def toE (p : Nat × Nat) : List Int := [(p.1 : Int), (p.2 : Int)]
theorem rowE_P (R : Nat → Nat) (i : Nat) : ∀ d j, rowE R i d j = (rowP R i d j).map toE
  | 0, _ => rfl
  | d + 1, j => by
    rw [rowE, rowP, List.map_append, rowE_P R i d (j + 1)]
    congr 1
    split <;> rfl
def prs (R : Nat → Nat) (n : Nat) : Nat → List (Nat × Nat)
  | 0 => []
  | k + 1 => prs R n k ++ rowP R k (n - (k + 1)) (k + 1)
theorem edgesR_P (R : Nat → Nat) (n : Nat) : ∀ k, edgesR R n k = (prs R n k).map toE
  | 0 => rfl
  | k + 1 => by rw [edgesR, prs, List.map_append, edgesR_P R n k, rowE_P]
theorem rowP_lt (R : Nat → Nat) (i n : Nat) (hi : i < n) : ∀ d j, i < j → j + d ≤ n → ∀ p ∈ rowP R i d j, p.1 < n ∧ p.2 < n ∧ p.1 ≠ p.2
  | 0, _, _, _, p, hp => by cases hp
  | d + 1, j, h1, h2, p, hp => by
    rw [rowP] at hp
    rcases List.mem_append.1 hp with hp | hp
    · split at hp
      · simp at hp; subst hp; exact ⟨hi, by show j < n; omega, by show i ≠ j; omega⟩
      · cases hp
    · exact rowP_lt R i n hi d (j + 1) (by omega) (by omega) p hp
theorem prs_lt (R : Nat → Nat) (n : Nat) : ∀ k, k ≤ n → ∀ p ∈ prs R n k, p.1 < n ∧ p.2 < n ∧ p.1 ≠ p.2
  | 0, _, p, hp => by cases hp
  | k + 1, hk, p, hp => by
    rw [prs] at hp
    rcases List.mem_append.1 hp with hp | hp
    · exact prs_lt R n k (by omega) p hp
    · exact rowP_lt R k n (by omega) _ _ (by omega) (by omega) p hp
/-- Is an edge cut? -/
def cutB (S : Nat) (p : Nat × Nat) : Bool := S.testBit p.1 != S.testBit p.2
def sumE : List (Nat × Nat) → Nat → Nat
  | [], x => x
  | p :: E, x => sumE E (x ^^^ (2 ^ p.1 ||| 2 ^ p.2))
theorem rd_E (E : List (Nat × Nat)) {i : Nat} (h : i < E.length) : rd_L1 (E.map toE) (i : Int) = toE E[i] := by simp [rd_L1, h]
theorem toE_0 (p : Nat × Nat) : rd (toE p) 0 = (p.1 : Int) := rfl
theorem toE_1 (p : Nat × Nat) : rd (toE p) 1 = (p.2 : Int) := rfl
theorem toE_len (p : Nat × Nat) : ((toE p).length : Int) = 2 := rfl
theorem cut_l0 (S : Nat) (hS : S < 65536) (E : List (Nat × Nat)) (hl : E.length ≤ 1000) : ∀ (d i k : Nat) (acc : List (Nat × Nat)), i + d = E.length → acc.length ≤ i → d < k →
    spec_paCut.l0 k (S : Int) (acc.map toE) (E.map toE) (E.length : Int) (i : Int) = some ((acc ++ (E.drop i).filter (cutB S)).map toE) := by
  intro d
  induction d with
  | zero =>
    intro i k acc hi ha hk
    obtain ⟨k, rfl⟩ : ∃ m, k = m + 1 := ⟨k - 1, by omega⟩
    have : i = E.length := by omega
    subst this
    rw [spec_paCut.l0, if_neg (by omega), List.drop_length]; simp
  | succ d ih =>
    intro i k acc hi ha hk
    obtain ⟨k, rfl⟩ : ∃ m, k = m + 1 := ⟨k - 1, by omega⟩
    have hlt : i < E.length := by omega
    rw [spec_paCut.l0, if_pos (by omega), if_pos (by omega), if_pos (by rw [List.length_map]; omega), rd_E E hlt, toE_len, if_pos (by omega), toE_0, toE_1, grIn_nat _ _ (by omega)]
    simp only [Option.bind_some]
    rw [if_pos (by omega), grIn_nat _ _ (by omega)]
    simp only [Option.bind_some]
    rw [List.drop_eq_getElem_cons hlt, List.filter_cons, step1 (by omega)]
    show (if cutB S E[i] = true then _ else _) = _
    by_cases c : cutB S E[i] = true
    · rw [if_pos c, if_pos c, if_pos (by rw [List.length_map]; omega)]
      have := ih (i + 1) k (acc ++ [E[i]]) (by omega) (by simp; omega) (by omega)
      rw [List.append_assoc, List.map_append] at this
      exact this
    · rw [if_neg c, if_neg c]
      exact ih (i + 1) k acc (by omega) (by omega) (by omega)
end Go.Proofs.Ytdpdmhjmmpncoaa.Gr

namespace Go.Proofs.Ytdpdmhjmmpncoaa.Gr
open Go.RowKit Go.Proofs.Ytdpdmhjmmpncoaa.P Go.Proofs.Ytdpdmhjmmpncoaa.Bt Go.Proofs.Ytdpdmhjmmpncoaa.Lw Go.Proofs.Ytdpdmhjmmpncoaa.Cl Go.Proofs.Ytdpdmhjmmpncoaa.Bf Go.Proofs.YtdpdmhjmmpncoaaW.PrintWords Go.Proofs.YtdpdmhjmmpncoaaW.PrintLast Go.Proofs.YtdpdmhjmmpncoaaW.PrintMore
set_option linter.unusedVariables false
set_option linter.unusedSimpArgs false

abbrev Tr := List Int × List Int × Bool
section
variable (l : List Int) (own : Bool) (G : Good l)
include G
theorem tr_scan (i h h0 v : Nat) (hi : i < l.length) (r : Tr) : ∀ (d w : Nat) (s : B), w + d = l.length → Inv (nr l) l.length h0 s → v ∈ s.q → s.bad = 0 → (∀ p : Nat, s.par.getD v 0 = (p : Int) → s.seen.testBit p = true) →
    ((scan (nr l) v d w s).bad = 0 → Ev (fun k => spec_trParents.l1 k (l.length : Int) (scan (nr l) v d w s).par (up (scan (nr l) v d w s).q) ((scan (nr l) v d w s).seen : Int) (i : Int) (wrap64 ((h : Int) + 1)) l own) r) →
    ((scan (nr l) v d w s).bad ≠ 0 → r = ([], [], false)) →
    Ev (fun k => spec_trParents.l2 k (l.length : Int) s.par (up s.q) (s.seen : Int) (i : Int) (h : Int) (v : Int) (w : Int) l own) r := by
  have hl := G.2.1
  have hp := pow16 hl
  intro d
  induction d with
  | zero =>
    intro w s hw I hv hb hpar h1 h2
    refine Ev.succ (h1 hb) 0 fun k _ => ?_
    rw [spec_trParents.l2, if_neg (by omega)]
    rfl
  | succ d ih =>
    intro w s hw I hv hb hpar h1 h2
    have hvn := I.lt v hv
    have hsv := nr_small hl G.2.2.1 hvn
    have hrv : rd l (v : Int) = (nr l v : Int) := by rw [rd_nat]; exact nr_cast G.2.2.1 hvn
    have hpv : rd s.par (v : Int) = s.par.getD v 0 := rd_nat _ _
    have hlen := I.len
    have hseen : s.seen < 9223372036854775808 := by
      have : s.seen < 2 ^ l.length := by
        apply Nat.lt_of_not_le
        intro hge
        obtain ⟨j, hj1, hj2⟩ := Nat.exists_ge_and_testBit_of_ge_two_pow hge
        have := I.lt j ((I.mem j).1 hj2)
        omega
      omega
    have hqn : s.q.length ≤ 16 := by
      have := I.short
      have := card_le l.length s.seen
      omega
    obtain ⟨a1, a2, a3, a4, ⟨t, a5⟩, a6, a7, a8⟩ := look_inv (nr l) (good_sym G) I hv (w := w) (by omega)
    by_cases c : (nr l v).testBit w = true
    · by_cases c1 : s.par.getD v 0 = (w : Int)
      · have e : Bf.look (nr l) v w s = s := by unfold Bf.look; rw [if_neg (fun x => x.2 c1)]
        rw [scan, e] at h1 h2
        refine Ev.succ (Ev.succ (ih (w + 1) s (by omega) I hv hb hpar h1 h2) 0 (f := fun k => spec_trParents.j3 k (l.length : Int) s.par (up s.q) (s.seen : Int) (i : Int) (h : Int) (v : Int) (w : Int) true l own) fun k _ => ?_) 0 fun k _ => ?_
        · rw [spec_trParents.j3, if_pos rfl, step1 (by omega)]
        · rw [spec_trParents.l2, if_pos (by omega), if_pos (by omega), if_pos (by omega), hrv, grIn_nat (nr l v) w (by omega), c]
          simp only [Option.bind_some, if_true]
          rw [if_pos (by omega), hpv, c1, beq_self_eq_true]
      · have hne : ((w : Int) == rd s.par (v : Int)) = false := by
          rw [hpv, beq_eq_false_iff_ne]; exact fun x => c1 x.symm
        have key : Ev (fun k => spec_trParents.j3 k (l.length : Int) s.par (up s.q) (s.seen : Int) (i : Int) (h : Int) (v : Int) (w : Int) false l own) r := by
          by_cases c2 : s.seen.testBit w = true
          · have e : Bf.look (nr l) v w s = { s with bad := s.bad + 1 } := by unfold Bf.look; rw [if_pos ⟨c, c1⟩, if_pos c2]
            have hr : r = ([], [], false) := by
              apply h2
              obtain ⟨_, _, _, _, _, _, hm⟩ := scan_inv (nr l) (good_sym G) d (w + 1) (Bf.look (nr l) v w s) (by omega) a1 (by rw [a5]; exact List.mem_append_left _ hv) (fun p hp => a4 p (hpar p (by rw [← a6]; exact hp)))
              rw [scan]
              have : (Bf.look (nr l) v w s).bad = s.bad + 1 := by rw [e]
              omega
            rw [hr]
            refine Ev.konst 1 fun k hk => ?_
            obtain ⟨k, rfl⟩ : ∃ m, k = m + 1 := ⟨k - 1, by omega⟩
            rw [spec_trParents.j3, if_neg (by simp), grIn_nat s.seen w hseen, c2]
            rfl
          · have e : Bf.look (nr l) v w s = { par := s.par.set w (v : Int), q := s.q ++ [w], seen := s.seen ||| 1 <<< w, bad := s.bad } := by
              unfold Bf.look; rw [if_pos ⟨c, c1⟩, if_neg c2]
            rw [scan] at h1 h2
            have := ih (w + 1) (Bf.look (nr l) v w s) (by omega) a1 (by rw [a5]; exact List.mem_append_left _ hv) (by rw [e]; exact hb) (fun p hp => a4 p (hpar p (by rw [← a6]; exact hp))) h1 h2
            rw [e] at this
            have hsh : shl .i64 1 (w : Int) = ((1 <<< w : Nat) : Int) := by
              have hb := one_bit_lt (n := l.length) (i := w) (by omega)
              have := shl_nat (a := 1) (n := w) (by omega) (by rw [← Nat.shiftLeft_eq]; omega)
              simpa using this
            have hbl := one_bit_lt (n := l.length) (i := w) (by omega)
            refine Ev.succ this 0 fun k _ => ?_
            rw [spec_trParents.j3, if_neg (by simp), grIn_nat s.seen w hseen, Bool.eq_false_iff.mpr c2]
            simp only [Option.bind_some]
            rw [if_neg (by simp), if_pos (by omega), if_pos (by omega), if_pos (by rw [up_length]; omega), hsh, bits_or hseen (by omega), step1 (by omega), Int.toNat_natCast, up_add]
        refine Ev.succ key 0 fun k _ => ?_
        rw [spec_trParents.l2, if_pos (by omega), if_pos (by omega), if_pos (by omega), hrv, grIn_nat (nr l v) w (by omega), c]
        simp only [Option.bind_some, if_true]
        rw [if_pos (by omega), hne]
    · have e : Bf.look (nr l) v w s = s := by unfold Bf.look; rw [if_neg (fun x => c x.1)]
      rw [scan, e] at h1 h2
      refine Ev.succ (Ev.succ (ih (w + 1) s (by omega) I hv hb hpar h1 h2) 0 (f := fun k => spec_trParents.j3 k (l.length : Int) s.par (up s.q) (s.seen : Int) (i : Int) (h : Int) (v : Int) (w : Int) true l own) fun k _ => ?_) 0 fun k _ => ?_
      · rw [spec_trParents.j3, if_pos rfl, step1 (by omega)]
      · rw [spec_trParents.l2, if_pos (by omega), if_pos (by omega), if_pos (by omega), hrv, grIn_nat (nr l v) w (by omega), Bool.eq_false_iff.mpr c]
        simp only [Option.bind_some]
        rw [if_neg (by simp)]
omit G in
theorem look_bad (v w : Nat) (s : B) : s.bad ≤ (Bf.look (nr l) v w s).bad := by
  unfold Bf.look
  split
  · split
    · exact Nat.le_succ _
    · exact Nat.le_refl _
  · exact Nat.le_refl _
omit G in
theorem scan_bad (v : Nat) : ∀ d w (s : B), s.bad ≤ (scan (nr l) v d w s).bad := by
  intro d
  induction d with
  | zero => intro w s; exact Nat.le_refl _
  | succ d ih => intro w s; exact Nat.le_trans (look_bad l v w s) (ih (w + 1) _)
omit G in
theorem visit_bad : ∀ f h (s : B), s.bad ≤ (visit (nr l) l.length f h s).bad := by
  intro f
  induction f with
  | zero => intro h s; exact Nat.le_refl _
  | succ f ih =>
    intro h s
    rw [visit]
    split
    · exact Nat.le_trans (scan_bad l _ _ _ _) (ih _ _)
    · exact Nat.le_refl _
omit G in
theorem roots_bad : ∀ d i (s : B × Nat), s.1.bad ≤ (roots (nr l) l.length d i s).1.bad := by
  intro d
  induction d with
  | zero => intro i s; exact Nat.le_refl _
  | succ d ih =>
    intro i s
    rw [roots]
    split
    · exact ih _ _
    · exact Nat.le_trans (visit_bad l (l.length + 1) s.1.q.length (push i s.1)) (ih (i + 1) (visit (nr l) l.length (l.length + 1) s.1.q.length (push i s.1), s.2 + 1))
theorem tr_visit (i h0 : Nat) (hi : i < l.length) (r : Tr) : ∀ (f h : Nat) (s : B), l.length < f + h → h0 ≤ h → h ≤ s.q.length → Inv (nr l) l.length h0 s → s.bad = 0 →
    ((visit (nr l) l.length f h s).bad = 0 → Ev (fun k => spec_trParents.l0 k (l.length : Int) (visit (nr l) l.length f h s).par (up (visit (nr l) l.length f h s).q) ((visit (nr l) l.length f h s).seen : Int) ((i + 1 : Nat) : Int) l own) r) →
    ((visit (nr l) l.length f h s).bad ≠ 0 → r = ([], [], false)) →
    Ev (fun k => spec_trParents.l1 k (l.length : Int) s.par (up s.q) (s.seen : Int) (i : Int) (h : Int) l own) r := by
  have hl := G.2.1
  intro f
  induction f with
  | zero =>
    intro h s hf h1 h2 I
    have := I.short
    have := card_le l.length s.seen
    omega
  | succ f ih =>
    intro h s hf h1 h2 I hb g1 g2
    have hqn : s.q.length ≤ 16 := by
      have := I.short
      have := card_le l.length s.seen
      omega
    rw [visit] at g1 g2
    by_cases c : h < s.q.length
    · rw [if_pos c] at g1 g2
      have hv := getD_mem c
      have hvn := I.lt _ hv
      have hp : ∀ p : Nat, s.par.getD (s.q.getD h 0) 0 = (p : Int) → s.seen.testBit p = true := by
        intro p hp
        by_cases e : h = h0
        · subst e
          have := I.root
          omega
        · obtain ⟨p', _, a2, _, a4⟩ := I.non h (by omega) c
          have : p = p' := by omega
          subst this
          exact a4
      obtain ⟨b1, _, _, _, ⟨t, b5⟩, _, _⟩ := scan_inv (nr l) (good_sym G) l.length 0 s (by omega) I hv hp
      have hlen : s.q.length ≤ (scan (nr l) (s.q.getD h 0) l.length 0 s).q.length := by rw [b5, List.length_append]; omega
      have hrd : rd (up s.q) (h : Int) = ((s.q.getD h 0 : Nat) : Int) := by
        rw [rd_nat]
        unfold up
        rw [List.getD_eq_getElem?_getD, List.getElem?_map, List.getElem?_eq_getElem c, List.getD_eq_getElem?_getD, List.getElem?_eq_getElem c]
        rfl
      refine Ev.succ (tr_scan l own G i h h0 (s.q.getD h 0) hi r l.length 0 s (by omega) I hv hb hp (fun e => ?_) (fun e => g2 ?_)) 0 fun k _ => ?_
      · rw [step1 (by omega)]
        exact ih (h + 1) _ (by omega) (by omega) (by omega) b1 e g1 g2
      · have := visit_bad l f (h + 1) (scan (nr l) (s.q.getD h 0) l.length 0 s)
        omega
      · rw [spec_trParents.l1, if_pos (by rw [up_length]; omega), if_pos (by omega), hrd]
        rfl
    · rw [if_neg c] at g1 g2
      refine Ev.succ (g1 hb) 0 fun k _ => ?_
      rw [spec_trParents.l1, if_neg (by rw [up_length]; omega), step1 (by omega)]
theorem tr_roots : ∀ (d i : Nat) (s : B) (r0 : Nat) (r : Tr), i + d = l.length → Bf.Rest (nr l) l.length i r0 s → s.bad = 0 →
    ((roots (nr l) l.length d i (s, r0)).1.bad = 0 → r = ((roots (nr l) l.length d i (s, r0)).1.par, up (roots (nr l) l.length d i (s, r0)).1.q, true)) →
    ((roots (nr l) l.length d i (s, r0)).1.bad ≠ 0 → r = ([], [], false)) →
    Ev (fun k => spec_trParents.l0 k (l.length : Int) s.par (up s.q) (s.seen : Int) (i : Int) l own) r := by
  have hl := G.2.1
  have hp := pow16 hl
  intro d
  induction d with
  | zero =>
    intro i s r0 r hi I hb g1 g2
    refine Ev.konst 1 fun k hk => ?_
    obtain ⟨k, rfl⟩ : ∃ m, k = m + 1 := ⟨k - 1, by omega⟩
    rw [spec_trParents.l0, if_neg (by omega), g1 hb]
    rfl
  | succ d ih =>
    intro i s r0 r hi I hb g1 g2
    have hseen : s.seen < 9223372036854775808 := by
      have : s.seen < 2 ^ l.length := by
        apply Nat.lt_of_not_le
        intro hge
        obtain ⟨j, hj1, hj2⟩ := Nat.exists_ge_and_testBit_of_ge_two_pow hge
        have := I.lt j ((I.mem j).1 hj2)
        omega
      omega
    rw [roots] at g1 g2
    by_cases c : s.seen.testBit i = true
    · rw [if_pos c] at g1 g2
      refine Ev.succ (ih (i + 1) s r0 r (by omega) ⟨I.len, I.sum, I.mem, I.lt, I.cl, I.eq, fun j hj => by
        by_cases e : j = i
        · subst e; exact c
        · exact I.done j (by omega)⟩ hb g1 g2) 0 fun k _ => ?_
      rw [spec_trParents.l0, if_pos (by omega), grIn_nat s.seen i hseen, c]
      simp only [Option.bind_some, if_true]
      rw [step1 (by omega)]
    · rw [if_neg c] at g1 g2
      have P := push_inv (nr l) I (by omega) c
      obtain ⟨V, _, _⟩ := phase (nr l) (good_sym G) (good_lt G) I (by omega) c
      have hqn : (push i s).q.length ≤ 16 := by
        have := P.short
        have := card_le l.length (push i s).seen
        omega
      have hq : (push i s).q = s.q ++ [i] := rfl
      rw [hq, List.length_append, List.length_singleton] at hqn
      have hsh : shl .i64 1 (i : Int) = ((1 <<< i : Nat) : Int) := by
        have hb := one_bit_lt (n := l.length) (i := i) (by omega)
        have := shl_nat (a := 1) (n := i) (by omega) (by rw [← Nat.shiftLeft_eq]; omega)
        simpa using this
      have hbl := one_bit_lt (n := l.length) (i := i) (by omega)
      have hlen := I.len
      have e1 := tr_visit l own G i s.q.length (by omega) r (l.length + 1) s.q.length (push i s) (by omega) (Nat.le_refl _) (by rw [hq, List.length_append]; omega) P hb
        (fun e => ih (i + 1) _ (r0 + 1) r (by omega) V e g1 g2)
        (fun e => g2 (by
          have := roots_bad l d (i + 1) (visit (nr l) l.length (l.length + 1) s.q.length (push i s), r0 + 1)
          simp only at this ⊢
          omega))
      refine Ev.succ e1 0 fun k _ => ?_
      rw [spec_trParents.l0, if_pos (by omega), grIn_nat s.seen i hseen, Bool.eq_false_iff.mpr c]
      simp only [Option.bind_some]
      rw [if_neg (by simp), if_pos (by omega), if_pos (by omega), if_pos (by rw [up_length]; omega), hsh, bits_or hseen (by omega), Int.toNat_natCast, ← up_add, up_length]
      rfl
/-- What the search answers. -/
def bfs (l : List Int) : B := (roots (nr l) l.length l.length 0 (Bf.start l.length, 0)).1
theorem tr_ev : Ev (fun k => spec_trParents.f k l own) (if badOf l = 0 then ((bfs l).par, up (bfs l).q, true) else ([], [], false)) := by
  have hl := G.2.1
  have := tr_roots l own G l.length 0 (Bf.start l.length) 0 (if badOf l = 0 then ((bfs l).par, up (bfs l).q, true) else ([], [], false)) (by omega) (start_rest (nr l) l.length) rfl (fun e => if_pos e) (fun e => if_neg e)
  obtain ⟨K, h⟩ := this
  refine ⟨K, fun k hk => ?_⟩
  show spec_trParents.f k l own = _
  unfold spec_trParents.f
  rw [if_pos (by omega), if_pos (by omega), Int.toNat_natCast]
  exact h k hk
/-- 'Is it a forest' on the other side, by counting. -/
theorem forest_ev : Ev (fun k => impl_isForest.f k l own) (badOf l == 0) := by
  obtain ⟨b, hb, _, ⟨K2, e2⟩⟩ := good_both l own (by have := G.2.1; omega)
  have hbt := hb.2 G
  subst hbt
  obtain ⟨_, ⟨K4, e4⟩⟩ := parts_ev l own G.2.1 G.2.2.1
  obtain ⟨_, ⟨K6, e6⟩⟩ := edges_ev l own G.2.1 G.2.2.1
  simp only at e2 e4 e6
  have h1 := count_graph G
  have h2 := edges_short (l := l) G.2.1
  have h3 := parts_short l G.2.1
  have hl := G.2.1
  generalize (edgesR (nr l) l.length l.length) = E at *
  generalize (up (partsOf l l.length 0 0 [])) = P at *
  refine ⟨K2 + K4 + K6, fun k hk => ?_⟩
  show impl_isForest.f k l own = _
  unfold impl_isForest.f
  rw [e2 k (by omega)]
  simp only [Option.bind_some, if_true]
  rw [e6 k (by omega)]
  simp only [Option.bind_some]
  rw [e4 k (by omega)]
  simp only [Option.bind_some]
  rw [Bt.wrap_id (by omega) (by omega)]
  congr 1
  rw [Bool.eq_iff_iff, beq_iff_eq, beq_iff_eq]
  omega
end
end Go.Proofs.Ytdpdmhjmmpncoaa.Gr

namespace Go.Proofs.Ytdpdmhjmmpncoaa.Gr
open Go.RowKit Go.Proofs.Ytdpdmhjmmpncoaa.P Go.Proofs.Ytdpdmhjmmpncoaa.Bt Go.Proofs.Ytdpdmhjmmpncoaa.Lw Go.Proofs.YtdpdmhjmmpncoaaW.PrintWords Go.Proofs.YtdpdmhjmmpncoaaW.PrintLast Go.Proofs.YtdpdmhjmmpncoaaW.PrintMore
set_option linter.unusedVariables false
set_option linter.unusedSimpArgs false

def pn (par : List Int) (i : Nat) : Nat := (par.getD i 0).toNat
/-- Is the button i passed over, the buttons U being taken? -/
def skp (par : List Int) (U i : Nat) : Bool := decide (par.getD i 0 < 0) || (U.testBit i || U.testBit (pn par i))
def mE (par : List Int) (i : Nat) : Nat × Nat := (min i (pn par i), max i (pn par i))
/-- The edges that are taken, in their order. -/
def pick (par : List Int) : List Nat → Nat → List (Nat × Nat)
  | [], _ => []
  | i :: is, U => if skp par U i = true then pick par is U else mE par i :: pick par is (U ||| (2 ^ i ||| 2 ^ pn par i))
def insE (e : Nat × Nat) : List (Nat × Nat) → List (Nat × Nat)
  | [] => [e]
  | f :: fs => if f.1 < e.1 then f :: insE e fs else e :: f :: fs
def insAll : List (Nat × Nat) → List (Nat × Nat) → List (Nat × Nat)
  | [], out => out
  | e :: es, out => insAll es (insE e out)
theorem insE_app (e : Nat × Nat) : ∀ (A B : List (Nat × Nat)), (∀ f ∈ A, f.1 < e.1) → insE e (A ++ B) = A ++ insE e B
  | [], _, _ => rfl
  | f :: A, B, h => by
    rw [List.cons_append, insE, if_pos (h f (List.mem_cons_self ..)), insE_app e A B (fun x hx => h x (List.mem_cons_of_mem _ hx))]; rfl
theorem insE_perm (e : Nat × Nat) : ∀ out, (insE e out).Perm (e :: out)
  | [] => List.Perm.refl _
  | f :: fs => by
    rw [insE]
    split
    · exact (List.Perm.cons f (insE_perm e fs)).trans (List.Perm.swap e f fs)
    · exact List.Perm.refl _
theorem insAll_perm : ∀ (es out : List (Nat × Nat)), (insAll es out).Perm (es ++ out)
  | [], out => List.Perm.refl _
  | e :: es, out => by
    rw [insAll]
    exact (insAll_perm es (insE e out)).trans ((List.Perm.append_left es (insE_perm e out)).trans List.perm_middle)
theorem insE_sorted (e : Nat × Nat) : ∀ out : List (Nat × Nat), out.Pairwise (fun a b => a.1 ≤ b.1) → (insE e out).Pairwise (fun a b => a.1 ≤ b.1)
  | [], _ => by simp [insE]
  | f :: fs, h => by
    rw [List.pairwise_cons] at h
    rw [insE]
    split
    · rename_i c
      rw [List.pairwise_cons]
      refine ⟨fun x hx => ?_, insE_sorted e fs h.2⟩
      rcases List.mem_cons.1 ((insE_perm e fs).mem_iff.1 hx) with rfl | hx
      · omega
      · exact h.1 x hx
    · rename_i c
      rw [List.pairwise_cons]
      refine ⟨fun x hx => ?_, List.pairwise_cons.2 h⟩
      rcases List.mem_cons.1 hx with rfl | hx
      · omega
      · have := h.1 x hx; omega
theorem insAll_sorted : ∀ (es out : List (Nat × Nat)), out.Pairwise (fun a b => a.1 ≤ b.1) → (insAll es out).Pairwise (fun a b => a.1 ≤ b.1)
  | [], _, h => h
  | e :: es, out, h => insAll_sorted es _ (insE_sorted e out h)
theorem pick_len (par : List Int) : ∀ (is : List Nat) (U : Nat), (pick par is U).length ≤ is.length
  | [], _ => Nat.le_refl _
  | i :: is, U => by
    rw [pick]
    split
    · have := pick_len par is U; simp; omega
    · have := pick_len par is (U ||| (2 ^ i ||| 2 ^ pn par i)); simp; omega
/-- What is taken has ends that are not taken, and no two have a common end. -/
theorem pick_free (par : List Int) : ∀ (is : List Nat) (U : Nat), (∀ e ∈ pick par is U, U.testBit e.1 = false ∧ U.testBit e.2 = false) ∧ (pick par is U).Pairwise (fun a b => a.1 ≠ b.1)
  | [], _ => ⟨fun e he => (by cases he), List.Pairwise.nil⟩
  | i :: is, U => by
    rw [pick]
    split
    · exact pick_free par is U
    · rename_i c
      obtain ⟨h1, h2⟩ := pick_free par is (U ||| (2 ^ i ||| 2 ^ pn par i))
      have cs : U.testBit i = false ∧ U.testBit (pn par i) = false := by
        simp only [skp, Bool.or_eq_true, not_or, Bool.not_eq_true] at c
        exact c.2
      have hm : (mE par i).1 = i ∨ (mE par i).1 = pn par i := by unfold mE; simp only; omega
      have hx : (mE par i).2 = i ∨ (mE par i).2 = pn par i := by unfold mE; simp only; omega
      refine ⟨fun e he => ?_, List.pairwise_cons.2 ⟨fun b hb e1 => ?_, h2⟩⟩
      · rcases List.mem_cons.1 he with rfl | he
        · refine ⟨?_, ?_⟩
          · rcases hm with e | e <;> rw [e] <;> first | exact cs.1 | exact cs.2
          · rcases hx with e | e <;> rw [e] <;> first | exact cs.1 | exact cs.2
        · obtain ⟨a1, a2⟩ := h1 e he
          rw [Nat.testBit_or, Bool.or_eq_false_iff] at a1 a2
          exact ⟨a1.1, a2.1⟩
      · obtain ⟨a1, -⟩ := h1 b hb
        rw [← e1, Nat.testBit_or, Nat.testBit_or, Bool.or_eq_false_iff, Bool.or_eq_false_iff, Nat.testBit_two_pow, Nat.testBit_two_pow] at a1
        rcases hm with e | e <;> rw [e] at a1 <;> simp at a1
theorem mat_ins (par : List Int) (ord : List Nat) (U x : Int) (e : Nat × Nat) (r : List (List Int) × Bool) (out : List (Nat × Nat)) (hl : out.length ≤ 16) (h : Ev (fun k => spec_trMatching.l0 k par (up ord) ((insE e out).map toE) U (wrap64 (x - 1))) r) :
    ∀ (d : Nat) (A B : List (Nat × Nat)), out = A ++ B → B.length = d → (∀ f ∈ A, f.1 < e.1) → Ev (fun k => spec_trMatching.l1 k par (up ord) (out.map toE) U x (toE e) (A.length : Int)) r := by
  intro d
  induction d with
  | zero =>
    intro A B hAB hB hA
    obtain rfl := List.eq_nil_of_length_eq_zero hB
    rw [List.append_nil] at hAB
    subst hAB
    have e1 := insE_app e out [] hA
    rw [List.append_nil] at e1
    rw [e1] at h
    obtain ⟨K, h⟩ := h
    simp only at h
    refine ⟨K + 1, fun k hk => ?_⟩
    obtain ⟨k, rfl⟩ : ∃ m, k = m + 1 := ⟨k - 1, by omega⟩
    show spec_trMatching.l1 (k + 1) par (up ord) (out.map toE) U x (toE e) (out.length : Int) = _
    have hlm : (out.map toE).length = out.length := List.length_map _
    rw [spec_trMatching.l1, if_neg (by omega)]
    simp only [Option.bind_some, List.nil_append, List.length_nil, Nat.zero_add]
    rw [if_pos (by omega), if_pos (by omega), Int.toNat_natCast, ← hlm, List.take_length, List.drop_length]
    rw [if_pos (by omega), if_pos (by omega), if_pos (by simp; omega), List.append_nil]
    have := h k (by omega)
    rw [List.map_append] at this
    exact this
  | succ d ih =>
    intro A B hAB hB hA
    obtain ⟨f, B, rfl⟩ : ∃ f B', B = f :: B' := by
      cases B with
      | nil => cases hB
      | cons f B => exact ⟨f, B, rfl⟩
    have hlen : out.length = A.length + (B.length + 1) := by rw [hAB, List.length_append, List.length_cons]
    have hlm : (out.map toE).length = out.length := List.length_map _
    have hf : rd_L1 (out.map toE) (A.length : Int) = toE f := by
      rw [rd_E out (by omega)]
      congr 1
      simp only [hAB]
      rw [List.getElem_append_right (Nat.le_refl _)]
      simp
    by_cases c : f.1 < e.1
    · obtain ⟨K, g⟩ := ih (A ++ [f]) B (by rw [hAB]; simp) (by simpa using hB) (fun z hz => by
        rcases List.mem_append.1 hz with hz | hz
        · exact hA z hz
        · rw [List.mem_singleton.1 hz]; exact c)
      simp only at g
      refine ⟨K + 1, fun k hk => ?_⟩
      obtain ⟨k, rfl⟩ : ∃ m, k = m + 1 := ⟨k - 1, by omega⟩
      show spec_trMatching.l1 (k + 1) par (up ord) (out.map toE) U x (toE e) (A.length : Int) = _
      rw [spec_trMatching.l1, if_pos (by omega), if_pos (by omega), hf, if_pos (show (0 : Int) < ((toE f).length : Int) by rw [toE_len]; omega), if_pos (show (0 : Int) < ((toE e).length : Int) by rw [toE_len]; omega), toE_0, toE_0, if_pos (by omega), step1 (by omega)]
      have := g k (by omega)
      rw [List.length_append, List.length_singleton] at this
      exact this
    · have e1 := insE_app e A (f :: B) hA
      rw [← hAB, insE, if_neg c] at e1
      rw [e1] at h
      obtain ⟨K, h⟩ := h
      simp only at h
      refine ⟨K + 1, fun k hk => ?_⟩
      obtain ⟨k, rfl⟩ : ∃ m, k = m + 1 := ⟨k - 1, by omega⟩
      show spec_trMatching.l1 (k + 1) par (up ord) (out.map toE) U x (toE e) (A.length : Int) = _
      rw [spec_trMatching.l1, if_pos (by omega), if_pos (by omega), hf, if_pos (show (0 : Int) < ((toE f).length : Int) by rw [toE_len]; omega), if_pos (show (0 : Int) < ((toE e).length : Int) by rw [toE_len]; omega), toE_0, toE_0, if_neg (by omega)]
      have ht : (out.map toE).take A.length = A.map toE := by rw [hAB, List.map_append, List.take_left' (List.length_map _)]
      have hd : (out.map toE).drop A.length = (f :: B).map toE := by rw [hAB, List.map_append, List.drop_left' (List.length_map _)]
      simp only [Option.bind_some, List.nil_append, List.length_nil, Nat.zero_add]
      rw [if_pos (by omega), Int.toNat_natCast, ht, hd, List.length_map, if_pos (by omega), if_pos (by omega), if_pos (by simp; omega)]
      have := h k (by omega)
      rw [List.map_append, List.map_cons] at this
      rw [List.append_assoc]
      exact this
theorem shl_nat1 {m : Nat} (h : m < 16) : shl .i64 1 (m : Int) = ((2 ^ m : Nat) : Int) := by
  have h2 : 2 ^ m ≤ 32768 := Nat.le_trans (Nat.pow_le_pow_right (by omega) (show m ≤ 15 by omega)) (by decide)
  have := shl_nat (a := 1) (n := m) (by omega) (by omega)
  rw [Nat.shiftLeft_eq, Nat.one_mul] at this
  exact this
theorem mE_E (par : List Int) (i : Nat) : toE (mE par i) = [((min i (pn par i) : Nat) : Int), ((max i (pn par i) : Nat) : Int)] := rfl
theorem least_max (a b : Nat) : spec_l1Least.f (a : Int) (b : Int) = some ((min a b : Nat) : Int) ∧ spec_l1Most.f (a : Int) (b : Int) = some ((max a b : Nat) : Int) := by
  unfold spec_l1Least.f spec_l1Most.f
  constructor
  · by_cases c : (a : Int) < (b : Int)
    · rw [if_pos c, Nat.min_eq_left (by omega)]
    · rw [if_neg c, Nat.min_eq_right (by omega)]
  · by_cases c : (a : Int) > (b : Int)
    · first | rw [if_pos c, Nat.max_eq_left (by omega)] | rw [if_neg (by omega), Nat.max_eq_left (by omega)]
    · first | rw [if_neg c, Nat.max_eq_right (by omega)] | rw [if_pos (by omega), Nat.max_eq_right (by omega)] | (rw [if_neg (by omega)]; congr 1; omega)
section
variable (par : List Int) (ord : List Nat) (n : Nat) (hn : n ≤ 16) (hp : par.length = n) (hu : ∀ j, j < n → par.getD j 0 = -1 ∨ ∃ p : Nat, par.getD j 0 = (p : Int) ∧ p < n) (ho : ∀ v ∈ ord, v < n) (hol : ord.length ≤ 16)
include hn hp hu ho hol
theorem mat_loop : ∀ (d : Nat) (U : Nat) (out : List (Nat × Nat)), d ≤ ord.length → out.length + d ≤ 16 → U < 65536 →
    Ev (fun k => spec_trMatching.l0 k par (up ord) (out.map toE) (U : Int) ((d : Int) - 1)) ((insAll (pick par (ord.take d).reverse U) out).map toE, true) := by
  intro d
  induction d with
  | zero =>
    intro U out _ _ _
    refine ⟨1, fun k hk => ?_⟩
    obtain ⟨k, rfl⟩ : ∃ m, k = m + 1 := ⟨k - 1, by omega⟩
    show spec_trMatching.l0 (k + 1) par (up ord) (out.map toE) (U : Int) _ = _
    rw [spec_trMatching.l0, if_neg (by omega)]
    rfl
  | succ d ih =>
    intro U out hd hlen hU
    have hlt : d < ord.length := by omega
    have hi : ord[d] < n := ho _ (List.getElem_mem hlt)
    have hri : rd (up ord) (d : Int) = (ord[d] : Int) := by simp [rd, up, List.getElem?_eq_getElem hlt]
    have hrev : (ord.take (d + 1)).reverse = ord[d] :: (ord.take d).reverse := by rw [List.take_add_one, List.getElem?_eq_getElem hlt]; simp
    have hul : (up ord).length = ord.length := up_length ord
    generalize ord[d] = i at hi hri hrev
    have hrp : rd par (i : Int) = par.getD i 0 := rd_nat par i
    have e0 : ((d + 1 : Nat) : Int) - 1 = (d : Int) := by omega
    have e1 : wrap64 ((d : Int) - 1) = (d : Int) - 1 := Bt.wrap_id (by omega) (by omega)
    rw [hrev, pick]
    by_cases c : skp par U i = true
    · rw [if_pos c]
      obtain ⟨K, g⟩ := ih U out (by omega) (by omega) hU
      simp only at g
      have hj : ∀ m p, K ≤ m → spec_trMatching.j1 (m + 1) par (up ord) (out.map toE) (U : Int) (d : Int) (i : Int) p true = some ((insAll (pick par (ord.take d).reverse U) out).map toE, true) := fun m p hm => by
        rw [spec_trMatching.j1, if_pos rfl, e1]; exact g m hm
      refine ⟨K + 2, fun k hk => ?_⟩
      obtain ⟨k, rfl⟩ : ∃ m, k = m + 2 := ⟨k - 2, by omega⟩
      show spec_trMatching.l0 (k + 2) par (up ord) (out.map toE) (U : Int) (((d + 1 : Nat) : Int) - 1) = _
      rw [e0, spec_trMatching.l0, if_pos (by omega), if_pos (by omega), if_pos (by omega), hri, if_pos (by omega), if_pos (by omega), hrp]
      by_cases c0 : par.getD i 0 < 0
      · rw [if_pos c0]; exact hj k _ (by omega)
      · rw [if_neg c0, grIn_nat _ _ (by omega)]
        simp only [Option.bind_some]
        by_cases c1 : U.testBit i = true
        · rw [if_pos c1]; exact hj k _ (by omega)
        · rw [if_neg c1]
          have hpn : par.getD i 0 = (pn par i : Int) := by unfold pn; omega
          have c2 : U.testBit (pn par i) = true := by
            simp only [skp, Bool.or_eq_true, decide_eq_true_eq] at c
            rcases c with c | c | c
            · exact absurd c c0
            · exact absurd c c1
            · exact c
          rw [hpn, grIn_nat _ _ (by omega)]
          simp only [Option.bind_some]
          rw [c2]; exact hj k _ (by omega)
    · rw [if_neg c]
      have c' : ¬ par.getD i 0 < 0 ∧ U.testBit i = false ∧ U.testBit (pn par i) = false := by
        simp only [skp, Bool.or_eq_true, decide_eq_true_eq, not_or, Bool.not_eq_true] at c
        exact c
      obtain ⟨c0, c1, c2⟩ := c'
      have hpn : par.getD i 0 = (pn par i : Int) := by unfold pn; omega
      have hpl : pn par i < n := by
        rcases hu i hi with h | ⟨p, h, h'⟩
        · omega
        · unfold pn; rw [h]; omega
      have hi16 : 2 ^ i < 65536 := Nat.lt_of_le_of_lt (Nat.pow_le_pow_right (by omega) (show i ≤ 15 by omega)) (by decide)
      have hp16 : 2 ^ pn par i < 65536 := Nat.lt_of_le_of_lt (Nat.pow_le_pow_right (by omega) (show pn par i ≤ 15 by omega)) (by decide)
      have ho1 : 2 ^ i ||| 2 ^ pn par i < 65536 := Nat.or_lt_two_pow (n := 16) hi16 hp16
      have hU' : U ||| (2 ^ i ||| 2 ^ pn par i) < 65536 := Nat.or_lt_two_pow (n := 16) hU ho1
      obtain ⟨l1, l2⟩ := least_max i (pn par i)
      have hil : (insE (mE par i) out).length = out.length + 1 := by rw [(insE_perm _ _).length_eq, List.length_cons]
      have hih := ih (U ||| (2 ^ i ||| 2 ^ pn par i)) (insE (mE par i) out) (by omega) (by omega) hU'
      rw [← e1] at hih
      obtain ⟨K, g⟩ := mat_ins par ord ((U ||| (2 ^ i ||| 2 ^ pn par i) : Nat) : Int) (d : Int) (mE par i) _ out (by omega) hih out.length [] out rfl rfl (fun f hf => by cases hf)
      simp only at g
      refine ⟨K + 2, fun k hk => ?_⟩
      obtain ⟨k, rfl⟩ : ∃ m, k = m + 2 := ⟨k - 2, by omega⟩
      show spec_trMatching.l0 (k + 2) par (up ord) (out.map toE) (U : Int) (((d + 1 : Nat) : Int) - 1) = _
      rw [e0, spec_trMatching.l0, if_pos (by omega), if_pos (by omega), if_pos (by omega), hri, if_pos (by omega), if_pos (by omega), hrp, if_neg c0, grIn_nat _ _ (by omega)]
      simp only [Option.bind_some]
      rw [if_neg (by rw [c1]; simp), hpn, grIn_nat _ _ (by omega)]
      simp only [Option.bind_some]
      rw [c2, spec_trMatching.j1, if_neg (by simp), if_pos (by omega), if_pos (by omega), l1]
      simp only [Option.bind_some]
      rw [l2]
      simp only [Option.bind_some]
      rw [shl_nat1 (by omega), shl_nat1 (by omega), bits_or (by omega) (by omega), bits_or (by omega) (by omega)]
      exact g k (by omega)
end
end Go.Proofs.Ytdpdmhjmmpncoaa.Gr

namespace Go.Proofs.Ytdpdmhjmmpncoaa.Gr
open Go.RowKit Go.Proofs.Ytdpdmhjmmpncoaa.P Go.Proofs.Ytdpdmhjmmpncoaa.Bt Go.Proofs.Ytdpdmhjmmpncoaa.Lw Go.Proofs.Ytdpdmhjmmpncoaa.Cl Go.Proofs.Ytdpdmhjmmpncoaa.Bf Go.Proofs.YtdpdmhjmmpncoaaW.PrintWords Go.Proofs.YtdpdmhjmmpncoaaW.PrintLast Go.Proofs.YtdpdmhjmmpncoaaW.PrintMore
set_option linter.unusedVariables false
set_option linter.unusedSimpArgs false

/-- the same parents, of what has been met -/
def Agree (n : Nat) (s : B) (P : List Int) : Prop := P.length = n ∧ (∀ u, s.seen.testBit u = true → P.getD u 0 = s.par.getD u 0) ∧ ∀ u, u < n → s.seen.testBit u = false → P.getD u 0 = -1
theorem up_drop_add (q : List Nat) (h w : Nat) (hh : h ≤ q.length) : up (q.drop h) ++ [(w : Int)] = up ((q ++ [w]).drop h) := by
  rw [List.drop_append_of_le_length hh, up_add]
section
variable (l : List Int) (own : Bool) (G : Good l)
include G
theorem re_scan (i h h0 v : Nat) (hi : i < l.length) (ord : List Int) (r : List Int × List Int) : ∀ (d w : Nat) (s : B) (P : List Int), w + d = l.length → Inv (nr l) l.length h0 s → v ∈ s.q → h < s.q.length → (scan (nr l) v d w s).bad = 0 → (∀ p : Nat, s.par.getD v 0 = (p : Int) → s.seen.testBit p = true) → Agree l.length s P →
    (∀ P', Agree l.length (scan (nr l) v d w s) P' → Ev (fun k => impl_Graph_reached.l1 k ord P' ((scan (nr l) v d w s).seen : Int) (up ((scan (nr l) v d w s).q.drop (h + 1))) (l.length : Int) (i : Int) l own) r) →
    Ev (fun k => impl_Graph_reached.l2 k ord P (s.seen : Int) (up (s.q.drop h)) (v : Int) (l.length : Int) (i : Int) (l.length : Int) (w : Int) l own) r := by
  have hl := G.2.1
  have hp := pow16 hl
  intro d
  induction d with
  | zero =>
    intro w s P hw I hv hh hb hpar ag h1
    refine Ev.succ (h1 P ag) 0 fun k _ => ?_
    rw [impl_Graph_reached.l2, if_neg (by omega), if_pos (by rw [up_length, List.length_drop]; omega)]
    rw [show (up (s.q.drop h)).drop (1 : Int).toNat = up (s.q.drop (h + 1)) by unfold up; rw [← List.map_drop, List.drop_drop]; rfl]
    rfl
  | succ d ih =>
    intro w s P hw I hv hh hb hpar ag h1
    have hvn := I.lt v hv
    have hsv := nr_small hl G.2.2.1 hvn
    have hrv : rd l (v : Int) = (nr l v : Int) := by rw [rd_nat]; exact nr_cast G.2.2.1 hvn
    have hseen : s.seen < 9223372036854775808 := by
      have : s.seen < 2 ^ l.length := by
        apply Nat.lt_of_not_le
        intro hge
        obtain ⟨j, hj1, hj2⟩ := Nat.exists_ge_and_testBit_of_ge_two_pow hge
        have := I.lt j ((I.mem j).1 hj2)
        omega
      omega
    have hqn : s.q.length ≤ 16 := by
      have := I.short
      have := card_le l.length s.seen
      omega
    obtain ⟨a1, a2, a3, a4, ⟨t, a5⟩, a6, a7, a8⟩ := look_inv (nr l) (good_sym G) I hv (w := w) (by omega)
    have skip : Bf.look (nr l) v w s = s → Ev (fun k => impl_Graph_reached.l2 k ord P (s.seen : Int) (up (s.q.drop h)) (v : Int) (l.length : Int) (i : Int) (l.length : Int) ((w + 1 : Nat) : Int) l own) r := by
      intro e
      rw [scan, e] at hb h1
      exact ih (w + 1) s P (by omega) I hv hh hb hpar ag h1
    by_cases c : (nr l v).testBit w = true
    · by_cases c2 : s.seen.testBit w = true
      · have c1 : s.par.getD v 0 = (w : Int) := by
          by_cases c1 : s.par.getD v 0 = (w : Int)
          · exact c1
          · have e : (Bf.look (nr l) v w s).bad = s.bad + 1 := by unfold Bf.look; rw [if_pos ⟨c, c1⟩, if_pos c2]
            have := scan_bad l v d (w + 1) (Bf.look (nr l) v w s)
            rw [scan] at hb
            omega
        have e : Bf.look (nr l) v w s = s := by unfold Bf.look; rw [if_neg (fun x => x.2 c1)]
        refine Ev.succ (skip e) 0 fun k _ => ?_
        rw [impl_Graph_reached.l2, if_pos (by omega), if_pos (by omega), if_pos (by omega), hrv, has_nat (nr l v) w (by omega), c, Option.bind_some, if_pos rfl, has_nat s.seen w hseen, c2, Option.bind_some, if_pos rfl, step1 (by omega)]
      · have c1 : ¬ s.par.getD v 0 = (w : Int) := fun x => c2 (hpar w x)
        have e : Bf.look (nr l) v w s = { par := s.par.set w (v : Int), q := s.q ++ [w], seen := s.seen ||| 1 <<< w, bad := s.bad } := by
          unfold Bf.look; rw [if_pos ⟨c, c1⟩, if_neg c2]
        rw [scan] at hb h1
        have ag' : Agree l.length (Bf.look (nr l) v w s) (P.set w (v : Int)) := by
          rw [e]
          refine ⟨by rw [List.length_set]; exact ag.1, fun u hu => ?_, fun u hn hu => ?_⟩
          · have hu' : (s.seen ||| 1 <<< w).testBit u = true := hu
            show (P.set w (v : Int)).getD u 0 = (s.par.set w (v : Int)).getD u 0
            by_cases z : w = u
            · subst z
              rw [Bf.getD_set_eq (by rw [ag.1]; omega), Bf.getD_set_eq (by rw [I.len]; omega)]
            · rw [Bf.getD_set_ne z, Bf.getD_set_ne z]
              rw [testBit_add, Bool.or_eq_true, decide_eq_true_eq] at hu'
              exact ag.2.1 u (hu'.resolve_right z)
          · have hu' : (s.seen ||| 1 <<< w).testBit u = false := hu
            rw [testBit_add, Bool.or_eq_false_iff, decide_eq_false_iff_not] at hu'
            rw [Bf.getD_set_ne hu'.2]
            exact ag.2.2 u hn hu'.1
        have key := ih (w + 1) (Bf.look (nr l) v w s) (P.set w (v : Int)) (by omega) a1 (by rw [a5]; exact List.mem_append_left _ hv) (by rw [a5, List.length_append]; omega) hb (fun p hp => a4 p (hpar p (by rw [← a6]; exact hp))) ag' h1
        rw [e] at key
        have hsh : shl .i64 1 (w : Int) = ((1 <<< w : Nat) : Int) := by
          have hb := one_bit_lt (n := l.length) (i := w) (by omega)
          have := shl_nat (a := 1) (n := w) (by omega) (by rw [← Nat.shiftLeft_eq]; omega)
          simpa using this
        have hbl := one_bit_lt (n := l.length) (i := w) (by omega)
        have hP := ag.1
        refine Ev.succ key 0 fun k _ => ?_
        rw [impl_Graph_reached.l2, if_pos (by omega), if_pos (by omega), if_pos (by omega), hrv, has_nat (nr l v) w (by omega), c, Option.bind_some, if_pos rfl, has_nat s.seen w hseen, Bool.eq_false_iff.mpr c2, Option.bind_some, if_neg (by decide), if_pos (by omega), if_pos (by omega), if_pos (by rw [up_length, List.length_drop]; omega), hsh, bits_or hseen (by omega), step1 (by omega), Int.toNat_natCast, up_drop_add _ _ _ (by omega)]
    · have e : Bf.look (nr l) v w s = s := by unfold Bf.look; rw [if_neg (fun x => c x.1)]
      refine Ev.succ (skip e) 0 fun k _ => ?_
      rw [impl_Graph_reached.l2, if_pos (by omega), if_pos (by omega), if_pos (by omega), hrv, has_nat (nr l v) w (by omega), Bool.eq_false_iff.mpr c, Option.bind_some, if_neg (by decide), step1 (by omega)]
theorem re_visit (i h0 : Nat) (hi : i < l.length) (r : List Int × List Int) : ∀ (f h : Nat) (s : B) (P : List Int), l.length < f + h → h0 ≤ h → h ≤ s.q.length → Inv (nr l) l.length h0 s → (visit (nr l) l.length f h s).bad = 0 → Agree l.length s P →
    (∀ P', Agree l.length (visit (nr l) l.length f h s) P' → Ev (fun k => impl_Graph_reached.l0 k (up (visit (nr l) l.length f h s).q) P' ((visit (nr l) l.length f h s).seen : Int) (l.length : Int) ((i + 1 : Nat) : Int) l own) r) →
    Ev (fun k => impl_Graph_reached.l1 k (up (s.q.take h)) P (s.seen : Int) (up (s.q.drop h)) (l.length : Int) (i : Int) l own) r := by
  have hl := G.2.1
  intro f
  induction f with
  | zero =>
    intro h s P hf h1 h2 I
    have := I.short
    have := card_le l.length s.seen
    omega
  | succ f ih =>
    intro h s P hf h1 h2 I hb ag g
    have hqn : s.q.length ≤ 16 := by
      have := I.short
      have := card_le l.length s.seen
      omega
    rw [visit] at g hb
    by_cases c : h < s.q.length
    · rw [if_pos c] at g hb
      have hv := getD_mem c
      have hvn := I.lt _ hv
      have hp : ∀ p : Nat, s.par.getD (s.q.getD h 0) 0 = (p : Int) → s.seen.testBit p = true := by
        intro p hp
        by_cases e : h = h0
        · subst e
          have := I.root
          omega
        · obtain ⟨p', _, a2, _, a4⟩ := I.non h (by omega) c
          have : p = p' := by omega
          subst this
          exact a4
      obtain ⟨b1, _, _, _, ⟨t, b5⟩, _, _⟩ := scan_inv (nr l) (good_sym G) l.length 0 s (by omega) I hv hp
      have hlen : s.q.length ≤ (scan (nr l) (s.q.getD h 0) l.length 0 s).q.length := by rw [b5, List.length_append]; omega
      have hsb : (scan (nr l) (s.q.getD h 0) l.length 0 s).bad = 0 := by
        have := visit_bad l f (h + 1) (scan (nr l) (s.q.getD h 0) l.length 0 s)
        omega
      have hq0 : s.q.drop h = s.q.getD h 0 :: s.q.drop (h + 1) := by
        rw [List.drop_eq_getElem_cons c, List.getD_eq_getElem?_getD, List.getElem?_eq_getElem c]; rfl
      have hrd : rd (up (s.q.drop h)) 0 = ((s.q.getD h 0 : Nat) : Int) := by rw [hq0]; rfl
      have hord : up (s.q.take h) ++ [((s.q.getD h 0 : Nat) : Int)] = up ((scan (nr l) (s.q.getD h 0) l.length 0 s).q.take (h + 1)) := by
        rw [b5, List.take_append_of_le_length (by omega), List.take_succ_eq_append_getElem c, up_add, List.getD_eq_getElem?_getD, List.getElem?_eq_getElem c]; rfl
      refine Ev.succ (re_scan l own G i h h0 (s.q.getD h 0) hi (up ((scan (nr l) (s.q.getD h 0) l.length 0 s).q.take (h + 1))) r l.length 0 s P (by omega) I hv c hsb hp ag (fun P' ag' => ?_)) 0 fun k _ => ?_
      · exact ih (h + 1) _ P' (by omega) (by omega) (by omega) b1 hb ag' g
      · rw [impl_Graph_reached.l1, if_pos (by rw [up_length, List.length_drop]; omega), if_pos (by rw [up_length, List.length_drop]; omega), if_pos (by rw [up_length, List.length_take]; omega), hrd, hord]
        rfl
    · rw [if_neg c] at g hb
      have hh : h = s.q.length := by omega
      refine Ev.succ (g P ag) 0 fun k _ => ?_
      rw [impl_Graph_reached.l1, if_neg (by rw [up_length, List.length_drop]; omega), step1 (by omega), hh, List.take_length]
theorem re_roots : ∀ (d i : Nat) (s : B) (r0 : Nat) (P : List Int), i + d = l.length → Bf.Rest (nr l) l.length i r0 s → (roots (nr l) l.length d i (s, r0)).1.bad = 0 → Agree l.length s P →
    Ev (fun k => impl_Graph_reached.l0 k (up s.q) P (s.seen : Int) (l.length : Int) (i : Int) l own) (up (roots (nr l) l.length d i (s, r0)).1.q, (roots (nr l) l.length d i (s, r0)).1.par) := by
  have hl := G.2.1
  have hp := pow16 hl
  intro d
  induction d with
  | zero =>
    intro i s r0 P hi I hb ag
    have hP : P = s.par := by
      apply List.ext_getElem (by rw [ag.1, I.len])
      intro u h1 h2
      have := ag.2.1 u (I.done u (by have := ag.1; omega))
      rw [List.getD_eq_getElem?_getD, List.getD_eq_getElem?_getD, List.getElem?_eq_getElem h1, List.getElem?_eq_getElem h2] at this
      exact this
    refine Ev.konst 1 fun k hk => ?_
    obtain ⟨k, rfl⟩ : ∃ m, k = m + 1 := ⟨k - 1, by omega⟩
    rw [impl_Graph_reached.l0, if_neg (by omega), hP]
    rfl
  | succ d ih =>
    intro i s r0 P hi I hb ag
    have hseen : s.seen < 9223372036854775808 := by
      have : s.seen < 2 ^ l.length := by
        apply Nat.lt_of_not_le
        intro hge
        obtain ⟨j, hj1, hj2⟩ := Nat.exists_ge_and_testBit_of_ge_two_pow hge
        have := I.lt j ((I.mem j).1 hj2)
        omega
      omega
    rw [roots] at hb ⊢
    by_cases c : s.seen.testBit i = true
    · rw [if_pos c] at hb ⊢
      refine Ev.succ (ih (i + 1) s r0 P (by omega) ⟨I.len, I.sum, I.mem, I.lt, I.cl, I.eq, fun j hj => by
        by_cases e : j = i
        · subst e; exact c
        · exact I.done j (by omega)⟩ hb ag) 0 fun k _ => ?_
      rw [impl_Graph_reached.l0, if_pos (by omega), has_nat s.seen i hseen, c, Option.bind_some, if_pos rfl, step1 (by omega)]
    · rw [if_neg c] at hb ⊢
      have PI := push_inv (nr l) I (by omega) c
      obtain ⟨V, _, _⟩ := phase (nr l) (good_sym G) (good_lt G) I (by omega) c
      have hq : (push i s).q = s.q ++ [i] := rfl
      have hsh : shl .i64 1 (i : Int) = ((1 <<< i : Nat) : Int) := by
        have hb := one_bit_lt (n := l.length) (i := i) (by omega)
        have := shl_nat (a := 1) (n := i) (by omega) (by rw [← Nat.shiftLeft_eq]; omega)
        simpa using this
      have hbl := one_bit_lt (n := l.length) (i := i) (by omega)
      have vb : (visit (nr l) l.length (l.length + 1) s.q.length (push i s)).bad = 0 := by
        have := roots_bad l d (i + 1) (visit (nr l) l.length (l.length + 1) s.q.length (push i s), r0 + 1)
        have hb2 : (roots (nr l) l.length d (i + 1) (visit (nr l) l.length (l.length + 1) s.q.length (push i s), r0 + 1)).1.bad = 0 := hb
        simp only at this
        omega
      have ag' : Agree l.length (push i s) P := by
        have cf := Bool.eq_false_iff.mpr c
        refine ⟨ag.1, fun u hu => ?_, fun u hn hu => ?_⟩
        · have hu' : (s.seen ||| 1 <<< i).testBit u = true := hu
          show P.getD u 0 = (s.par.set i (-1)).getD u 0
          by_cases z : i = u
          · subst z
            rw [Bf.getD_set_eq (by rw [I.len]; omega)]
            exact ag.2.2 i (by omega) cf
          · rw [Bf.getD_set_ne z]
            rw [testBit_add, Bool.or_eq_true, decide_eq_true_eq] at hu'
            exact ag.2.1 u (hu'.resolve_right z)
        · have hu' : (s.seen ||| 1 <<< i).testBit u = false := hu
          rw [testBit_add, Bool.or_eq_false_iff] at hu'
          exact ag.2.2 u hn hu'.1
      have e1 := re_visit l own G i s.q.length (by omega) _ (l.length + 1) s.q.length (push i s) P (by omega) (Nat.le_refl _) (by rw [hq, List.length_append]; omega) PI vb ag'
        (fun P' ag2 => ih (i + 1) _ (r0 + 1) P' (by omega) V hb ag2)
      refine Ev.succ e1 0 fun k _ => ?_
      rw [impl_Graph_reached.l0, if_pos (by omega), has_nat s.seen i hseen, Bool.eq_false_iff.mpr c, Option.bind_some, if_neg (by decide), if_pos (by omega), hsh, bits_or hseen (by omega), hq, List.take_append_of_le_length (Nat.le_refl _), List.take_length, List.drop_append_of_le_length (Nat.le_refl _), List.drop_length]
      rfl
theorem reached_ev (hn : 1 ≤ l.length) (hb : badOf l = 0) : Ev (fun k => impl_Graph_reached.f k l own) (up (bfs l).q, (bfs l).par) := by
  have hl := G.2.1
  have ag : Agree l.length (Bf.start l.length) (List.replicate l.length (-1)) := by
    refine ⟨List.length_replicate, fun u hu => ?_, fun u hn _ => ?_⟩
    · have hu' : (0 : Nat).testBit u = true := hu
      simp at hu'
    · rw [List.getD_eq_getElem?_getD, List.getElem?_replicate, if_pos hn]; rfl
  obtain ⟨K, h⟩ := re_roots l own G l.length 0 (Bf.start l.length) 0 (List.replicate l.length (-1)) (by omega) (start_rest (nr l) l.length) hb ag
  refine ⟨K, fun k hk => ?_⟩
  show impl_Graph_reached.f k l own = _
  unfold impl_Graph_reached.f slices_Repeat_int_int.f
  rw [if_pos (show ([-1] : List Int).length = 1 from rfl), if_pos (by omega), if_pos (by omega), Option.bind_some, Int.toNat_natCast]
  exact h k hk
end
end Go.Proofs.Ytdpdmhjmmpncoaa.Gr

namespace Go.Proofs.Ytdpdmhjmmpncoaa.Gr
open Go.RowKit Go.Proofs.Ytdpdmhjmmpncoaa.P Go.Proofs.Ytdpdmhjmmpncoaa.Bt Go.Proofs.Ytdpdmhjmmpncoaa.Lw Go.Proofs.YtdpdmhjmmpncoaaW.PrintWords Go.Proofs.YtdpdmhjmmpncoaaW.PrintLast Go.Proofs.YtdpdmhjmmpncoaaW.PrintMore
set_option linter.unusedVariables false
set_option linter.unusedSimpArgs false

theorem hasM_at {U i : Nat} (h : U < 65536) : hasM (U : Int) (i : Int) = U.testBit i := has_val (by omega)
section
variable (par : List Int) (n : Nat) (hn : n ≤ 16) (hp : par.length = n) (hu : ∀ j, j < n → par.getD j 0 = -1 ∨ ∃ p : Nat, par.getD j 0 = (p : Int) ∧ p < n)
include hn hp hu
theorem fold_at : ∀ (is : List Nat) (U : Nat) (out : List (Nat × Nat)), (∀ i ∈ is, i < n) → U < 65536 →
    ((up is).foldl (fun st i => mstep par st i) ((U : Int), out.map toE)).2 = (out ++ pick par is U).map toE
  | [], U, out, _, _ => by simp [up, pick]
  | i :: is, U, out, hi, hU => by
    have hin := hi i (List.mem_cons_self ..)
    have hrest : ∀ j ∈ is, j < n := fun j hj => hi j (List.mem_cons_of_mem _ hj)
    have hrp : rd par (i : Int) = par.getD i 0 := rd_nat par i
    have e : up (i :: is) = (i : Int) :: up is := rfl
    rw [e, List.foldl_cons, pick]
    by_cases c : skp par U i = true
    · have : mstep par ((U : Int), out.map toE) (i : Int) = ((U : Int), out.map toE) := by
        unfold mstep
        rw [hrp]
        by_cases c0 : par.getD i 0 < 0
        · rw [if_pos c0]
        · rw [if_neg c0]
          dsimp only
          rw [hasM_at hU]
          by_cases c1 : U.testBit i = true
          · rw [if_pos c1]
          · rw [if_neg c1]
            have hpn : par.getD i 0 = (pn par i : Int) := by unfold pn; omega
            have c2 : U.testBit (pn par i) = true := by
              simp only [skp, Bool.or_eq_true, decide_eq_true_eq] at c
              rcases c with c | c | c
              · exact absurd c c0
              · exact absurd c c1
              · exact c
            rw [hpn, hasM_at hU, if_pos c2]
      rw [this, if_pos c]
      exact fold_at is U out hrest hU
    · have c' : ¬ par.getD i 0 < 0 ∧ U.testBit i = false ∧ U.testBit (pn par i) = false := by
        simp only [skp, Bool.or_eq_true, decide_eq_true_eq, not_or, Bool.not_eq_true] at c
        exact c
      obtain ⟨c0, c1, c2⟩ := c'
      have hpn : par.getD i 0 = (pn par i : Int) := by unfold pn; omega
      have hpl : pn par i < n := by
        rcases hu i hin with h | ⟨p, h, h'⟩
        · omega
        · unfold pn; rw [h]; omega
      have hi16 : 2 ^ i < 65536 := Nat.lt_of_le_of_lt (Nat.pow_le_pow_right (by omega) (show i ≤ 15 by omega)) (by decide)
      have hp16 : 2 ^ pn par i < 65536 := Nat.lt_of_le_of_lt (Nat.pow_le_pow_right (by omega) (show pn par i ≤ 15 by omega)) (by decide)
      have ho1 : 2 ^ i ||| 2 ^ pn par i < 65536 := Nat.or_lt_two_pow (n := 16) hi16 hp16
      have hU' : U ||| (2 ^ i ||| 2 ^ pn par i) < 65536 := Nat.or_lt_two_pow (n := 16) hU ho1
      have : mstep par ((U : Int), out.map toE) (i : Int) = (((U ||| (2 ^ i ||| 2 ^ pn par i) : Nat) : Int), (out ++ [mE par i]).map toE) := by
        unfold mstep
        rw [hrp, if_neg c0]
        dsimp only
        rw [hasM_at hU, if_neg (by rw [c1]; simp), hpn, hasM_at hU, if_neg (by rw [c2]; simp), shl_nat1 (by omega), shl_nat1 (by omega), bits_or (by omega) (by omega), bits_or (by omega) (by omega), List.map_append]
        have e2 : ([[min (i : Int) (pn par i : Int), max (i : Int) (pn par i : Int)]] : List (List Int)) = [mE par i].map toE := by
          rw [List.map_cons, List.map_nil, mE_E]
          congr 3 <;> omega
        rw [e2]
      rw [this, if_neg c, fold_at is _ _ hrest hU']
      simp
end
theorem firsts_toE (E : List (Nat × Nat)) : (E.map toE).map (fun r => rd r 0) = E.map fun e => (e.1 : Int) := by
  rw [List.map_map]; exact List.map_congr_left (fun e _ => toE_0 e)
/-- Sorted by their first ends, rows whose first ends differ are one row. -/
theorem sort_ins (C : List (Nat × Nat)) (h : C.Pairwise (fun a b => a.1 ≠ b.1)) : firstsM (C.map toE) = true ∧ sortM (C.map toE) = (insAll C []).map toE := by
  refine ⟨?_, ?_⟩
  · unfold firstsM
    rw [firsts_toE, decide_eq_true_iff, List.nodup_iff_pairwise_ne, List.pairwise_map]
    exact h.imp (fun hab e => hab (by omega))
  · unfold sortM
    have hp1 : (insAll C []).Perm C := by simpa using insAll_perm C []
    have hperm : ((C.map toE).mergeSort fun a b => decide (rd a 0 ≤ rd b 0)).Perm ((insAll C []).map toE) := (List.mergeSort_perm _ _).trans (hp1.symm.map toE)
    refine List.Perm.eq_of_pairwise (le := fun a b => rd a 0 < rd b 0) (fun a b _ _ h1 h2 => by omega) ?_ ?_ hperm
    · have hs := List.pairwise_mergeSort (le := fun (a b : List Int) => decide (rd a 0 ≤ rd b 0)) (fun a b c h1 h2 => by simp at *; omega) (fun a b => by simp; omega) (C.map toE)
      have hd : ((C.map toE).mergeSort fun a b => decide (rd a 0 ≤ rd b 0)).Pairwise (fun a b => rd a 0 ≠ rd b 0) := by
        refine ((List.mergeSort_perm (C.map toE) _).pairwise_iff (fun {a b} h => Ne.symm h)).2 ?_
        rw [List.pairwise_map]
        exact h.imp (fun hab e => hab (by rw [toE_0, toE_0] at e; omega))
      exact hs.imp₂ (fun a b h1 h2 => by simp at h1; omega) hd
    · rw [List.pairwise_map]
      have hs := insAll_sorted C [] List.Pairwise.nil
      have hd : (insAll C []).Pairwise (fun a b => a.1 ≠ b.1) := by
        refine ((insAll_perm C []).pairwise_iff (fun {a b} h => Ne.symm h)).2 ?_
        simpa using h
      exact hs.imp₂ (fun a b h1 h2 => by rw [toE_0, toE_0]; omega) hd
end Go.Proofs.Ytdpdmhjmmpncoaa.Gr

namespace Go.Proofs.Ytdpdmhjmmpncoaa.Bf
set_option linter.unusedVariables false
set_option linter.unusedSimpArgs false
open Go.Proofs.Ytdpdmhjmmpncoaa.Cl

section
variable (R : Nat → Nat)
/-- What holds while a forest is searched, h of its queue searched. -/
structure Fo (n h : Nat) (s : B) : Prop where
  len : s.par.length = n
  lt : ∀ u, u ∈ s.q → u < n
  mem : ∀ u, s.seen.testBit u = true ↔ u ∈ s.q
  hq : h ≤ s.q.length
  nd : s.q.Nodup
  up : ∀ j, j < s.q.length → s.par.getD (s.q.getD j 0) 0 = -1 ∨ ∃ k, k < j ∧ s.par.getD (s.q.getD j 0) 0 = ((s.q.getD k 0 : Nat) : Int) ∧ (R (s.q.getD k 0)).testBit (s.q.getD j 0) = true
  ed : ∀ k, k < h → ∀ w, w < n → (R (s.q.getD k 0)).testBit w = true → w ∈ s.q ∧ (s.par.getD (s.q.getD k 0) 0 = (w : Int) ∨ s.par.getD w 0 = ((s.q.getD k 0 : Nat) : Int))
/-- One more in the queue. -/
theorem Fo.more {n h : Nat} {s : B} (F : Fo R n h s) {w b : Nat} {a : Int} (hw : w < n) (hn : w ∉ s.q) (ha : a = -1 ∨ ∃ k, k < s.q.length ∧ a = ((s.q.getD k 0 : Nat) : Int) ∧ (R (s.q.getD k 0)).testBit w = true) :
    Fo R n h { par := s.par.set w a, q := s.q ++ [w], seen := s.seen ||| 1 <<< w, bad := b } := by
  have hne : ∀ u, u ∈ s.q → w ≠ u := fun u hu e => hn (e ▸ hu)
  refine ⟨by simp [F.len], fun u hu => ?_, fun u => ?_, ?_, ?_, fun j hj => ?_, fun k hk v hv hb => ?_⟩
  · rcases List.mem_append.1 hu with h | h
    · exact F.lt u h
    · simp at h; subst h; exact hw
  · rw [testBit_add, Bool.or_eq_true, F.mem, decide_eq_true_iff, List.mem_append, List.mem_singleton]
    constructor <;> rintro (h | h)
    · exact .inl h
    · exact .inr h.symm
    · exact .inl h
    · exact .inr h.symm
  · rw [List.length_append]; have := F.hq; omega
  · refine List.nodup_append.2 ⟨F.nd, by simp, fun u hu v hv e => ?_⟩
    rw [List.mem_singleton] at hv
    exact hn (by rw [← hv, ← e]; exact hu)
  · rw [List.length_append, List.length_singleton] at hj
    show (s.par.set w a).getD ((s.q ++ [w]).getD j 0) 0 = -1 ∨ ∃ k, k < j ∧ (s.par.set w a).getD ((s.q ++ [w]).getD j 0) 0 = (((s.q ++ [w]).getD k 0 : Nat) : Int) ∧ (R ((s.q ++ [w]).getD k 0)).testBit ((s.q ++ [w]).getD j 0) = true
    by_cases e : j = s.q.length
    · subst e
      rw [getD_last, getD_set_eq (by rw [F.len]; exact hw)]
      rcases ha with e | ⟨k, h1, h2, h3⟩
      · exact .inl e
      · exact .inr ⟨k, h1, by rw [getD_app h1]; exact h2, by rw [getD_app h1]; exact h3⟩
    · have hj' : j < s.q.length := by omega
      rw [getD_app hj', getD_set_ne (hne _ (getD_mem hj'))]
      rcases F.up j hj' with e | ⟨k, h1, h2, h3⟩
      · exact .inl e
      · exact .inr ⟨k, h1, by rw [getD_app (by omega)]; exact h2, by rw [getD_app (by omega)]; exact h3⟩
  · have hk' : k < s.q.length := by have := F.hq; omega
    show v ∈ s.q ++ [w] ∧ ((s.par.set w a).getD ((s.q ++ [w]).getD k 0) 0 = (v : Int) ∨ (s.par.set w a).getD v 0 = (((s.q ++ [w]).getD k 0 : Nat) : Int))
    rw [getD_app hk'] at hb ⊢
    obtain ⟨h1, h2⟩ := F.ed k hk v hv hb
    rw [getD_set_ne (hne _ (getD_mem hk')), getD_set_ne (hne _ h1)]
    exact ⟨List.mem_append_left _ h1, h2⟩
/-- And of the button at h of the queue, the edges to those below w. -/
structure Sc (n h w : Nat) (s : B) : Prop extends Fo R n h s where
  hl : h < s.q.length
  ew : ∀ v, v < w → (R (s.q.getD h 0)).testBit v = true → v ∈ s.q ∧ (s.par.getD (s.q.getD h 0) 0 = (v : Int) ∨ s.par.getD v 0 = ((s.q.getD h 0 : Nat) : Int))
theorem look_bad0 (v w : Nat) (s : B) : s.bad ≤ (look R v w s).bad := by
  unfold look
  split
  · split
    · show s.bad ≤ s.bad + 1; omega
    · exact Nat.le_refl _
  · exact Nat.le_refl _
theorem scan_bad0 (v : Nat) : ∀ d w (s : B), s.bad ≤ (scan R v d w s).bad
  | 0, _, _ => Nat.le_refl _
  | d + 1, w, s => Nat.le_trans (look_bad0 R v w s) (scan_bad0 v d (w + 1) _)
theorem visit_bad0 (n : Nat) : ∀ f h (s : B), s.bad ≤ (visit R n f h s).bad
  | 0, _, _ => Nat.le_refl _
  | f + 1, h, s => by
    rw [visit]
    split
    · exact Nat.le_trans (scan_bad0 R _ n 0 s) (visit_bad0 n f (h + 1) _)
    · exact Nat.le_refl _
theorem roots_bad0 (n : Nat) : ∀ d i (s : B × Nat), s.1.bad ≤ (roots R n d i s).1.bad
  | 0, _, _ => Nat.le_refl _
  | d + 1, i, s => by
    rw [roots]
    split
    · exact roots_bad0 n d (i + 1) s
    · exact Nat.le_trans (visit_bad0 R n (n + 1) s.1.q.length (push i s.1)) (roots_bad0 n d (i + 1) (visit R n (n + 1) s.1.q.length (push i s.1), s.2 + 1))
theorem look_q (v w : Nat) (s : B) {h : Nat} (hl : h < s.q.length) : h < (look R v w s).q.length ∧ (look R v w s).q.getD h 0 = s.q.getD h 0 := by
  unfold look
  split
  · split
    · exact ⟨hl, rfl⟩
    · exact ⟨by show h < (s.q ++ [w]).length; rw [List.length_append]; omega, getD_app hl⟩
  · exact ⟨hl, rfl⟩
theorem look_fo {n h w : Nat} {s : B} (F : Sc R n h w s) (hw : w < n) (hb : (look R (s.q.getD h 0) w s).bad = 0) (hb0 : s.bad = 0) : Sc R n h (w + 1) (look R (s.q.getD h 0) w s) := by
  have hold : ∀ v, v < w + 1 → (R (s.q.getD h 0)).testBit v = true → v ≠ w → v ∈ s.q ∧ (s.par.getD (s.q.getD h 0) 0 = (v : Int) ∨ s.par.getD v 0 = ((s.q.getD h 0 : Nat) : Int)) := fun v h1 h2 h3 => F.ew v (by omega) h2
  unfold look at hb ⊢
  by_cases c : (R (s.q.getD h 0)).testBit w = true ∧ s.par.getD (s.q.getD h 0) 0 ≠ (w : Int)
  · rw [if_pos c] at hb ⊢
    by_cases c2 : s.seen.testBit w = true
    · rw [if_pos c2] at hb
      exact absurd hb (by show s.bad + 1 ≠ 0; omega)
    · rw [if_neg c2]
      have hn : w ∉ s.q := fun h => c2 ((F.mem w).2 h)
      have hne : ∀ u, u ∈ s.q → w ≠ u := fun u hu e => hn (e ▸ hu)
      refine ⟨F.toFo.more R hw hn (.inr ⟨h, F.hl, rfl, c.1⟩), ?_, fun v h1 h2 => ?_⟩
      · show h < (s.q ++ [w]).length
        rw [List.length_append]; have := F.hl; omega
      · show v ∈ s.q ++ [w] ∧ ((s.par.set w _).getD ((s.q ++ [w]).getD h 0) 0 = (v : Int) ∨ (s.par.set w _).getD v 0 = (((s.q ++ [w]).getD h 0 : Nat) : Int))
        rw [getD_app F.hl]
        replace h2 : (R ((s.q ++ [w]).getD h 0)).testBit v = true := h2
        rw [getD_app F.hl] at h2
        by_cases e : v = w
        · subst e
          exact ⟨List.mem_append_right _ (List.mem_singleton.2 rfl), .inr (getD_set_eq (by rw [F.len]; exact hw))⟩
        · obtain ⟨h3, h4⟩ := hold v h1 h2 e
          rw [getD_set_ne (hne _ (getD_mem F.hl)), getD_set_ne (hne _ h3)]
          exact ⟨List.mem_append_left _ h3, h4⟩
  · rw [if_neg c]
    refine ⟨F.toFo, F.hl, fun v h1 h2 => ?_⟩
    by_cases e : v = w
    · subst e
      have h5 : s.par.getD (s.q.getD h 0) 0 = (v : Int) := by
        by_cases q : s.par.getD (s.q.getD h 0) 0 = (v : Int)
        · exact q
        · exact absurd ⟨h2, q⟩ c
      refine ⟨?_, .inl h5⟩
      rcases F.up h F.hl with e | ⟨k, h6, h7, _⟩
      · rw [e] at h5; omega
      · rw [h7] at h5
        have : s.q.getD k 0 = v := by omega
        rw [← this]
        exact getD_mem (by have := F.hl; omega)
    · exact hold v h1 h2 e
theorem scan_fo {n h : Nat} (v : Nat) : ∀ (d w : Nat) (s : B), w + d = n → Sc R n h w s → s.q.getD h 0 = v → (scan R v d w s).bad = 0 → Sc R n h n (scan R v d w s)
  | 0, w, s, hw, F, _, _ => by
    have : w = n := by omega
    subst this
    exact F
  | d + 1, w, s, hw, F, hv, hb => by
    subst hv
    have h1 := scan_bad0 R (s.q.getD h 0) d (w + 1) (look R (s.q.getD h 0) w s)
    have h2 := look_bad0 R (s.q.getD h 0) w s
    rw [scan] at hb ⊢
    exact scan_fo (s.q.getD h 0) d (w + 1) _ (by omega) (look_fo R F (by omega) (by omega) (by omega)) (look_q R _ w s F.hl).2 hb
theorem visit_fo {n : Nat} : ∀ (f h : Nat) (s : B), Fo R n h s → (visit R n f h s).bad = 0 → (∃ h', Fo R n h' (visit R n f h s) ∧ (h' = (visit R n f h s).q.length ∨ h' = h + f))
  | 0, h, s, F, _ => ⟨h, F, .inr rfl⟩
  | f + 1, h, s, F, hb => by
    rw [visit] at hb ⊢
    by_cases c : h < s.q.length
    · rw [if_pos c] at hb ⊢
      have h1 := visit_bad0 R n f (h + 1) (scan R (s.q.getD h 0) n 0 s)
      have S := scan_fo R (n := n) (h := h) (s.q.getD h 0) n 0 s (by omega) ⟨F, c, fun v hv => by omega⟩ rfl (by omega)
      have F2 : Fo R n (h + 1) (scan R (s.q.getD h 0) n 0 s) := by
        refine ⟨S.len, S.lt, S.mem, S.hl, S.nd, S.up, fun k hk w hw hb => ?_⟩
        by_cases e : k = h
        · subst e; exact S.ew w hw hb
        · exact S.ed k (by omega) w hw hb
      obtain ⟨h', H1, H2⟩ := visit_fo f (h + 1) _ F2 hb
      exact ⟨h', H1, H2.elim .inl (fun e => .inr (by omega))⟩
    · rw [if_neg c]
      exact ⟨h, F, .inl (by have := F.hq; omega)⟩
theorem nodup_len {n : Nat} {q : List Nat} (nd : q.Nodup) (lt : ∀ u, u ∈ q → u < n) : q.length ≤ n := by
  have p : q.Perm ((List.range n).filter (fun u => decide (u ∈ q))) := (List.perm_ext_iff_of_nodup nd (List.Pairwise.filter _ List.nodup_range)).2 (fun u => by
    rw [List.mem_filter, List.mem_range, decide_eq_true_iff]
    exact ⟨fun h => ⟨lt u h, h⟩, fun h => h.2⟩)
  rw [p.length_eq]
  exact Nat.le_trans (List.length_filter_le _ _) (by simp)
theorem roots_fo {n : Nat} : ∀ (d i : Nat) (s : B × Nat), i + d = n → Fo R n s.1.q.length s.1 → (roots R n d i s).1.bad = 0 → Fo R n (roots R n d i s).1.q.length (roots R n d i s).1
  | 0, i, s, _, F, _ => F
  | d + 1, i, s, hi, F, hb => by
    rw [roots] at hb ⊢
    by_cases c : s.1.seen.testBit i = true
    · rw [if_pos c] at hb ⊢
      exact roots_fo d (i + 1) s (by omega) F hb
    · rw [if_neg c] at hb ⊢
      have hb1 := roots_bad0 R n d (i + 1) (visit R n (n + 1) s.1.q.length (push i s.1), s.2 + 1)
      have F1 : Fo R n s.1.q.length (push i s.1) := F.more R (by omega) (fun h => c ((F.mem i).2 h)) (.inl rfl)
      obtain ⟨h', H1, H2⟩ := visit_fo R (n + 1) s.1.q.length (push i s.1) F1 (by show (visit R n (n + 1) s.1.q.length (push i s.1)).bad = 0; have hb1' : (visit R n (n + 1) s.1.q.length (push i s.1)).bad ≤ (roots R n d (i + 1) (visit R n (n + 1) s.1.q.length (push i s.1), s.2 + 1)).1.bad := hb1; omega)
      have e : h' = (visit R n (n + 1) s.1.q.length (push i s.1)).q.length := by
        rcases H2 with e | e
        · exact e
        · have h1 := H1.hq
          have h2 := nodup_len H1.nd H1.lt
          omega
      rw [e] at H1
      exact roots_fo d (i + 1) _ (by omega) H1 hb
theorem start_fo (n : Nat) : Fo R n 0 (start n) := by
  refine ⟨by simp [start], fun u hu => by simp [start] at hu, fun u => by simp [start], Nat.zero_le _, by simp [start], fun j hj => by simp [start] at hj, fun k hk => by omega⟩
/-- A forest's parents. -/
theorem forest_par {n : Nat} (hsym : ∀ a b, a < n → b < n → (R a).testBit b = true → (R b).testBit a = true) (hR : ∀ v, v < n → R v < 2 ^ n) (hb : (roots R n n 0 (start n, 0)).1.bad = 0) :
    (roots R n n 0 (start n, 0)).1.par.length = n ∧
    (∃ pos : Nat → Nat, (∀ v, v < n → pos v < n) ∧ ∀ j, j < n → (roots R n n 0 (start n, 0)).1.par.getD j 0 = -1 ∨ ∃ p : Nat, (roots R n n 0 (start n, 0)).1.par.getD j 0 = (p : Int) ∧ p < n ∧ pos p < pos j) ∧
    ∀ a b, a < n → b < n → (R a).testBit b = (decide ((roots R n n 0 (start n, 0)).1.par.getD b 0 = (a : Int)) || decide ((roots R n n 0 (start n, 0)).1.par.getD a 0 = (b : Int))) := by
  have F := roots_fo R n 0 (start n, 0) (by omega) (start_fo R n) hb
  obtain ⟨I, -, -⟩ := roots_inv R hsym hR n 0 (start n) 0 (by omega) (start_rest R n)
  have hall : ∀ j, j < n → j ∈ (roots R n n 0 (start n, 0)).1.q := fun j hj => (F.mem j).1 (I.done j hj)
  generalize (roots R n n 0 (start n, 0)).1 = s at *
  have hix : ∀ j, j < n → s.q.idxOf j < s.q.length ∧ s.q.getD (s.q.idxOf j) 0 = j := fun j hj => by
    have h1 : s.q.idxOf j < s.q.length := List.idxOf_lt_length_of_mem (hall j hj)
    refine ⟨h1, ?_⟩
    rw [List.getD_eq_getElem?_getD, List.getElem?_eq_getElem h1]
    simp
  have hle : ∀ k, k < s.q.length → s.q.idxOf (s.q.getD k 0) ≤ k := fun k hk => by
    have h1 := hix (s.q.getD k 0) (F.lt _ (getD_mem hk))
    rcases Nat.lt_or_ge k (s.q.idxOf (s.q.getD k 0)) with h | h
    · exfalso
      have := List.not_of_lt_findIdx (p := (· == s.q.getD k 0)) (xs := s.q) h
      have e : s.q.getD k 0 = s.q[k] := by
        rw [List.getD_eq_getElem?_getD, List.getElem?_eq_getElem hk]; rfl
      have e2 : (s.q[k] == s.q.getD k 0) = true := by rw [e]; simp
      exact Bool.noConfusion (e2.symm.trans this)
    · exact h
  refine ⟨F.len, ⟨fun v => s.q.idxOf v, fun v hv => Nat.lt_of_lt_of_le (hix v hv).1 (nodup_len F.nd F.lt), fun j hj => ?_⟩, fun a b ha hb' => ?_⟩
  · rcases F.up _ (hix j hj).1 with e | ⟨k, h1, h2, h3⟩
    · rw [(hix j hj).2] at e; exact .inl e
    · rw [(hix j hj).2] at h2
      have hk : k < s.q.length := by have := (hix j hj).1; omega
      exact .inr ⟨_, h2, F.lt _ (getD_mem hk), Nat.lt_of_le_of_lt (hle k hk) h1⟩
  · have back : ∀ x y, x < n → y < n → s.par.getD y 0 = (x : Int) → (R x).testBit y = true := fun x y hx hy h => by
      rcases F.up _ (hix y hy).1 with e | ⟨k, h1, h2, h3⟩
      · rw [(hix y hy).2] at e; omega
      · rw [(hix y hy).2] at h2 h3
        have : s.q.getD k 0 = x := by omega
        rw [this] at h3
        exact h3
    rw [Bool.eq_iff_iff, Bool.or_eq_true, decide_eq_true_iff, decide_eq_true_iff]
    constructor
    · intro h
      have h1 := (F.ed _ (hix a ha).1 b hb' (by rw [(hix a ha).2]; exact h)).2
      rw [(hix a ha).2] at h1
      exact h1.symm
    · rintro (h | h)
      · exact back a b ha hb' h
      · exact hsym b a hb' ha (back b a hb' ha h)
end
end Go.Proofs.Ytdpdmhjmmpncoaa.Bf

namespace Go.Proofs.Ytdpdmhjmmpncoaa.Gr
open Go.RowKit Go.Proofs.Ytdpdmhjmmpncoaa.P Go.Proofs.Ytdpdmhjmmpncoaa.Bt Go.Proofs.Ytdpdmhjmmpncoaa.Lw Go.Proofs.Ytdpdmhjmmpncoaa.Bf Go.Proofs.YtdpdmhjmmpncoaaW.PrintWords Go.Proofs.YtdpdmhjmmpncoaaW.PrintLast Go.Proofs.YtdpdmhjmmpncoaaW.PrintMore
set_option linter.unusedVariables false
set_option linter.unusedSimpArgs false

theorem mat_good (l : List Int) (G : Gr.Good l) (own : Bool) (hb : badOf l = 0) : ∃ E : List (Nat × Nat), E.length ≤ 16 ∧ Ev (fun k => spec_trMatching.f k l own) (E.map toE, true) ∧ Ev (fun k => impl_Graph_matching.f k l own) (E.map toE) := by
  have hl := G.2.1
  obtain ⟨p1, ⟨pos, p2, p3⟩, -⟩ := Bf.forest_par (nr l) (fun a b ha hb h => good_sym G a b ha hb h) (fun v hv => good_lt G v hv) hb
  obtain ⟨I, -, -⟩ := roots_inv (nr l) (good_sym G) (good_lt G) l.length 0 (Bf.start l.length) 0 (by omega) (start_rest (nr l) l.length)
  have hlt := I.lt
  have hqn : (bfs l).q.length ≤ 16 := by
    have h1 := I.sum fun _ => 1
    rw [sumB_card] at h1
    have h2 := Cl.card_le l.length (roots (nr l) l.length l.length 0 (Bf.start l.length, 0)).1.seen
    have h3 : ∀ q : List Nat, (q.map fun _ => (1 : Nat)).sum = q.length := fun q => by induction q with
      | nil => rfl
      | cons a q ih => rw [List.map_cons, List.sum_cons, ih, List.length_cons, Nat.add_comm]
    rw [h3] at h1
    unfold bfs
    omega
  obtain ⟨K1, t1⟩ := tr_ev l own G
  rw [if_pos hb] at t1
  obtain ⟨K2, t2⟩ := reached_ev l own G G.1 hb
  simp only at t1 t2
  have hu : ∀ j, j < l.length → (bfs l).par.getD j 0 = -1 ∨ ∃ p : Nat, (bfs l).par.getD j 0 = (p : Int) ∧ p < l.length := fun j hj => by
    rcases p3 j hj with h | ⟨p, h, h', _⟩
    · exact .inl h
    · exact .inr ⟨p, h, h'⟩
  have hp : (bfs l).par.length = l.length := p1
  have ho : ∀ v ∈ (bfs l).q, v < l.length := hlt
  generalize (bfs l).q = q at *
  generalize (bfs l).par = par at *
  have hpk := pick_len par q.reverse 0
  rw [List.length_reverse] at hpk
  have hperm := insAll_perm (pick par q.reverse 0) []
  rw [List.append_nil] at hperm
  obtain ⟨K3, t3⟩ := mat_loop par q l.length hl hp hu ho hqn q.length 0 [] (Nat.le_refl _) (by simp; omega) (by omega)
  rw [List.take_length] at t3
  simp only at t3
  have hul : (up q).length = q.length := up_length q
  refine ⟨insAll (pick par q.reverse 0) [], by rw [hperm.length_eq]; omega, ⟨K1 + K3, fun k hk => ?_⟩, ⟨K2, fun k hk => ?_⟩⟩
  · show spec_trMatching.f k l own = _
    unfold spec_trMatching.f
    rw [t1 k (by omega)]
    simp only [Option.bind_some, if_true]
    rw [hul, Bt.wrap_id (by omega) (by omega)]
    exact t3 k (by omega)
  · show impl_Graph_matching.f k l own = _
    unfold impl_Graph_matching.f
    rw [t2 k (by omega)]
    simp only [Option.bind_some]
    have hok : okM (up q) par = true := by
      unfold okM
      rw [Bool.and_eq_true, List.all_eq_true, decide_eq_true_iff]
      refine ⟨fun i hi => ?_, by omega⟩
      obtain ⟨v, hv, rfl⟩ := List.mem_map.1 hi
      have hvn := ho v hv
      have hr : rd par (v : Int) = par.getD v 0 := rd_nat par v
      have hr60 : par.getD v 0 < 60 := by
        rcases hu v hvn with h | ⟨p, h, h'⟩ <;> omega
      simp only [Bool.and_eq_true, decide_eq_true_iff]
      refine ⟨⟨⟨by omega, by omega⟩, by omega⟩, by rw [hr]; exact hr60⟩
    have hfold : ((up q).foldr (fun i st => mstep par st i) (0, [])).2 = (pick par q.reverse 0).map toE := by
      have h := fold_at par l.length hl hp hu q.reverse 0 [] (fun i hi => ho i (List.mem_reverse.1 hi)) (by omega)
      rw [List.nil_append] at h
      rw [← h, show up q.reverse = (up q).reverse from List.map_reverse .., List.foldl_reverse]
      rfl
    obtain ⟨s1, s2⟩ := sort_ins (pick par q.reverse 0) (pick_free par q.reverse 0).2
    rw [if_pos hok, hfold, if_pos s1, s2]
theorem mat_both (l : List Int) (own : Bool) (hlen : l.length ≤ 4611686018427387904) : ∃ (E : List (Nat × Nat)) (b : Bool), E.length ≤ 16 ∧ Ev (fun k => spec_MatchingOf.f k l own) (E.map toE, b) ∧ Ev (fun k => impl_MatchingOf.f k l own) (E.map toE, b) ∧ Ev (fun k => spec_MatchingSize.f k l own) ((E.length : Int), b) ∧ Ev (fun k => impl_MatchingSize.f k l own) ((E.length : Int), b) := by
  obtain ⟨g, hg, ⟨K1, e1⟩, ⟨K2, e2⟩⟩ := good_both l own hlen
  simp only at e1 e2
  cases g with
  | false =>
    have hf : ∀ k, K2 ≤ k → impl_isForest.f k l own = some false := fun k hk => by unfold impl_isForest.f; rw [e2 k hk]; rfl
    refine ⟨[], false, by simp, ⟨K1, fun k hk => ?_⟩, ⟨K2, fun k hk => ?_⟩, ⟨K1, fun k hk => ?_⟩, ⟨K2, fun k hk => ?_⟩⟩
    · show spec_MatchingOf.f k l own = _
      unfold spec_MatchingOf.f; rw [e1 k hk]; rfl
    · show impl_MatchingOf.f k l own = _
      unfold impl_MatchingOf.f; rw [hf k hk]; rfl
    · show spec_MatchingSize.f k l own = _
      unfold spec_MatchingSize.f; rw [e1 k hk]; rfl
    · show impl_MatchingSize.f k l own = _
      unfold impl_MatchingSize.f; rw [hf k hk]; rfl
  | true =>
    have G := hg.1 rfl
    obtain ⟨K5, f2⟩ := forest_ev l own G
    simp only at f2
    by_cases hb : badOf l = 0
    · rw [show (badOf l == 0) = true by simpa using hb] at f2
      obtain ⟨E, hE, ⟨K3, s⟩, ⟨K4, i⟩⟩ := mat_good l G own hb
      simp only at s i
      refine ⟨E, true, hE, ⟨K1 + K3, fun k hk => ?_⟩, ⟨K5 + K4, fun k hk => ?_⟩, ⟨K1 + K3, fun k hk => ?_⟩, ⟨K5 + K4, fun k hk => ?_⟩⟩
      · show spec_MatchingOf.f k l own = _
        unfold spec_MatchingOf.f; rw [e1 k (by omega)]
        simp only [Option.bind_some, if_true]
        rw [s k (by omega)]; rfl
      · show impl_MatchingOf.f k l own = _
        unfold impl_MatchingOf.f; rw [f2 k (by omega)]
        simp only [Option.bind_some, if_true]
        rw [i k (by omega)]; rfl
      · show spec_MatchingSize.f k l own = _
        unfold spec_MatchingSize.f; rw [e1 k (by omega)]
        simp only [Option.bind_some, if_true]
        rw [s k (by omega)]
        simp only [Option.bind_some]
        rw [List.length_map]
      · show impl_MatchingSize.f k l own = _
        unfold impl_MatchingSize.f; rw [f2 k (by omega)]
        simp only [Option.bind_some, if_true]
        rw [i k (by omega)]
        simp only [Option.bind_some]
        rw [List.length_map]
    · rw [show (badOf l == 0) = false by simpa using hb] at f2
      obtain ⟨K3, t1⟩ := tr_ev l own G
      rw [if_neg hb] at t1
      simp only at t1
      have hs : ∀ k, K3 ≤ k → spec_trMatching.f k l own = some ([], false) := fun k hk => by
        unfold spec_trMatching.f; rw [t1 k hk]; rfl
      refine ⟨[], false, by simp, ⟨K1 + K3, fun k hk => ?_⟩, ⟨K5, fun k hk => ?_⟩, ⟨K1 + K3, fun k hk => ?_⟩, ⟨K5, fun k hk => ?_⟩⟩
      · show spec_MatchingOf.f k l own = _
        unfold spec_MatchingOf.f; rw [e1 k (by omega)]
        simp only [Option.bind_some, if_true]
        rw [hs k (by omega)]; rfl
      · show impl_MatchingOf.f k l own = _
        unfold impl_MatchingOf.f; rw [f2 k hk]; rfl
      · show spec_MatchingSize.f k l own = _
        unfold spec_MatchingSize.f; rw [e1 k (by omega)]
        simp only [Option.bind_some, if_true]
        rw [hs k (by omega)]; rfl
      · show impl_MatchingSize.f k l own = _
        unfold impl_MatchingSize.f; rw [f2 k hk]; rfl
end Go.Proofs.Ytdpdmhjmmpncoaa.Gr
