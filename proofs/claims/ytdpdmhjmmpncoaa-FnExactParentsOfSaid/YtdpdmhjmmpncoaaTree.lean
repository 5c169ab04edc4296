/- The search by levels on the stating side, in step with the plain one. -/
import Derived.Test.YtdpdmhjmmpncoaaForest
import Derived.Test.YtdpdmhjmmpncoaaPx7
namespace Go.Proofs.Ytdpdmhjmmpncoaa.Gr
open Go.RowKit Go.Proofs.Ytdpdmhjmmpncoaa.P Go.Proofs.Ytdpdmhjmmpncoaa.Bt Go.Proofs.Ytdpdmhjmmpncoaa.Lw Go.Proofs.Ytdpdmhjmmpncoaa.Cl Go.Proofs.Ytdpdmhjmmpncoaa.Bf Go.Proofs.YtdpdmhjmmpncoaaW.PrintWords Go.Proofs.YtdpdmhjmmpncoaaW.PrintLast Go.Proofs.YtdpdmhjmmpncoaaW.PrintMore
set_option linter.unusedVariables false
set_option linter.unusedSimpArgs false

abbrev Tr := List Int × List Int × Bool
section
variable (l : List Int) (own : Bool) (G : Good l)
include G
theorem tr_scan (i h h0 v : Nat) (hi : i < l.length) (r : Tr) : ∀ (d w : Nat) (s : B), w + d = l.length → Inv (nr l) l.length h0 s → v ∈ s.q → s.bad = 0 → (∀ p : Nat, s.par.getD v 0 = (p : Int) → s.seen.testBit p = true) →
    ((scan (nr l) v d w s).bad = 0 → Ev (fun k => spec_trParents.l1 k (l.length : Int) (scan (nr l) v d w s).par (up (scan (nr l) v d w s).q) ((scan (nr l) v d w s).seen : Int) (i : Int) (wrap64 ((h : Int) + 1)) l own) r) →
    ((scan (nr l) v d w s).bad ≠ 0 → r = ([], [], false)) →
    Ev (fun k => spec_trParents.l2 k (l.length : Int) s.par (up s.q) (s.seen : Int) (i : Int) (h : Int) (v : Int) (w : Int) l own) r := by
  have hl := G.2.1
  have hp := pow16 hl
  intro d
  induction d with
  | zero =>
    intro w s hw I hv hb hpar h1 h2
    refine Ev.succ (h1 hb) 0 fun k _ => ?_
    rw [spec_trParents.l2, if_neg (by omega)]
    rfl
  | succ d ih =>
    intro w s hw I hv hb hpar h1 h2
    have hvn := I.lt v hv
    have hsv := nr_small hl G.2.2.1 hvn
    have hrv : rd l (v : Int) = (nr l v : Int) := by rw [rd_nat]; exact nr_cast G.2.2.1 hvn
    have hpv : rd s.par (v : Int) = s.par.getD v 0 := rd_nat _ _
    have hlen := I.len
    have hseen : s.seen < 9223372036854775808 := by
      have : s.seen < 2 ^ l.length := by
        apply Nat.lt_of_not_le
        intro hge
        obtain ⟨j, hj1, hj2⟩ := Nat.exists_ge_and_testBit_of_ge_two_pow hge
        have := I.lt j ((I.mem j).1 hj2)
        omega
      omega
    have hqn : s.q.length ≤ 16 := by
      have := I.short
      have := card_le l.length s.seen
      omega
    obtain ⟨a1, a2, a3, a4, ⟨t, a5⟩, a6, a7, a8⟩ := look_inv (nr l) (good_sym G) I hv (w := w) (by omega)
    by_cases c : (nr l v).testBit w = true
    · by_cases c1 : s.par.getD v 0 = (w : Int)
      · have e : Bf.look (nr l) v w s = s := by unfold Bf.look; rw [if_neg (fun x => x.2 c1)]
        rw [scan, e] at h1 h2
        refine Ev.succ (Ev.succ (ih (w + 1) s (by omega) I hv hb hpar h1 h2) 0 (f := fun k => spec_trParents.j3 k (l.length : Int) s.par (up s.q) (s.seen : Int) (i : Int) (h : Int) (v : Int) (w : Int) true l own) fun k _ => ?_) 0 fun k _ => ?_
        · rw [spec_trParents.j3, if_pos rfl, step1 (by omega)]
        · rw [spec_trParents.l2, if_pos (by omega), if_pos (by omega), if_pos (by omega), hrv, grIn_nat (nr l v) w (by omega), c]
          simp only [Option.bind_some, if_true]
          rw [if_pos (by omega), hpv, c1, beq_self_eq_true]
      · have hne : ((w : Int) == rd s.par (v : Int)) = false := by
          rw [hpv, beq_eq_false_iff_ne]; exact fun x => c1 x.symm
        have key : Ev (fun k => spec_trParents.j3 k (l.length : Int) s.par (up s.q) (s.seen : Int) (i : Int) (h : Int) (v : Int) (w : Int) false l own) r := by
          by_cases c2 : s.seen.testBit w = true
          · have e : Bf.look (nr l) v w s = { s with bad := s.bad + 1 } := by unfold Bf.look; rw [if_pos ⟨c, c1⟩, if_pos c2]
            have hr : r = ([], [], false) := by
              apply h2
              obtain ⟨_, _, _, _, _, _, hm⟩ := scan_inv (nr l) (good_sym G) d (w + 1) (Bf.look (nr l) v w s) (by omega) a1 (by rw [a5]; exact List.mem_append_left _ hv) (fun p hp => a4 p (hpar p (by rw [← a6]; exact hp)))
              rw [scan]
              have : (Bf.look (nr l) v w s).bad = s.bad + 1 := by rw [e]
              omega
            rw [hr]
            refine Ev.konst 1 fun k hk => ?_
            obtain ⟨k, rfl⟩ : ∃ m, k = m + 1 := ⟨k - 1, by omega⟩
            rw [spec_trParents.j3, if_neg (by simp), grIn_nat s.seen w hseen, c2]
            rfl
          · have e : Bf.look (nr l) v w s = { par := s.par.set w (v : Int), q := s.q ++ [w], seen := s.seen ||| 1 <<< w, bad := s.bad } := by
              unfold Bf.look; rw [if_pos ⟨c, c1⟩, if_neg c2]
            rw [scan] at h1 h2
            have := ih (w + 1) (Bf.look (nr l) v w s) (by omega) a1 (by rw [a5]; exact List.mem_append_left _ hv) (by rw [e]; exact hb) (fun p hp => a4 p (hpar p (by rw [← a6]; exact hp))) h1 h2
            rw [e] at this
            have hsh : shl .i64 1 (w : Int) = ((1 <<< w : Nat) : Int) := by
              have hb := one_bit_lt (n := l.length) (i := w) (by omega)
              have := shl_nat (a := 1) (n := w) (by omega) (by rw [← Nat.shiftLeft_eq]; omega)
              simpa using this
            have hbl := one_bit_lt (n := l.length) (i := w) (by omega)
            refine Ev.succ this 0 fun k _ => ?_
            rw [spec_trParents.j3, if_neg (by simp), grIn_nat s.seen w hseen, Bool.eq_false_iff.mpr c2]
            simp only [Option.bind_some]
            rw [if_neg (by simp), if_pos (by omega), if_pos (by omega), if_pos (by rw [up_length]; omega), hsh, bits_or hseen (by omega), step1 (by omega), Int.toNat_natCast, up_add]
        refine Ev.succ key 0 fun k _ => ?_
        rw [spec_trParents.l2, if_pos (by omega), if_pos (by omega), if_pos (by omega), hrv, grIn_nat (nr l v) w (by omega), c]
        simp only [Option.bind_some, if_true]
        rw [if_pos (by omega), hne]
    · have e : Bf.look (nr l) v w s = s := by unfold Bf.look; rw [if_neg (fun x => c x.1)]
      rw [scan, e] at h1 h2
      refine Ev.succ (Ev.succ (ih (w + 1) s (by omega) I hv hb hpar h1 h2) 0 (f := fun k => spec_trParents.j3 k (l.length : Int) s.par (up s.q) (s.seen : Int) (i : Int) (h : Int) (v : Int) (w : Int) true l own) fun k _ => ?_) 0 fun k _ => ?_
      · rw [spec_trParents.j3, if_pos rfl, step1 (by omega)]
      · rw [spec_trParents.l2, if_pos (by omega), if_pos (by omega), if_pos (by omega), hrv, grIn_nat (nr l v) w (by omega), Bool.eq_false_iff.mpr c]
        simp only [Option.bind_some]
        rw [if_neg (by simp)]
omit G in
theorem look_bad (v w : Nat) (s : B) : s.bad ≤ (Bf.look (nr l) v w s).bad := by
  unfold Bf.look
  split
  · split
    · exact Nat.le_succ _
    · exact Nat.le_refl _
  · exact Nat.le_refl _
omit G in
theorem scan_bad (v : Nat) : ∀ d w (s : B), s.bad ≤ (scan (nr l) v d w s).bad := by
  intro d
  induction d with
  | zero => intro w s; exact Nat.le_refl _
  | succ d ih => intro w s; exact Nat.le_trans (look_bad l v w s) (ih (w + 1) _)
omit G in
theorem visit_bad : ∀ f h (s : B), s.bad ≤ (visit (nr l) l.length f h s).bad := by
  intro f
  induction f with
  | zero => intro h s; exact Nat.le_refl _
  | succ f ih =>
    intro h s
    rw [visit]
    split
    · exact Nat.le_trans (scan_bad l _ _ _ _) (ih _ _)
    · exact Nat.le_refl _
omit G in
theorem roots_bad : ∀ d i (s : B × Nat), s.1.bad ≤ (roots (nr l) l.length d i s).1.bad := by
  intro d
  induction d with
  | zero => intro i s; exact Nat.le_refl _
  | succ d ih =>
    intro i s
    rw [roots]
    split
    · exact ih _ _
    · exact Nat.le_trans (visit_bad l (l.length + 1) s.1.q.length (push i s.1)) (ih (i + 1) (visit (nr l) l.length (l.length + 1) s.1.q.length (push i s.1), s.2 + 1))
theorem tr_visit (i h0 : Nat) (hi : i < l.length) (r : Tr) : ∀ (f h : Nat) (s : B), l.length < f + h → h0 ≤ h → h ≤ s.q.length → Inv (nr l) l.length h0 s → s.bad = 0 →
    ((visit (nr l) l.length f h s).bad = 0 → Ev (fun k => spec_trParents.l0 k (l.length : Int) (visit (nr l) l.length f h s).par (up (visit (nr l) l.length f h s).q) ((visit (nr l) l.length f h s).seen : Int) ((i + 1 : Nat) : Int) l own) r) →
    ((visit (nr l) l.length f h s).bad ≠ 0 → r = ([], [], false)) →
    Ev (fun k => spec_trParents.l1 k (l.length : Int) s.par (up s.q) (s.seen : Int) (i : Int) (h : Int) l own) r := by
  have hl := G.2.1
  intro f
  induction f with
  | zero =>
    intro h s hf h1 h2 I
    have := I.short
    have := card_le l.length s.seen
    omega
  | succ f ih =>
    intro h s hf h1 h2 I hb g1 g2
    have hqn : s.q.length ≤ 16 := by
      have := I.short
      have := card_le l.length s.seen
      omega
    rw [visit] at g1 g2
    by_cases c : h < s.q.length
    · rw [if_pos c] at g1 g2
      have hv := getD_mem c
      have hvn := I.lt _ hv
      have hp : ∀ p : Nat, s.par.getD (s.q.getD h 0) 0 = (p : Int) → s.seen.testBit p = true := by
        intro p hp
        by_cases e : h = h0
        · subst e
          have := I.root
          omega
        · obtain ⟨p', _, a2, _, a4⟩ := I.non h (by omega) c
          have : p = p' := by omega
          subst this
          exact a4
      obtain ⟨b1, _, _, _, ⟨t, b5⟩, _, _⟩ := scan_inv (nr l) (good_sym G) l.length 0 s (by omega) I hv hp
      have hlen : s.q.length ≤ (scan (nr l) (s.q.getD h 0) l.length 0 s).q.length := by rw [b5, List.length_append]; omega
      have hrd : rd (up s.q) (h : Int) = ((s.q.getD h 0 : Nat) : Int) := by
        rw [rd_nat]
        unfold up
        rw [List.getD_eq_getElem?_getD, List.getElem?_map, List.getElem?_eq_getElem c, List.getD_eq_getElem?_getD, List.getElem?_eq_getElem c]
        rfl
      refine Ev.succ (tr_scan l own G i h h0 (s.q.getD h 0) hi r l.length 0 s (by omega) I hv hb hp (fun e => ?_) (fun e => g2 ?_)) 0 fun k _ => ?_
      · rw [step1 (by omega)]
        exact ih (h + 1) _ (by omega) (by omega) (by omega) b1 e g1 g2
      · have := visit_bad l f (h + 1) (scan (nr l) (s.q.getD h 0) l.length 0 s)
        omega
      · rw [spec_trParents.l1, if_pos (by rw [up_length]; omega), if_pos (by omega), hrd]
        rfl
    · rw [if_neg c] at g1 g2
      refine Ev.succ (g1 hb) 0 fun k _ => ?_
      rw [spec_trParents.l1, if_neg (by rw [up_length]; omega), step1 (by omega)]
theorem tr_roots : ∀ (d i : Nat) (s : B) (r0 : Nat) (r : Tr), i + d = l.length → Bf.Rest (nr l) l.length i r0 s → s.bad = 0 →
    ((roots (nr l) l.length d i (s, r0)).1.bad = 0 → r = ((roots (nr l) l.length d i (s, r0)).1.par, up (roots (nr l) l.length d i (s, r0)).1.q, true)) →
    ((roots (nr l) l.length d i (s, r0)).1.bad ≠ 0 → r = ([], [], false)) →
    Ev (fun k => spec_trParents.l0 k (l.length : Int) s.par (up s.q) (s.seen : Int) (i : Int) l own) r := by
  have hl := G.2.1
  have hp := pow16 hl
  intro d
  induction d with
  | zero =>
    intro i s r0 r hi I hb g1 g2
    refine Ev.konst 1 fun k hk => ?_
    obtain ⟨k, rfl⟩ : ∃ m, k = m + 1 := ⟨k - 1, by omega⟩
    rw [spec_trParents.l0, if_neg (by omega), g1 hb]
    rfl
  | succ d ih =>
    intro i s r0 r hi I hb g1 g2
    have hseen : s.seen < 9223372036854775808 := by
      have : s.seen < 2 ^ l.length := by
        apply Nat.lt_of_not_le
        intro hge
        obtain ⟨j, hj1, hj2⟩ := Nat.exists_ge_and_testBit_of_ge_two_pow hge
        have := I.lt j ((I.mem j).1 hj2)
        omega
      omega
    rw [roots] at g1 g2
    by_cases c : s.seen.testBit i = true
    · rw [if_pos c] at g1 g2
      refine Ev.succ (ih (i + 1) s r0 r (by omega) ⟨I.len, I.sum, I.mem, I.lt, I.cl, I.eq, fun j hj => by
        by_cases e : j = i
        · subst e; exact c
        · exact I.done j (by omega)⟩ hb g1 g2) 0 fun k _ => ?_
      rw [spec_trParents.l0, if_pos (by omega), grIn_nat s.seen i hseen, c]
      simp only [Option.bind_some, if_true]
      rw [step1 (by omega)]
    · rw [if_neg c] at g1 g2
      have P := push_inv (nr l) I (by omega) c
      obtain ⟨V, _, _⟩ := phase (nr l) (good_sym G) (good_lt G) I (by omega) c
      have hqn : (push i s).q.length ≤ 16 := by
        have := P.short
        have := card_le l.length (push i s).seen
        omega
      have hq : (push i s).q = s.q ++ [i] := rfl
      rw [hq, List.length_append, List.length_singleton] at hqn
      have hsh : shl .i64 1 (i : Int) = ((1 <<< i : Nat) : Int) := by
        have hb := one_bit_lt (n := l.length) (i := i) (by omega)
        have := shl_nat (a := 1) (n := i) (by omega) (by rw [← Nat.shiftLeft_eq]; omega)
        simpa using this
      have hbl := one_bit_lt (n := l.length) (i := i) (by omega)
      have hlen := I.len
      have e1 := tr_visit l own G i s.q.length (by omega) r (l.length + 1) s.q.length (push i s) (by omega) (Nat.le_refl _) (by rw [hq, List.length_append]; omega) P hb
        (fun e => ih (i + 1) _ (r0 + 1) r (by omega) V e g1 g2)
        (fun e => g2 (by
          have := roots_bad l d (i + 1) (visit (nr l) l.length (l.length + 1) s.q.length (push i s), r0 + 1)
          simp only at this ⊢
          omega))
      refine Ev.succ e1 0 fun k _ => ?_
      rw [spec_trParents.l0, if_pos (by omega), grIn_nat s.seen i hseen, Bool.eq_false_iff.mpr c]
      simp only [Option.bind_some]
      rw [if_neg (by simp), if_pos (by omega), if_pos (by omega), if_pos (by rw [up_length]; omega), hsh, bits_or hseen (by omega), Int.toNat_natCast, ← up_add, up_length]
      rfl
/-- What the search answers. -/
def bfs (l : List Int) : B := (roots (nr l) l.length l.length 0 (Bf.start l.length, 0)).1
theorem tr_ev : Ev (fun k => spec_trParents.f k l own) (if badOf l = 0 then ((bfs l).par, up (bfs l).q, true) else ([], [], false)) := by
  have hl := G.2.1
  have := tr_roots l own G l.length 0 (Bf.start l.length) 0 (if badOf l = 0 then ((bfs l).par, up (bfs l).q, true) else ([], [], false)) (by omega) (start_rest (nr l) l.length) rfl (fun e => if_pos e) (fun e => if_neg e)
  obtain ⟨K, h⟩ := this
  refine ⟨K, fun k hk => ?_⟩
  show spec_trParents.f k l own = _
  unfold spec_trParents.f
  rw [if_pos (by omega), if_pos (by omega), Int.toNat_natCast]
  exact h k hk
/-- 'Is it a forest' on the other side, by counting. -/
theorem forest_ev : Ev (fun k => impl_isForest.f k l own) (badOf l == 0) := by
  obtain ⟨b, hb, _, ⟨K2, e2⟩⟩ := good_both l own (by have := G.2.1; omega)
  have hbt := hb.2 G
  subst hbt
  obtain ⟨_, ⟨K4, e4⟩⟩ := parts_ev l own G.2.1 G.2.2.1
  obtain ⟨_, ⟨K6, e6⟩⟩ := edges_ev l own G.2.1 G.2.2.1
  simp only at e2 e4 e6
  have h1 := count_graph G
  have h2 := edges_short (l := l) G.2.1
  have h3 := parts_short l G.2.1
  have hl := G.2.1
  generalize (edgesR (nr l) l.length l.length) = E at *
  generalize (up (partsOf l l.length 0 0 [])) = P at *
  refine ⟨K2 + K4 + K6, fun k hk => ?_⟩
  show impl_isForest.f k l own = _
  unfold impl_isForest.f
  rw [e2 k (by omega)]
  simp only [Option.bind_some, if_true]
  rw [e6 k (by omega)]
  simp only [Option.bind_some]
  rw [e4 k (by omega)]
  simp only [Option.bind_some]
  rw [Bt.wrap_id (by omega) (by omega)]
  congr 1
  rw [Bool.eq_iff_iff, beq_iff_eq, beq_iff_eq]
  omega
end
end Go.Proofs.Ytdpdmhjmmpncoaa.Gr
