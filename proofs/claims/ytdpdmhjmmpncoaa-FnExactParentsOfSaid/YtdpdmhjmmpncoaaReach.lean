/- The program's search by levels, in step with the plain one where there is no circle. -/
import Derived.Test.YtdpdmhjmmpncoaaTree
import Derived.Test.YtdpdmhjmmpncoaaPx29
import Derived.Test.YtdpdmhjmmpncoaaPx30
namespace Go.Proofs.Ytdpdmhjmmpncoaa.Gr
open Go.RowKit Go.Proofs.Ytdpdmhjmmpncoaa.P Go.Proofs.Ytdpdmhjmmpncoaa.Bt Go.Proofs.Ytdpdmhjmmpncoaa.Lw Go.Proofs.Ytdpdmhjmmpncoaa.Cl Go.Proofs.Ytdpdmhjmmpncoaa.Bf Go.Proofs.YtdpdmhjmmpncoaaW.PrintWords Go.Proofs.YtdpdmhjmmpncoaaW.PrintLast Go.Proofs.YtdpdmhjmmpncoaaW.PrintMore
set_option linter.unusedVariables false
set_option linter.unusedSimpArgs false

/-- the same parents, of what has been met -/
def Agree (n : Nat) (s : B) (P : List Int) : Prop := P.length = n ∧ (∀ u, s.seen.testBit u = true → P.getD u 0 = s.par.getD u 0) ∧ ∀ u, u < n → s.seen.testBit u = false → P.getD u 0 = -1
theorem up_drop_add (q : List Nat) (h w : Nat) (hh : h ≤ q.length) : up (q.drop h) ++ [(w : Int)] = up ((q ++ [w]).drop h) := by
  rw [List.drop_append_of_le_length hh, up_add]
section
variable (l : List Int) (own : Bool) (G : Good l)
include G
theorem re_scan (i h h0 v : Nat) (hi : i < l.length) (ord : List Int) (r : List Int × List Int) : ∀ (d w : Nat) (s : B) (P : List Int), w + d = l.length → Inv (nr l) l.length h0 s → v ∈ s.q → h < s.q.length → (scan (nr l) v d w s).bad = 0 → (∀ p : Nat, s.par.getD v 0 = (p : Int) → s.seen.testBit p = true) → Agree l.length s P →
    (∀ P', Agree l.length (scan (nr l) v d w s) P' → Ev (fun k => impl_Graph_reached.l1 k ord P' ((scan (nr l) v d w s).seen : Int) (up ((scan (nr l) v d w s).q.drop (h + 1))) (l.length : Int) (i : Int) l own) r) →
    Ev (fun k => impl_Graph_reached.l2 k ord P (s.seen : Int) (up (s.q.drop h)) (v : Int) (l.length : Int) (i : Int) (l.length : Int) (w : Int) l own) r := by
  have hl := G.2.1
  have hp := pow16 hl
  intro d
  induction d with
  | zero =>
    intro w s P hw I hv hh hb hpar ag h1
    refine Ev.succ (h1 P ag) 0 fun k _ => ?_
    rw [impl_Graph_reached.l2, if_neg (by omega), if_pos (by rw [up_length, List.length_drop]; omega)]
    rw [show (up (s.q.drop h)).drop (1 : Int).toNat = up (s.q.drop (h + 1)) by unfold up; rw [← List.map_drop, List.drop_drop]; rfl]
    rfl
  | succ d ih =>
    intro w s P hw I hv hh hb hpar ag h1
    have hvn := I.lt v hv
    have hsv := nr_small hl G.2.2.1 hvn
    have hrv : rd l (v : Int) = (nr l v : Int) := by rw [rd_nat]; exact nr_cast G.2.2.1 hvn
    have hseen : s.seen < 9223372036854775808 := by
      have : s.seen < 2 ^ l.length := by
        apply Nat.lt_of_not_le
        intro hge
        obtain ⟨j, hj1, hj2⟩ := Nat.exists_ge_and_testBit_of_ge_two_pow hge
        have := I.lt j ((I.mem j).1 hj2)
        omega
      omega
    have hqn : s.q.length ≤ 16 := by
      have := I.short
      have := card_le l.length s.seen
      omega
    obtain ⟨a1, a2, a3, a4, ⟨t, a5⟩, a6, a7, a8⟩ := look_inv (nr l) (good_sym G) I hv (w := w) (by omega)
    have skip : Bf.look (nr l) v w s = s → Ev (fun k => impl_Graph_reached.l2 k ord P (s.seen : Int) (up (s.q.drop h)) (v : Int) (l.length : Int) (i : Int) (l.length : Int) ((w + 1 : Nat) : Int) l own) r := by
      intro e
      rw [scan, e] at hb h1
      exact ih (w + 1) s P (by omega) I hv hh hb hpar ag h1
    by_cases c : (nr l v).testBit w = true
    · by_cases c2 : s.seen.testBit w = true
      · have c1 : s.par.getD v 0 = (w : Int) := by
          by_cases c1 : s.par.getD v 0 = (w : Int)
          · exact c1
          · have e : (Bf.look (nr l) v w s).bad = s.bad + 1 := by unfold Bf.look; rw [if_pos ⟨c, c1⟩, if_pos c2]
            have := scan_bad l v d (w + 1) (Bf.look (nr l) v w s)
            rw [scan] at hb
            omega
        have e : Bf.look (nr l) v w s = s := by unfold Bf.look; rw [if_neg (fun x => x.2 c1)]
        refine Ev.succ (skip e) 0 fun k _ => ?_
        rw [impl_Graph_reached.l2, if_pos (by omega), if_pos (by omega), if_pos (by omega), hrv, has_nat (nr l v) w (by omega), c, Option.bind_some, if_pos rfl, has_nat s.seen w hseen, c2, Option.bind_some, if_pos rfl, step1 (by omega)]
      · have c1 : ¬ s.par.getD v 0 = (w : Int) := fun x => c2 (hpar w x)
        have e : Bf.look (nr l) v w s = { par := s.par.set w (v : Int), q := s.q ++ [w], seen := s.seen ||| 1 <<< w, bad := s.bad } := by
          unfold Bf.look; rw [if_pos ⟨c, c1⟩, if_neg c2]
        rw [scan] at hb h1
        have ag' : Agree l.length (Bf.look (nr l) v w s) (P.set w (v : Int)) := by
          rw [e]
          refine ⟨by rw [List.length_set]; exact ag.1, fun u hu => ?_, fun u hn hu => ?_⟩
          · have hu' : (s.seen ||| 1 <<< w).testBit u = true := hu
            show (P.set w (v : Int)).getD u 0 = (s.par.set w (v : Int)).getD u 0
            by_cases z : w = u
            · subst z
              rw [Bf.getD_set_eq (by rw [ag.1]; omega), Bf.getD_set_eq (by rw [I.len]; omega)]
            · rw [Bf.getD_set_ne z, Bf.getD_set_ne z]
              rw [testBit_add, Bool.or_eq_true, decide_eq_true_eq] at hu'
              exact ag.2.1 u (hu'.resolve_right z)
          · have hu' : (s.seen ||| 1 <<< w).testBit u = false := hu
            rw [testBit_add, Bool.or_eq_false_iff, decide_eq_false_iff_not] at hu'
            rw [Bf.getD_set_ne hu'.2]
            exact ag.2.2 u hn hu'.1
        have key := ih (w + 1) (Bf.look (nr l) v w s) (P.set w (v : Int)) (by omega) a1 (by rw [a5]; exact List.mem_append_left _ hv) (by rw [a5, List.length_append]; omega) hb (fun p hp => a4 p (hpar p (by rw [← a6]; exact hp))) ag' h1
        rw [e] at key
        have hsh : shl .i64 1 (w : Int) = ((1 <<< w : Nat) : Int) := by
          have hb := one_bit_lt (n := l.length) (i := w) (by omega)
          have := shl_nat (a := 1) (n := w) (by omega) (by rw [← Nat.shiftLeft_eq]; omega)
          simpa using this
        have hbl := one_bit_lt (n := l.length) (i := w) (by omega)
        have hP := ag.1
        refine Ev.succ key 0 fun k _ => ?_
        rw [impl_Graph_reached.l2, if_pos (by omega), if_pos (by omega), if_pos (by omega), hrv, has_nat (nr l v) w (by omega), c, Option.bind_some, if_pos rfl, has_nat s.seen w hseen, Bool.eq_false_iff.mpr c2, Option.bind_some, if_neg (by decide), if_pos (by omega), if_pos (by omega), if_pos (by rw [up_length, List.length_drop]; omega), hsh, bits_or hseen (by omega), step1 (by omega), Int.toNat_natCast, up_drop_add _ _ _ (by omega)]
    · have e : Bf.look (nr l) v w s = s := by unfold Bf.look; rw [if_neg (fun x => c x.1)]
      refine Ev.succ (skip e) 0 fun k _ => ?_
      rw [impl_Graph_reached.l2, if_pos (by omega), if_pos (by omega), if_pos (by omega), hrv, has_nat (nr l v) w (by omega), Bool.eq_false_iff.mpr c, Option.bind_some, if_neg (by decide), step1 (by omega)]
theorem re_visit (i h0 : Nat) (hi : i < l.length) (r : List Int × List Int) : ∀ (f h : Nat) (s : B) (P : List Int), l.length < f + h → h0 ≤ h → h ≤ s.q.length → Inv (nr l) l.length h0 s → (visit (nr l) l.length f h s).bad = 0 → Agree l.length s P →
    (∀ P', Agree l.length (visit (nr l) l.length f h s) P' → Ev (fun k => impl_Graph_reached.l0 k (up (visit (nr l) l.length f h s).q) P' ((visit (nr l) l.length f h s).seen : Int) (l.length : Int) ((i + 1 : Nat) : Int) l own) r) →
    Ev (fun k => impl_Graph_reached.l1 k (up (s.q.take h)) P (s.seen : Int) (up (s.q.drop h)) (l.length : Int) (i : Int) l own) r := by
  have hl := G.2.1
  intro f
  induction f with
  | zero =>
    intro h s P hf h1 h2 I
    have := I.short
    have := card_le l.length s.seen
    omega
  | succ f ih =>
    intro h s P hf h1 h2 I hb ag g
    have hqn : s.q.length ≤ 16 := by
      have := I.short
      have := card_le l.length s.seen
      omega
    rw [visit] at g hb
    by_cases c : h < s.q.length
    · rw [if_pos c] at g hb
      have hv := getD_mem c
      have hvn := I.lt _ hv
      have hp : ∀ p : Nat, s.par.getD (s.q.getD h 0) 0 = (p : Int) → s.seen.testBit p = true := by
        intro p hp
        by_cases e : h = h0
        · subst e
          have := I.root
          omega
        · obtain ⟨p', _, a2, _, a4⟩ := I.non h (by omega) c
          have : p = p' := by omega
          subst this
          exact a4
      obtain ⟨b1, _, _, _, ⟨t, b5⟩, _, _⟩ := scan_inv (nr l) (good_sym G) l.length 0 s (by omega) I hv hp
      have hlen : s.q.length ≤ (scan (nr l) (s.q.getD h 0) l.length 0 s).q.length := by rw [b5, List.length_append]; omega
      have hsb : (scan (nr l) (s.q.getD h 0) l.length 0 s).bad = 0 := by
        have := visit_bad l f (h + 1) (scan (nr l) (s.q.getD h 0) l.length 0 s)
        omega
      have hq0 : s.q.drop h = s.q.getD h 0 :: s.q.drop (h + 1) := by
        rw [List.drop_eq_getElem_cons c, List.getD_eq_getElem?_getD, List.getElem?_eq_getElem c]; rfl
      have hrd : rd (up (s.q.drop h)) 0 = ((s.q.getD h 0 : Nat) : Int) := by rw [hq0]; rfl
      have hord : up (s.q.take h) ++ [((s.q.getD h 0 : Nat) : Int)] = up ((scan (nr l) (s.q.getD h 0) l.length 0 s).q.take (h + 1)) := by
        rw [b5, List.take_append_of_le_length (by omega), List.take_succ_eq_append_getElem c, up_add, List.getD_eq_getElem?_getD, List.getElem?_eq_getElem c]; rfl
      refine Ev.succ (re_scan l own G i h h0 (s.q.getD h 0) hi (up ((scan (nr l) (s.q.getD h 0) l.length 0 s).q.take (h + 1))) r l.length 0 s P (by omega) I hv c hsb hp ag (fun P' ag' => ?_)) 0 fun k _ => ?_
      · exact ih (h + 1) _ P' (by omega) (by omega) (by omega) b1 hb ag' g
      · rw [impl_Graph_reached.l1, if_pos (by rw [up_length, List.length_drop]; omega), if_pos (by rw [up_length, List.length_drop]; omega), if_pos (by rw [up_length, List.length_take]; omega), hrd, hord]
        rfl
    · rw [if_neg c] at g hb
      have hh : h = s.q.length := by omega
      refine Ev.succ (g P ag) 0 fun k _ => ?_
      rw [impl_Graph_reached.l1, if_neg (by rw [up_length, List.length_drop]; omega), step1 (by omega), hh, List.take_length]
theorem re_roots : ∀ (d i : Nat) (s : B) (r0 : Nat) (P : List Int), i + d = l.length → Bf.Rest (nr l) l.length i r0 s → (roots (nr l) l.length d i (s, r0)).1.bad = 0 → Agree l.length s P →
    Ev (fun k => impl_Graph_reached.l0 k (up s.q) P (s.seen : Int) (l.length : Int) (i : Int) l own) (up (roots (nr l) l.length d i (s, r0)).1.q, (roots (nr l) l.length d i (s, r0)).1.par) := by
  have hl := G.2.1
  have hp := pow16 hl
  intro d
  induction d with
  | zero =>
    intro i s r0 P hi I hb ag
    have hP : P = s.par := by
      apply List.ext_getElem (by rw [ag.1, I.len])
      intro u h1 h2
      have := ag.2.1 u (I.done u (by have := ag.1; omega))
      rw [List.getD_eq_getElem?_getD, List.getD_eq_getElem?_getD, List.getElem?_eq_getElem h1, List.getElem?_eq_getElem h2] at this
      exact this
    refine Ev.konst 1 fun k hk => ?_
    obtain ⟨k, rfl⟩ : ∃ m, k = m + 1 := ⟨k - 1, by omega⟩
    rw [impl_Graph_reached.l0, if_neg (by omega), hP]
    rfl
  | succ d ih =>
    intro i s r0 P hi I hb ag
    have hseen : s.seen < 9223372036854775808 := by
      have : s.seen < 2 ^ l.length := by
        apply Nat.lt_of_not_le
        intro hge
        obtain ⟨j, hj1, hj2⟩ := Nat.exists_ge_and_testBit_of_ge_two_pow hge
        have := I.lt j ((I.mem j).1 hj2)
        omega
      omega
    rw [roots] at hb ⊢
    by_cases c : s.seen.testBit i = true
    · rw [if_pos c] at hb ⊢
      refine Ev.succ (ih (i + 1) s r0 P (by omega) ⟨I.len, I.sum, I.mem, I.lt, I.cl, I.eq, fun j hj => by
        by_cases e : j = i
        · subst e; exact c
        · exact I.done j (by omega)⟩ hb ag) 0 fun k _ => ?_
      rw [impl_Graph_reached.l0, if_pos (by omega), has_nat s.seen i hseen, c, Option.bind_some, if_pos rfl, step1 (by omega)]
    · rw [if_neg c] at hb ⊢
      have PI := push_inv (nr l) I (by omega) c
      obtain ⟨V, _, _⟩ := phase (nr l) (good_sym G) (good_lt G) I (by omega) c
      have hq : (push i s).q = s.q ++ [i] := rfl
      have hsh : shl .i64 1 (i : Int) = ((1 <<< i : Nat) : Int) := by
        have hb := one_bit_lt (n := l.length) (i := i) (by omega)
        have := shl_nat (a := 1) (n := i) (by omega) (by rw [← Nat.shiftLeft_eq]; omega)
        simpa using this
      have hbl := one_bit_lt (n := l.length) (i := i) (by omega)
      have vb : (visit (nr l) l.length (l.length + 1) s.q.length (push i s)).bad = 0 := by
        have := roots_bad l d (i + 1) (visit (nr l) l.length (l.length + 1) s.q.length (push i s), r0 + 1)
        have hb2 : (roots (nr l) l.length d (i + 1) (visit (nr l) l.length (l.length + 1) s.q.length (push i s), r0 + 1)).1.bad = 0 := hb
        simp only at this
        omega
      have ag' : Agree l.length (push i s) P := by
        have cf := Bool.eq_false_iff.mpr c
        refine ⟨ag.1, fun u hu => ?_, fun u hn hu => ?_⟩
        · have hu' : (s.seen ||| 1 <<< i).testBit u = true := hu
          show P.getD u 0 = (s.par.set i (-1)).getD u 0
          by_cases z : i = u
          · subst z
            rw [Bf.getD_set_eq (by rw [I.len]; omega)]
            exact ag.2.2 i (by omega) cf
          · rw [Bf.getD_set_ne z]
            rw [testBit_add, Bool.or_eq_true, decide_eq_true_eq] at hu'
            exact ag.2.1 u (hu'.resolve_right z)
        · have hu' : (s.seen ||| 1 <<< i).testBit u = false := hu
          rw [testBit_add, Bool.or_eq_false_iff] at hu'
          exact ag.2.2 u hn hu'.1
      have e1 := re_visit l own G i s.q.length (by omega) _ (l.length + 1) s.q.length (push i s) P (by omega) (Nat.le_refl _) (by rw [hq, List.length_append]; omega) PI vb ag'
        (fun P' ag2 => ih (i + 1) _ (r0 + 1) P' (by omega) V hb ag2)
      refine Ev.succ e1 0 fun k _ => ?_
      rw [impl_Graph_reached.l0, if_pos (by omega), has_nat s.seen i hseen, Bool.eq_false_iff.mpr c, Option.bind_some, if_neg (by decide), if_pos (by omega), hsh, bits_or hseen (by omega), hq, List.take_append_of_le_length (Nat.le_refl _), List.take_length, List.drop_append_of_le_length (Nat.le_refl _), List.drop_length]
      rfl
theorem reached_ev (hn : 1 ≤ l.length) (hb : badOf l = 0) : Ev (fun k => impl_Graph_reached.f k l own) (up (bfs l).q, (bfs l).par) := by
  have hl := G.2.1
  have ag : Agree l.length (Bf.start l.length) (List.replicate l.length (-1)) := by
    refine ⟨List.length_replicate, fun u hu => ?_, fun u hn _ => ?_⟩
    · have hu' : (0 : Nat).testBit u = true := hu
      simp at hu'
    · rw [List.getD_eq_getElem?_getD, List.getElem?_replicate, if_pos hn]; rfl
  obtain ⟨K, h⟩ := re_roots l own G l.length 0 (Bf.start l.length) 0 (List.replicate l.length (-1)) (by omega) (start_rest (nr l) l.length) hb ag
  refine ⟨K, fun k hk => ?_⟩
  show impl_Graph_reached.f k l own = _
  unfold impl_Graph_reached.f slices_Repeat_int_int.f
  rw [if_pos (show ([-1] : List Int).length = 1 from rfl), if_pos (by omega), if_pos (by omega), Option.bind_some, Int.toNat_natCast]
  exact h k hk
end
end Go.Proofs.Ytdpdmhjmmpncoaa.Gr
