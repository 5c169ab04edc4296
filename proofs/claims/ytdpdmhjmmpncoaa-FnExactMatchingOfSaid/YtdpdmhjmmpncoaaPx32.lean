-- Written by a program of this session (wip/mp.py), which runs the kit's print with contracts of the session's own.
import Derived.Test.YtdpdmhjmmpncoaaPx0
import Derived.Test.YtdpdmhjmmpncoaaPx31
namespace Go.Proofs.Ytdpdmhjmmpncoaa.P
open Go.RowKit Go.Proofs.YtdpdmhjmmpncoaaW.PrintWords Go.Proofs.YtdpdmhjmmpncoaaW.PrintLast Go.Proofs.YtdpdmhjmmpncoaaW.PrintMore
attribute [local go_sem] max2_int min2_int max_two min_two max_three min_three max_four min_four   -- for this text's walks alone
set_option linter.unusedVariables false
set_option linter.unusedSimpArgs false

/-! ### slices_Repeat_int_int: function 86 -/
-- BY HAND
def slices_Repeat_int_int.f (l0 : List Int) (a1 : Int) : Option (List Int) := if l0.length = 1 then (if 1 ≤ a1 then (if a1 ≤ 1000 then some (List.replicate a1.toNat (l0.getD 0 0)) else none) else none) else none
theorem mul_one_u {n : Nat} (h : n ≤ 1000) : bits_Mul.f 1 (n : Int) = some (0, (n : Int)) := by
  have h3 : ∀ m : Fin 1001, bits_Mul.f 1 ((m.val : Nat) : Int) = some (0, ((m.val : Nat) : Int)) := by decide +kernel
  exact h3 ⟨n, by omega⟩
def st (n : Nat) (x : Int) (j : Nat) (D : List Value) : List Value := List.replicate j (.int .i64 x) ++ (List.replicate (n - j) (.int .i64 0) ++ D)
theorem st_len {n : Nat} {x : Int} {j : Nat} {D : List Value} (h : j ≤ n) : (st n x j D).length = n + D.length := by simp [st]; omega
theorem st_splice {n : Nat} {x : Int} {j m : Nat} {D : List Value} (h : j + m ≤ n) : splice (st n x j D) j (List.replicate m (.int .i64 x)) = st n x (j + m) D := by
  unfold splice st
  have e1 : (List.replicate j (Value.int .i64 x) ++ (List.replicate (n - j) (Value.int .i64 0) ++ D)).take j = List.replicate j (Value.int .i64 x) := by
    rw [List.take_append_of_le_length (by simp)]; simp
  have e2 : (List.replicate j (Value.int .i64 x) ++ (List.replicate (n - j) (Value.int .i64 0) ++ D)).drop (j + (List.replicate m (Value.int .i64 x)).length) = List.replicate (n - (j + m)) (Value.int .i64 0) ++ D := by
    rw [List.length_replicate, List.drop_append, List.drop_of_length_le (by simp), List.nil_append, List.length_replicate, show j + m - j = m by omega, List.drop_append_of_le_length (by simp; omega), List.drop_replicate]
    congr 2; omega
  rw [e1, e2, ← List.append_assoc, List.replicate_append_replicate]
theorem st_get {n : Nat} {x : Int} {j i : Nat} {D : List Value} (h : i < j) : (st n x j D)[i]? = some (.int .i64 x) := by
  unfold st
  rw [List.getElem?_append_left (by simpa using h), List.getElem?_replicate, if_pos h]
theorem st_reads {W : World} {g n m j : Nat} {x : Int} {D : List Value} (hh : W.heap[g]? = some (.cells (st n x j D).toArray 3 (0, 0))) (hm : m ≤ j) : ∀ (i : Nat) (v : Value), (List.replicate m (Value.int .i64 x))[i]? = some v → W.cell? ((⟨g, 0, none⟩ : Addr).add i) = some v := by
  intro i v hi
  rw [List.getElem?_replicate] at hi
  by_cases h : i < m
  · rw [if_pos h] at hi
    rw [add_plain, blk_cell hh i]
    rw [List.getElem?_toArray, st_get (by omega), hi]
  · rw [if_neg h] at hi; cases hi
theorem cur_st {n cap : Nat} {cur : Array Value} (x : Int) (h1 : cur.size = cap * 1) (h2 : n ≤ cap) (h4 : cur.toList.take (n * 1) = List.replicate n (Value.int .i64 0)) : ∃ D, cur = (st n x 0 D).toArray ∧ n + D.length = cap := by
  refine ⟨cur.toList.drop n, ?_, by simp; omega⟩
  have e := List.take_append_drop n cur.toList
  rw [Nat.mul_one] at h4
  rw [h4] at e
  unfold st
  rw [Nat.sub_zero, List.replicate_zero, List.nil_append, e]
theorem st_own {W : World} {base g n cap : Nat} {x : Int} {D : List Value} (hb : base ≤ g) (hh : W.heap[g]? = some (.cells (st n x n D).toArray 3 (0, 0))) (h2 : n ≤ cap) (h3 : cap ≤ maxLen) (h4 : n + D.length = cap) : Kd.R (Kd.int .i64) 3 W base (fun _ => True) (.slice (some ⟨g, 0, none⟩) n cap) (List.replicate n x) := by
  refine Kd.R_of_own ?_ (fun _ _ => trivial)
  rw [List.length_replicate]
  refine ⟨by simp [encs], .inr ⟨g, cap, _, rfl, hb, hh, h2, h3, ?_, ?_⟩⟩
  · show (st n x n D).length = cap * 1
    rw [st_len (Nat.le_refl _)]; omega
  · show (st n x n D).take (n * 1) = _
    unfold st
    rw [Nat.mul_one, List.take_append_of_le_length (by simp), List.take_of_length_le (by simp)]
    simp [encs]
set_option maxHeartbeats 4000000 in
set_option maxRecDepth 100000 in
theorem slices_Repeat_int_int.calls (A0 : Option Addr) (c0 : Nat) (l0 : List Int) (a1 : Int) (r : List Int) (w : World) (hr0 : Kd.C (Kd.int .i64) w A0 l0.length l0) (hc0 : l0.length ≤ c0) (h : slices_Repeat_int_int.f l0 a1 = some r) :
    Calls Try.prog 86 #[.slice A0 l0.length c0, .int .i64 a1] w fun e w' => ∃ v0_ : Value, e = .returned v0_ ∧ Kd.R (Kd.int .i64) 3 w' w.heap.size (fun _ => True) v0_ r ∧ Below w.heap.size w w' := by
  unfold slices_Repeat_int_int.f at h
  by_cases h1 : l0.length = 1
  · rw [if_pos h1] at h
    by_cases h2 : 1 ≤ a1
    · rw [if_pos h2] at h
      by_cases h3 : a1 ≤ 1000
      · rw [if_pos h3] at h
        obtain ⟨n, rfl⟩ : ∃ n : Nat, a1 = (n : Int) := ⟨a1.toNat, by omega⟩
        obtain rfl := Option.some.inj h
        obtain ⟨x, rfl⟩ : ∃ x, l0 = [x] := List.length_eq_one_iff.1 h1
        have hn : n ≤ 1000 := by omega
        have hm := mul_one_u hn
        have hn1 : 1 ≤ n := by omega
        clear h h1 h2 h3
        have HM := Aside0.mk hm
        have HR0 := Aside0.mk hr0
        clear hm hr0
        simp only [List.length_singleton]
        have h0n : (0 : Int) ≤ (n : Int) := by omega
        have h1n : (n : Int) ≤ 1000 := by omega
        go_enter Try.func86, Try.ntmps86
        obtain ⟨ad, rfl, hx⟩ := Kd.at_int HR0.out 0 (Int.le_refl _) (by simp)
        have HX := Aside0.mk hx
        clear hx
        go_wp2_with (first
          | (go_at_call 95; refine (bits_Mul.calls 1 (n : Int) 0 (n : Int) _ HM.out).mono ?_; rintro e w' ⟨rfl, ⟨nd, rfl⟩⟩)
          | ((with_reducible refine gate_dst (N := 30) rfl ?_); refine Kd.R_make (Kd.int .i64) _ 3 rfl (N := 30) rfl 22 _ _ rfl (n : Int) rfl rfl Try.underlying22 (.int .i64 0) 8 info3 rfl (by decide) (by omega) 0 (ok := fun _ => True) (okp := fun _ => True) rfl (fun _ hk => hk) trivial h0n (by omega) (pw_below_drewN (Below.refl w.heap.size w) nd) (Nat.le_refl _) ?_; intro v1 w1 ho hb hg hnew
             have ho' := Kd.own_of_R ho
             clear ho hg hnew
             rcases ho'.2 with ⟨_, hz⟩ | ⟨g, cap, cur, rfl, hbase, hblk, hc1, hc2, hc3, hc4⟩
             · exfalso; simp at hz; omega
             clear ho'
             have HBLK := Aside0.mk hblk
             have HB := Aside0.mk hb
             clear hblk hb
             simp only [Int.toNat_natCast, List.length_replicate] at hc1 hc3 hc4
             obtain ⟨D, rfl, hD⟩ := cur_st x hc3 hc1 (hc4.trans (by simp [encs]))
             have HDD := Aside0.mk hD
             clear hc3 hc4 hD
             simp only [Int.toNat_natCast, List.length_replicate])
          | ((with_reducible refine gate_dst (N := 33) rfl ?_); go_loud (refine wpList_copy_splice rfl (.tmp 31) (.tmp 32) 22 22 rfl 3 Try.underlying22 (by kernel_rfl) (some ⟨g, 0, none⟩) (some ad) n cap 1 c0 rfl rfl g 0 (st n x 0 D) 3 HBLK.out [.int .i64 x] (by show 1 = min 1 n; omega) (fun _ => ⟨rfl, ad, rfl, ?_⟩) (by rw [st_len (Nat.zero_le _)]; show 0 + 1 ≤ _; omega) (by simp [Value.oneCell']) w.heap.size w HB.out hbase ?_)
             · intro i v hi
               cases i with
               | zero => obtain rfl : Value.int .i64 x = v := by simpa using hi
                         exact (HB.out.cell (World.block_lt_of_cell? w _ HX.out)).trans HX.out
               | succ i => simp at hi
             intro w2 hcell hb2
             have HBLK2 := Aside0.mk (hcell.out)
             rw [show splice (st n x 0 D) 0 [Value.int IntKind.i64 x] = st n x 1 D from st_splice (m := 1) (by omega)] at HBLK2
             have HB2 := Aside0.mk hb2
             clear hcell hb2 HBLK HB))
        go_loopg [8] n (fun kq v8 w' => ∃ j : Nat, 1 ≤ j ∧ j ≤ n ∧ n - j ≤ kq ∧ v8 = .int .i64 j ∧ Aside0 (w'.heap[g]? = some (.cells (st n x j D).toArray 3 (0, 0))) ∧ Aside0 (Below w.heap.size w w'))
        case atStart => exact ⟨1, Nat.le_refl _, hn1, by omega, by first | rfl | (simp; done), ⟨HBLK2.out⟩, ⟨HB2.out⟩⟩
        case round =>
          clear HBLK2 HB2
          obtain ⟨j, hj1, hjn, hjk, rfl, HBLK, HB⟩ := hrel
          by_cases hlt : j < n
          · have h1 : (0 : Int) ≤ (j : Int) := by omega
            have h2 : (j : Int) ≤ (n : Int) := by omega
            have h3 : (j : Int) < (n : Int) := by omega
            have h4 : (j : Int) ≤ (cap : Int) := by omega
            have h5 : (n : Int) ≤ (cap : Int) := by omega
            have h6 : ¬ cap = j := by omega
            go_wp2
            have HBLKd : Aside0 (wr.drew.heap[g]? = some (.cells (st n x j D).toArray 3 (0, 0))) := ⟨HBLK.out⟩
            have HBd := Aside0.mk (below_drew HB.out)
            go_region_law (refine step_copy_splice rfl (.tmp 41) (.tmp 44) 22 22 rfl 3 Try.underlying22 (by kernel_rfl) (some ⟨g, j, none⟩) (some ⟨g, 0, none⟩) (n - j) (cap - j) j cap (by simp [Act.eval, Act.put]) (by simp [Act.eval, Act.put]) g j (st n x j D) 3 HBLKd.out (List.replicate (min j (n - j)) (.int .i64 x)) (by rw [List.length_replicate]) (fun _ => ⟨rfl, ⟨g, 0, none⟩, rfl, st_reads HBLKd.out (by omega)⟩) (by rw [st_len (by omega), List.length_replicate]; omega) (fun v hv => by rw [List.eq_of_mem_replicate hv]; rfl) w.heap.size w HBd.out hbase ?_; intro w4 hg4 hb4)
            have HB4 := Aside0.mk hb4
            have HG4 := Aside0.mk hg4.out
            rw [st_splice (by omega)] at HG4
            clear hb4 hg4 HBLKd HBd HBLK HB
            generalize hq : min j (n - j) = q at HG4 ⊢
            have hq1 : j + q ≤ n := by omega
            have hq2 : 1 ≤ q := by omega
            (try simp only [List.length_replicate, hq])
            clear hq
            go_wp2
            go_roundg (n - (j + q))
            case measure => omega
            case rel => exact ⟨j + q, by omega, by omega, by omega, (by rw [i64_w, show wrap64 ((j : Int) + (q : Int)) = ((j + q : Nat) : Int) from by unfold wrap64; omega]), ⟨HG4.out⟩, ⟨HB4.out⟩⟩
          · obtain rfl : j = n := by omega
            go_wp2
            go_ret
            exact ⟨_, rfl, st_own hbase HBLK.out hc1 hc2 HDD.out, HB.out⟩
      · rw [if_neg h3] at h; cases h
    · rw [if_neg h2] at h; cases h
  · rw [if_neg h1] at h; cases h

end Go.Proofs.Ytdpdmhjmmpncoaa.P
