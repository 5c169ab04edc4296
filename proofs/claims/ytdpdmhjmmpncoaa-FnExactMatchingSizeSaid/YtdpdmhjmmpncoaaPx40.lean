-- Written by a program of this session (wip/mp.py), which runs the kit's print with contracts of the session's own.
import Derived.Test.YtdpdmhjmmpncoaaPx0
import Derived.Test.YtdpdmhjmmpncoaaPx1
import Derived.Test.YtdpdmhjmmpncoaaPx32
import Derived.Test.YtdpdmhjmmpncoaaPx33
import Derived.Test.YtdpdmhjmmpncoaaPx36
namespace Go.Proofs.Ytdpdmhjmmpncoaa.P
open Go.RowKit Go.Proofs.YtdpdmhjmmpncoaaW.PrintWords Go.Proofs.YtdpdmhjmmpncoaaW.PrintLast Go.Proofs.YtdpdmhjmmpncoaaW.PrintMore
attribute [local go_sem] max2_int min2_int max_two min_two max_three min_three max_four min_four   -- for this text's walks alone
set_option linter.unusedVariables false
set_option linter.unusedSimpArgs false

/-! ### impl_Graph_matching: function 76 -/
-- BY HAND
theorem wpListIn_append_at {F : Fence} {n : Nat} {P : Program} (w : World) {ops : Array Oper} {rest : List Oper} {o : Oper} {a : Act} {Q : Exit → Act → World → Prop}
    (hg : o.guard = none) (s x : Operand) (t : TypeId) (hop : o.op = Op.call { callee := Callee.builtin Builtin.append, args := #[s, x], argTypes := #[t, t] })
    (base : Nat) (e : TypeId) (i : TypeInfo) (z : Value) (size bytes : Nat) (h1 : P.underlying t = some (.slice e)) (h2 : P.info? e = some i) (h3 : i.zero = some z) (h4 : i.size = size) (h5 : i.bytes = bytes) (h6 : z.cells.size = size) (h7 : 0 < size)
    (v : Value) (k : Nat) (xs : List Value) (hs : a.eval s = v) (hown : w.ownsRow base e size v k xs) (ad : Addr) (m c : Nat) (news : List Value) (hx : a.eval x = .slice (some ad) m c) (hn : news.length = m * size)
    (hc : ∀ j u, news[j]? = some u → w.cell? (ad.add j) = some u) (h1c : ∀ u ∈ news, u.oneCell' = true) (b1 : k + m ≤ maxLen) (b2 : (k + m) * bytes ≤ 140737488355328) (b3 : base ≤ w.heap.size)
    (hK : ∀ v' w', w'.ownsRow base e size v' (k + m) (xs ++ news) → w.grownBy w' v.ownBlock → (v'.ownBlock = v.ownBlock ∨ v'.ownBlock = some w.heap.size) → wpListIn F n P ops Q rest (a.put o.dst v') w') :
    wpListIn F n P ops Q (o :: rest) a w := by
  refine wpListIn_plain hg fun K hK' => ?_
  obtain ⟨v', w', hrun, r1, r2, r3, r4⟩ := run_append_own_at (P := P) w base t o.type e i z size bytes h1 h2 h3 h4 h5 h6 h7 v k xs hown ad m c news hn hc h1c b1 b2 b3
  unfold Oper.wpIn
  refine ⟨?_, ?_⟩
  · simp [Oper.about, hop, resolve, Target.leads, Sem.run_pure]
  · rw [Oper.semAt_plain F _ _ (by rw [hop]; intro c hc'; cases hc')]
    simp [execOp, hop, resolve, invoke, builtin, hs, hx, hrun, Result.andThen]
    exact hK' _ _ (hK v' w' r1 r2 r4)
theorem S_append_in {F : Fence} {fn : Nat} {P : Program} {ops : Array Oper} {rest : List Oper} {o : Oper} {a : Act} {Q : Exit → Act → World → Prop} {α : Type} (d : Kd α) {w0 W : World} (base : Nat) (hgd : o.guard = none) (s x : Operand) (t e : TypeId) (z : Value) (bytes : Nat)
    (ho : o.op = .call { callee := .builtin .append, args := #[s, x], argTypes := #[t, t] })
    (ht : P.underlying t = some (.slice e)) (hinfo : (P.info? e).map (fun i => (i.zero, i.size, i.bytes)) = some (some z, d.sz, bytes)) (hz : z.cells.size = d.sz) (hs0 : 0 < d.sz) (hb0 : 0 < bytes)
    (v : Value) (xs : List α) (p : α) (cs : List Value) (ok okp : Nat → Prop) (hs : a.eval s = v) (hx : a.eval x = .slice (some ⟨W.heap.size, 0, none⟩) 1 1) (hp : d.M W base okp p cs) (hokp : ∀ k, okp k → ok k ∧ some k ≠ v.ownBlock) (hfresh : ∀ k, W.heap.size ≤ k → ok k)
    (HO : Kd.S d e W base (fun k => ok k ∧ ¬ okp k) v xs) (HB : Below base w0 W) (hbase : base ≤ W.heap.size) (hl : (xs.length + 1) * bytes ≤ 140737488355328)
    (h : ∀ v1 w1, Kd.S d e w1 base ok v1 (xs ++ [p]) → Below base w0 w1 → W.grownBy w1 v.ownBlock → (v1.ownBlock = v.ownBlock ∨ ∃ b, v1.ownBlock = some b ∧ W.heap.size ≤ b) → wpListIn F fn P ops Q rest (a.put o.dst v1) w1) :
    wpListIn F fn P ops Q (o :: rest) a (W.alloc (.cells cs.toArray e)) := by
  obtain ⟨f, hf, hR⟩ := Kd.S_tag HO xs.length okp (fun _ hk h2 => h2.2 hk)
  obtain ⟨h0, inner, hown, hr⟩ := Kd.R_mono hR (fun _ hk => hk.1)
  rw [List.length_zipIdx] at hown
  obtain ⟨i0, hi, hzz⟩ := Option.map_eq_some_iff.1 hinfo
  simp only [Prod.mk.injEq] at hzz
  obtain ⟨hz0, hz1, hz2⟩ := hzz
  have hlen : xs.length + 1 ≤ 140737488355328 := Nat.le_trans (Nat.le_mul_of_pos_right _ hb0) hl
  have hcl : cs.length = d.sz := d.K_len (d.K_of_M hp)
  refine wpListIn_append_at (W.alloc (.cells cs.toArray e)) hgd s x t ho base e i0 z d.sz bytes ht hi hz0 hz1 hz2 hz hs0 v xs.length inner hs (hown.alloc _) ⟨W.heap.size, 0, none⟩ 1 1 cs hx (by rw [hcl]; simp)
    (by simpa using World.news_of_block (cs := cs.toArray) (t := e) (fr := (0, 0)) (heap_alloc_new W (.cells cs.toArray e))) (d.K_one (d.K_of_M hp)) (by simp only [maxLen]; omega) hl (by simp; omega) ?_
  intro v1 w1 hown1 hg1 hat1
  have hg := World.grownBy.trans (World.grownBy_alloc W (.cells cs.toArray e) v.ownBlock) hg1
  have hat : v1.ownBlock = v.ownBlock ∨ ∃ b, v1.ownBlock = some b ∧ W.heap.size ≤ b := by
    rcases hat1 with hat | hat
    · exact .inl hat
    · exact .inr ⟨_, hat, by simp⟩
  have hr1 := Kd.R_appended (d := Kd.tag f d) (xs := xs.zipIdx) (p := (p, xs.length)) h0 hr (d.M_mono (fun k hk => ⟨hk, hf k hk⟩) hp) hokp hfresh (by rw [List.length_zipIdx]; exact hown1) hg hat
  rw [← Kd.zip_snoc] at hr1
  exact h v1 w1 ⟨f, hr1⟩ ((HB.alloc hbase _).grown hg1 (by simp; omega) (own_base hown)) hg hat
section
open Go.Shelf Go.Sort
def firstsM (out : List (List Int)) : Bool := decide ((out.map fun r => rd r 0).Nodup)
def sortM (out : List (List Int)) : List (List Int) := out.mergeSort fun a b => decide (rd a 0 ≤ rd b 0)
section
variable {α : Type} [Inhabited α] {enc : α → Value}
theorem holds_of_blockE {w : World} {g : Nat} {cur : Array Value} {e : TypeId} {ss : List α} (hb : w.heap[g]? = some (.cells cur e (0, 0))) (ht : cur.toList.take ss.length = ss.map enc) : Holds enc w g 0 ss.toArray := by
  intro j hj
  have hj' : j < ss.length := by simpa using hj
  refine ⟨?_, by simp [World.frozen?, hb]⟩
  have h1 : (cur.toList.take ss.length)[j]? = (ss.map enc)[j]? := by rw [ht]
  rw [List.getElem?_take_of_lt hj'] at h1
  simp only [World.cell?, hb, Nat.zero_add]
  simp only [Option.isSome_none, Bool.false_eq_true, if_false]
  rw [← Array.getElem?_toList, h1]
  simp [hj']
theorem heap_sortedE {w : World} {g n : Nat} {os : Array Obj} {cur : Array Value} {e : TypeId} {fr : Nat × Nat} (d : Array α) (hb : w.heap[g]? = some (.cells cur e fr)) :
    (sortWorld enc w g 0 n d os).heap[g]? = some (.cells (putCells enc 0 d cur) e fr) := by
  have hg : g < w.heap.size := (Array.getElem?_eq_some_iff.1 hb).1
  unfold sortWorld
  rw [heap_grow_old _ _ (by simpa using hg)]
  simp [putRow, mapBlock, Sort.ahead, Array.getElem?_modify, hb, onCells]
theorem grownBy_sortedE {w : World} {g n : Nat} {os : Array Obj} (d : Array α) : w.grownBy (sortWorld enc w g 0 n d os) (some g) := by
  unfold sortWorld
  refine ⟨rfl, rfl, rfl, by simp, fun k hk hne => ?_⟩
  rw [heap_grow_old _ _ (by simpa using hk)]
  have : g ≠ k := fun e => hne (by rw [e])
  simp [putRow, mapBlock, Sort.ahead, Array.getElem?_modify, this]
theorem take_putCellsE (cur : Array Value) (ts : List α) (h : ts.length ≤ cur.size) : (putCells enc 0 ts.toArray cur).toList.take ts.length = ts.map enc := by
  apply List.ext_getElem?
  intro j
  by_cases hj : j < ts.length
  · rw [List.getElem?_take_of_lt hj, Array.getElem?_toList]
    simp [putCells, hj, show j < cur.size by omega]
  · rw [List.getElem?_take_eq_none (by omega), List.getElem?_eq_none (by simp; omega)]
end
theorem nodup_at {l : List Int} (h : l.Nodup) {i j : Nat} (hi : i < l.length) (hj : j < l.length) (e : l[i] = l[j]) : i = j := by
  have hp := List.pairwise_iff_getElem.1 h
  rcases Nat.lt_trichotomy i j with c | c | c
  · exact absurd e (hp i j hi hj c)
  · exact c
  · exact absurd e.symm (hp j i hj hi c)
theorem compare_eq {a b : List Int} (ha : a.length = 2) (hb : b.length = 2) (h : rd a 0 = rd b 0 → a = b) : slices_Compare_int_int.f 3 a b = some (Lib.compareInt (rd a 0) (rd b 0)) := by
  have hc : ∀ x y, cmp_Compare_int.f x y = some (Lib.compareInt x y) := fun x y => by
    unfold cmp_Compare_int.f cmp_isNaN_int.f Lib.compareInt
    by_cases h1 : x < y
    · simp [h1]
    · by_cases h2 : y < x <;> simp [h1, h2]
  unfold slices_Compare_int_int.f
  rw [slices_Compare_int_int.l0, if_pos (by omega), if_pos (by omega), if_pos (by omega), if_neg (by omega), if_pos (by omega), hc]
  simp only [Option.bind_some]
  by_cases c : Lib.compareInt (rd a 0) (rd b 0) = 0
  · rw [if_pos c]
    have e : rd a 0 = rd b 0 := by
      unfold Lib.compareInt at c
      by_cases h1 : rd a 0 < rd b 0
      · simp [h1] at c
      · by_cases h2 : rd b 0 < rd a 0
        · simp [h1, h2] at c
        · omega
    obtain rfl := h e
    have e1 : wrap64 (0 + 1) = 1 := by unfold wrap64; decide
    have e2 : wrap64 (1 + 1) = 2 := by unfold wrap64; decide
    have hs : ∀ x, Lib.compareInt x x = 0 := fun x => by unfold Lib.compareInt; simp
    rw [e1, slices_Compare_int_int.l0, if_pos (by omega), if_pos (by omega), if_pos (by omega), if_neg (by omega), if_pos (by omega), hc, hs]
    simp only [Option.bind_some, if_true]
    rw [e2, slices_Compare_int_int.l0, if_neg (by omega), if_neg (by omega), hs]
  · rw [if_neg c]
theorem ltK (x y : Int) : decide (Lib.compareInt x y < 0) = decide (x < y) := by
  unfold Lib.compareInt
  by_cases h1 : x < y
  · simp [h1]
  · by_cases h2 : y < x <;> simp [h1, h2]
theorem swoF {α : Type} (p : α → Int) : SWO (ltOf fun x y => Lib.compareInt (p x) (p y)) where
  irrefl x := by unfold ltOf; rw [ltK]; simp
  trans x y z h1 h2 := by unfold ltOf at *; rw [ltK] at *; simp at *; omega
  ntrans x y z h1 h2 := by unfold ltOf at *; rw [ltK] at *; simp at *; omega
/-- A permutation of the places, sorted by first numbers: the rows are sorted. -/
theorem sort_places (rows : List (List Int)) (hf : firstsM rows = true) {d' : Array (Fin rows.length)} [Inhabited (Fin rows.length)] (hP : PermIn 0 (List.finRange rows.length).toArray.size (List.finRange rows.length).toArray d') (hS : SortedIn (ltOf fun x y => Lib.compareInt (rd rows[x] 0) (rd rows[y] 0)) 0 (List.finRange rows.length).toArray.size d') :
    d'.toList.Perm (List.finRange rows.length) ∧ d'.toList.map (fun j => rows[j]) = sortM rows := by
  obtain ⟨hsz, _, hperm⟩ := hP
  have e1 : d'.extract 0 (List.finRange rows.length).toArray.size = d' := by rw [← hsz]; exact Array.extract_size
  rw [e1, Array.extract_size] at hperm
  have hperm : d'.toList.Perm (List.finRange rows.length) := hperm
  refine ⟨hperm, ?_⟩
  have hrows : (List.finRange rows.length).map (fun j => rows[j]) = rows := by
    apply List.ext_getElem
    · simp
    · intro i h1 h2; simp
  have hp2 : (d'.toList.map (fun j => rows[j])).Perm rows := by
    have := hperm.map (fun j => rows[j])
    rwa [hrows] at this
  have hnd : (rows.map fun r => rd r 0).Nodup := by unfold firstsM at hf; simpa using hf
  unfold sortM
  refine List.Perm.eq_of_pairwise (le := fun x y => rd x 0 ≤ rd y 0) ?_ ?_ ?_ (hp2.trans (List.mergeSort_perm _ _).symm)
  · intro a b ha hb h1 h2
    have ha := hp2.mem_iff.1 ha
    have hb := (List.mergeSort_perm _ _).mem_iff.1 hb
    obtain ⟨i, hi, rfl⟩ := List.mem_iff_getElem.1 ha
    obtain ⟨j, hj, rfl⟩ := List.mem_iff_getElem.1 hb
    have : i = j := by
      refine nodup_at hnd (by simpa using hi) (by simpa using hj) ?_
      rw [List.getElem_map, List.getElem_map]; omega
    subst this; rfl
  · rw [List.pairwise_map, List.pairwise_iff_getElem]
    intro i j hi hj hij
    have hi' : i < d'.size := by simpa using hi
    have hj' : j < d'.size := by simpa using hj
    have := hS i j (Nat.zero_le _) hij (by omega)
    rw [getElem!_pos d' j hj', getElem!_pos d' i hi'] at this
    unfold ltOf at this
    rw [ltK] at this
    simp at this
    simpa using this
  · have := List.pairwise_mergeSort (le := fun (x y : List Int) => decide (rd x 0 ≤ rd y 0)) (fun a b c h1 h2 => by simp at *; omega) (fun a b => by simp; omega) rows
    exact this.imp (fun h => by simpa using h)
set_option maxHeartbeats 4000000 in
theorem sort_walk (base : Nat) (ok : Nat → Prop) (vo : Value) (rows : List (List Int)) (W : World) (hS : Kd.S (Kd.slice 3 (Kd.int .i64)) 22 W base ok vo rows) (hw : ∀ r ∈ rows, r.length = 2) (hf : firstsM rows = true) (hlen : rows.length ≤ 1000) :
    Calls Try.prog 90 #[vo, .func (.func 91) #[] #[]] W fun e W' => e = .returned (.tuple #[]) ∧ Kd.S (Kd.slice 3 (Kd.int .i64)) 22 W' base ok vo (sortM rows) ∧ W.grownBy W' vo.ownBlock := by
  obtain ⟨f, h0, inner, hown, hr⟩ := hS
  rw [List.length_zipIdx] at hown
  rcases hown.2 with ⟨rfl, hn⟩ | ⟨g, cap, cur, rfl, hbase, hb, h1, h2, h3, h4⟩
  · obtain rfl : rows = [] := List.eq_nil_of_length_eq_zero hn
    refine (Try.slices_SortFunc_none none 0 _ W).mono ?_
    rintro e w' ⟨rfl, rfl⟩
    exact ⟨rfl, (by unfold sortM; rw [List.mergeSort_nil]; exact Kd.S_nil _ _ _ _ _), rfl, rfl, rfl, Nat.le_refl _, fun _ _ _ => rfl⟩
  · by_cases hz : rows.length = 0
    · obtain rfl : rows = [] := List.eq_nil_of_length_eq_zero hz
      refine (Try.slices_SortFunc_none _ cap _ W).mono ?_
      rintro e w' ⟨rfl, rfl⟩
      refine ⟨rfl, ⟨f, h0, inner, ?_, ?_⟩, rfl, rfl, rfl, Nat.le_refl _, fun _ _ _ => rfl⟩
      · unfold sortM; rw [List.mergeSort_nil]; exact hown
      · unfold sortM; rw [List.mergeSort_nil]; exact hr
    · haveI : Inhabited (Fin rows.length) := ⟨⟨0, by omega⟩⟩
      have hsz : ∀ f' : Nat → Nat, (Kd.tag f' (Kd.slice 3 (Kd.int .i64))).sz = 1 := fun _ => rfl
      have hil : inner.length = rows.length := by have := hr.1; rw [hsz, List.length_zipIdx] at this; omega
      have hM : ∀ j : Fin rows.length, ∃ ve, inner[j.1]? = some ve ∧ Kd.R (Kd.int .i64) 3 W base (fun k => (ok k ∧ some k ≠ (Value.slice (some ⟨g, 0, none⟩) rows.length cap).ownBlock) ∧ f k = j.1) ve rows[j] := fun j => by
        obtain ⟨ve, e1, hR⟩ := hr.2 j.1 (rows[j], j.1) (Kd.zip_at (by rw [List.getElem?_eq_getElem j.2]; rfl))
        refine ⟨ve, ?_, hR⟩
        have : ((inner.drop (j.1 * 1)).take 1)[0]? = some ve := by rw [show (Kd.tag f (Kd.slice 3 (Kd.int .i64))).sz = 1 from rfl] at e1; rw [e1]; rfl
        rw [Nat.mul_one, List.getElem?_take_of_lt (by omega), List.getElem?_drop, Nat.add_zero] at this
        exact this
      generalize henc : (fun j : Fin rows.length => inner.getD j.1 (.slice none 0 0)) = enc
      have hE : ∀ j : Fin rows.length, Kd.R (Kd.int .i64) 3 W base (fun k => (ok k ∧ some k ≠ (Value.slice (some ⟨g, 0, none⟩) rows.length cap).ownBlock) ∧ f k = j.1) (enc j) rows[j] := fun j => by
        obtain ⟨ve, e1, hR⟩ := hM j
        rw [← henc]; simp only [List.getD_eq_getElem?_getD, e1]; exact hR
      have hin : inner = (List.finRange rows.length).map enc := by
        apply List.ext_getElem
        · simp [hil]
        · intro i a1 a2
          have e5 := congrFun henc ⟨i, by omega⟩
          simp only [List.getElem_map, List.getElem_finRange]
          refine Eq.trans ?_ e5
          simp [List.getElem?_eq_getElem a1]
      have one : OneCell enc := fun j => by
        obtain ⟨A, c, e⟩ := Kd.R_slice (hE j); rw [e]; rfl
      have hgr : ∀ (m : Nat) (os : Array Obj) (dk : Array (Fin rows.length)), W.grownBy (sortWorld enc W g 0 m dk os) (some g) := fun m os dk => grownBy_sortedE dk
      have hcmp : CmpReads Try.prog 91 #[] enc (fun x y => Lib.compareInt (rd rows[x] 0) (rd rows[y] 0)) g 0 (List.finRange rows.length).toArray.size W := fun m os dk hs x y => by
        have hx := Kd.R_grown (hE x) (hgr m os dk) (fun k hk e1 => hk.1.2 (by rw [e1]; rfl))
        have hy := Kd.R_grown (hE y) (hgr m os dk) (fun k hk e1 => hk.1.2 (by rw [e1]; rfl))
        obtain ⟨Ax, cx, ex⟩ := Kd.R_slice hx
        obtain ⟨Ay, cy, ey⟩ := Kd.R_slice hy
        rw [ex] at hx
        rw [ey] at hy
        have hrx := Kd.R_reads' hx
        have hry := Kd.R_reads' hy
        have hnd : (rows.map fun r => rd r 0).Nodup := by unfold firstsM at hf; simpa using hf
        have := slices_Compare_int_int.calls 3 Ax cx rows[x] Ay cy rows[y] _ (sortWorld enc W g 0 m dk os) hrx.2.2 hrx.2.1 hry.2.2 hry.2.1 (compare_eq (hw _ (List.getElem_mem x.2)) (hw _ (List.getElem_mem y.2)) (fun e => by
          have : x.1 = y.1 := nodup_at hnd (by simp) (by simp) (by rw [List.getElem_map, List.getElem_map]; exact e)
          rw [Fin.ext this]))
        rw [Array.append_empty, ex, ey]
        exact this.mono fun e w' ⟨e1, ⟨q, e2⟩⟩ => ⟨e1, q, e2⟩
      have ht : cur.toList.take (List.finRange rows.length).length = (List.finRange rows.length).map enc := by
        rw [← hin, List.length_finRange, ← Nat.mul_one rows.length]
        exact h4
      have hs : (List.finRange rows.length).toArray.size = rows.length := by simp
      have hc := Try.slices_SortFunc enc one (fun x y => Lib.compareInt (rd rows[x] 0) (rd rows[y] 0)) (swoF fun x : Fin rows.length => rd rows[x] 0) 91 #[] g 0 cap (List.finRange rows.length).toArray W (enters_of Try.func91 (by kernel_rfl) rfl) hcmp.lays (holds_of_blockE hb ht) (Array.getElem?_eq_some_iff.1 hb).1 (by rw [hs]; omega)
      rw [hs] at hc
      refine hc.mono ?_
      rintro e w' ⟨rfl, d', m, os, hPm, hSo, rfl⟩
      obtain ⟨hp, hq⟩ := sort_places rows hf (by rw [hs]; exact hPm) (by rw [hs]; exact hSo)
      have hdl : d'.toList.length = rows.length := by rw [hp.length_eq, List.length_finRange]
      have hsl : (sortM rows).length = rows.length := by rw [← hq, List.length_map, hdl]
      refine ⟨rfl, ⟨fun k => if h : f k < rows.length then d'.toList.idxOf ⟨f k, h⟩ else rows.length, h0, d'.toList.map enc, ?_, ?_, ?_⟩, hgr m os d'⟩
      · rw [List.length_zipIdx, hsl]
        exact ⟨by simp [hdl, hsz], .inr ⟨g, cap, _, rfl, hbase, heap_sortedE _ hb, h1, h2, by rw [hsz]; rw [hsz] at h3; simp [putCells, h3], by
          rw [hsz, Nat.mul_one]
          have := take_putCellsE (enc := enc) cur d'.toList (by rw [hdl]; simp [h3, hsz]; omega)
          rw [hdl] at this
          exact this⟩⟩
      · rw [List.length_map, List.length_zipIdx, hsl, hdl, hsz, Nat.mul_one]
      · intro j p hj
        have hjl : j < rows.length := by
          have := (List.getElem?_eq_some_iff.1 hj).1
          rw [List.length_zipIdx, hsl] at this; exact this
        have hp1 : p = (rows[d'.toList[j]'(by omega)], j) := by
          rw [List.getElem?_zipIdx, ← hq, List.getElem?_map, List.getElem?_eq_getElem (by omega)] at hj
          simp at hj
          exact hj.symm
        subst hp1
        refine ⟨enc (d'.toList[j]'(by omega)), ?_, Kd.R_mono (Kd.R_grown (hE _) (hgr m os d') (fun k hk e1 => hk.1.2 (by rw [e1]; rfl))) (fun k hk => ⟨hk.1, ?_⟩)⟩
        · rw [hsz, Nat.mul_one]
          rw [List.drop_eq_getElem_cons (by rw [List.length_map]; omega), List.take_succ_cons, List.take_zero, List.getElem_map]
        · show (if h : f k < rows.length then d'.toList.idxOf ⟨f k, h⟩ else rows.length) = j
          have e1 := hk.2
          rw [dif_pos (by rw [e1]; exact Fin.isLt _)]
          have e2 : (⟨f k, by rw [e1]; exact Fin.isLt _⟩ : Fin rows.length) = d'.toList[j]'(by omega) := Fin.ext e1
          rw [e2]
          exact List.Nodup.idxOf_getElem (hp.nodup_iff.2 (List.nodup_finRange _)) j (by omega)
end
section
open Go.Shelf Go.Proofs.Ytdpdmhjmmpncoaa.Bn
attribute [local go_sem] Oper.semAt_some
/-- Does a set hold a button? (as impl.has) -/
def hasM (s t : Int) : Bool := (Go.bits .and .i64 (shr .i64 s t) 1) == 1
theorem hasM_good (s : Int) {t : Int} (h : 0 ≤ t) : impl_has.f s t = some (hasM s t) := by unfold impl_has.f hasM; rw [if_pos h]
/-- One round of the program's matching. -/
def mstep (par : List Int) (st : Int × List (List Int)) (i : Int) : Int × List (List Int) :=
  if rd par i < 0 then st else if hasM st.1 i = true then st else if hasM st.1 (rd par i) = true then st else
    (Go.bits .or .i64 st.1 (Go.bits .or .i64 (shl .i64 1 i) (shl .i64 1 (rd par i))), st.2 ++ [[min i (rd par i), max i (rd par i)]])
/-- Buttons and parents that the walk is told of. -/
def okM (ord par : List Int) : Bool := (ord.all fun i => decide (0 ≤ i) && decide (i < (par.length : Int)) && decide (i < 60) && decide (rd par i < 60)) && decide (ord.length ≤ 1000)
def impl_Graph_matching.f (k : Nat) (l0_0 : List Int) (a0_1 : Bool) : Option (List (List Int)) :=
  (impl_Graph_reached.f k l0_0 a0_1).bind fun t => if okM t.1 t.2 = true then (if firstsM (t.1.foldr (fun i st => mstep t.2 st i) (0, [])).2 = true then some (sortM (t.1.foldr (fun i st => mstep t.2 st i) (0, [])).2) else none) else none
theorem impl_Graph_matching.mono : ∀ l0_0 a0_1 k, LeO (impl_Graph_matching.f k l0_0 a0_1) (impl_Graph_matching.f (k + 1) l0_0 a0_1) := fun l0_0 a0_1 k => LeO.bind (impl_Graph_reached.mono l0_0 a0_1 k) (fun _ => LeO.refl _)
def foldP (ord par : List Int) (pre : List (Fin ord.length)) : Int × List (List Int) := pre.foldl (fun st x => mstep par st (atI ord x)) (0, [])
theorem foldP_snoc (ord par : List Int) (pre : List (Fin ord.length)) (x : Fin ord.length) : foldP ord par (pre ++ [x]) = mstep par (foldP ord par pre) (atI ord x) := by simp [foldP]
theorem map_atI (ord : List Int) : (List.finRange ord.length).map (atI ord) = ord := by
  apply List.ext_getElem
  · simp
  · intro i h1 h2
    simp [atI, h2]
theorem foldP_all (ord par : List Int) : foldP ord par (dn ord.length ord.length) = ord.foldr (fun i st => mstep par st i) (0, []) := by
  rw [dn_all]
  unfold foldP
  rw [List.foldl_reverse]
  have := List.foldr_map (f := atI ord) (g := fun i st => mstep par st i) (l := List.finRange ord.length) (init := ((0, []) : Int × List (List Int)))
  rw [map_atI] at this
  exact this.symm
theorem mstep_two (par : List Int) (st : Int × List (List Int)) (i : Int) (h : ∀ r ∈ st.2, r.length = 2) : ∀ r ∈ (mstep par st i).2, r.length = 2 := by
  unfold mstep
  split
  · exact h
  · split
    · exact h
    · split
      · exact h
      · intro r hr
        rcases List.mem_append.1 hr with hr | hr
        · exact h r hr
        · rw [List.mem_singleton.1 hr]; rfl
theorem mstep_len (par : List Int) (st : Int × List (List Int)) (i : Int) : (mstep par st i).2.length ≤ st.2.length + 1 := by
  unfold mstep
  split
  · omega
  · split
    · omega
    · split
      · omega
      · simp
theorem foldr_two (par : List Int) : ∀ l : List Int, ∀ r ∈ (l.foldr (fun i st => mstep par st i) (0, [])).2, r.length = 2
  | [], r, h => by simp at h
  | i :: l, r, h => mstep_two par _ i (foldr_two par l) r h
theorem foldr_len (par : List Int) : ∀ l : List Int, (l.foldr (fun i st => mstep par st i) (0, [])).2.length ≤ l.length
  | [] => by simp
  | i :: l => by
    have h1 := foldr_len par l
    have h2 := mstep_len par (l.foldr (fun i st => mstep par st i) (0, [])) i
    simp only [List.foldr_cons, List.length_cons]
    omega
theorem foldP_len (ord par : List Int) (pre : List (Fin ord.length)) : (foldP ord par pre).2.length ≤ pre.length := by
  have h : ∀ (pre : List (Fin ord.length)) (st : Int × List (List Int)), (pre.foldl (fun st x => mstep par st (atI ord x)) st).2.length ≤ st.2.length + pre.length := by
    intro pre
    induction pre with
    | nil => intro st; simp
    | cons x pre ih =>
      intro st
      have h1 := ih (mstep par st (atI ord x))
      have h2 := mstep_len par st (atI ord x)
      simp only [List.foldl_cons, List.length_cons]
      omega
  have := h pre (0, [])
  simpa [foldP] using this
theorem okM_len {ord par : List Int} (h : okM ord par = true) : ord.length ≤ 1000 := by
  simp only [okM, Bool.and_eq_true, decide_eq_true_eq] at h
  exact h.2
theorem okM_at {ord par : List Int} (h : okM ord par = true) (x : Fin ord.length) : 0 ≤ atI ord x ∧ atI ord x < (par.length : Int) ∧ atI ord x < 60 ∧ rd par (atI ord x) < 60 := by
  simp only [okM, Bool.and_eq_true, decide_eq_true_eq, List.all_eq_true] at h
  have hm : atI ord x ∈ ord := by
    unfold atI
    rw [List.getD_eq_getElem?_getD, List.getElem?_eq_getElem x.2]
    exact List.getElem_mem x.2
  have := h.1 _ hm
  exact ⟨this.1.1.1, this.1.1.2, this.1.2, this.2⟩
theorem ints_of_C {w : World} {A : Option Addr} {n : Nat} {zs : List Int} (h : Kd.C (Kd.int .i64) w A n zs) : Ints w.heap.size w A zs := by
  cases zs with
  | nil => exact .inl rfl
  | cons z zs =>
    refine .inr ?_
    have hn : n = (z :: zs).length := by have := h.1; simpa using this.symm
    obtain ⟨ad, rfl, hx⟩ := Kd.at_int h 0 (by omega) (by rw [hn]; simp)
    refine ⟨ad, rfl, ?_, fun j hj => ?_⟩
    · have := World.block_lt_of_cell? w _ hx
      rwa [Go.Proofs.Ytdpdmhjmmpncoaa.Bn.add_block] at this
    · obtain ⟨ad', e, hx⟩ := Kd.at_int h (j : Int) (by omega) (by rw [hn]; omega)
      injection e with e
      subst e
      rw [Int.toNat_natCast] at hx
      rw [hx]
      simp [rd]
theorem S_turn {α : Type} {d : Kd α} {e base : Nat} {ok : Nat → Prop} {v : Value} {xs : List α} {W W' : World} {row : Option Nat} (h : Kd.S d e W base ok v xs) (hg : W.grownBy W' row) (hr : ∀ r, row = some r → ∃ o : Obj, W.heap[r]? = some o ∧ o.isCells = false) : Kd.S d e W' base ok v xs :=
  Kd.S_mono (Kd.S_grown (Kd.S_bound h) hg (fun k hk e1 => by
    obtain ⟨o, ho, hc⟩ := hr k e1.symm
    obtain ⟨_, _, _, q, _, cells, hcl⟩ := hk
    rw [ho] at hcl; injection hcl with hcl; subst hcl; simp [Obj.isCells] at hc)) (fun k hk => hk.1)
theorem S_ok {α : Type} {d : Kd α} {e base : Nat} {ok : Nat → Prop} {v : Value} {xs : List α} {W : World} (h : Kd.S d e W base ok v xs) : ∀ k, v.ownBlock = some k → ok k := (Kd.S_R h).1
theorem S_cells {α : Type} {d : Kd α} {e base : Nat} {ok : Nat → Prop} {v : Value} {xs : List α} {W : World} (h : Kd.S d e W base ok v xs) : ∀ k, v.ownBlock = some k → ∃ cells t, W.heap[k]? = some (.cells cells t (0, 0)) := fun k hk => by
  obtain ⟨_, _, _, q, _, cells, hcl⟩ := (Kd.S_R (Kd.S_bound h)).1 k hk
  exact ⟨cells, q, hcl⟩
/-- What lies in memory within the loop. -/
structure JN (w2 : World) (vp vo : Value) (s : Int) (out : List (List Int)) (W : World) : Prop where
  pb : W.heap[w2.heap.size]? = some (.cells #[vp] 22 (0, 0))
  ob : W.heap[w2.heap.size + 2]? = some (.cells #[vo] 39 (0, 0))
  tb : W.heap[w2.heap.size + 3]? = some (.cells #[.int .i64 s] 3 (0, 0))
  sz : w2.heap.size + 4 < W.heap.size
  so : Kd.S (Kd.slice 3 (Kd.int .i64)) 22 W w2.heap.size (fun k => k ≠ w2.heap.size ∧ k ≠ w2.heap.size + 2 ∧ k ≠ w2.heap.size + 3 ∧ k ≠ w2.heap.size + 4) vo out
  bl : Below w2.heap.size w2 W
def JM (w2 : World) (vp : Value) (st : Int × List (List Int)) (W : World) : Prop := ∃ vo, JN w2 vp vo st.1 st.2 W
theorem JM_own (w2 : World) (vp : Value) (ord par : List Int) {B : Nat} (hB : w2.heap.size ≤ B) : OwnFrom B (fun pre W => JM w2 vp (foldP ord par pre) W) := by
  rintro s W W' row ⟨vo, J⟩ hg hr
  have hr' : ∀ r, row = some r → ∃ o : Obj, W.heap[r]? = some o ∧ o.isCells = false := fun r e => (hr r e).2
  exact ⟨vo, (grownBy_keeps_cells hg hr' J.pb rfl).trans J.pb, (grownBy_keeps_cells hg hr' J.ob rfl).trans J.ob, (grownBy_keeps_cells hg hr' J.tb rfl).trans J.tb, Nat.lt_of_lt_of_le J.sz hg.size, S_turn J.so hg hr', J.bl.grown hg J.bl.size (fun k e => Nat.le_trans hB (hr k e).1)⟩
theorem JN.drew {w2 : World} {vp vo : Value} {s : Int} {out : List (List Int)} {W : World} (J : JN w2 vp vo s out W) (m : Nat) : JN w2 vp vo s out (W.drewN m) := ⟨J.pb, J.ob, J.tb, J.sz, Kd.S_drewN J.so m, pw_below_drewN J.bl m⟩
theorem JN.put_t {w2 : World} {vp vo : Value} {s : Int} {out : List (List Int)} {W : World} (J : JN w2 vp vo s out W) (s' : Int) : JN w2 vp vo s' out (W.setCell ⟨w2.heap.size + 3, 0, none⟩ (.int .i64 s')) :=
  ⟨blk_far J.pb (by simp) _, blk_far J.ob (by simp) _, blk_put J.tb 0 _ rfl, by simpa using J.sz, Kd.S_far J.so (fun k hk => hk.2.2.1) _, J.bl.setCell (p := ⟨w2.heap.size + 3, 0, none⟩) (by simp) _⟩
/-- After an append: the row is another, behind its box. -/
theorem JN.put_o {w2 : World} {vp vo v1 : Value} {s : Int} {out out' : List (List Int)} {W w1 : World} (J : JN w2 vp vo s out W) (hg : W.grownBy w1 vo.ownBlock)
    (hS : Kd.S (Kd.slice 3 (Kd.int .i64)) 22 w1 w2.heap.size (fun k => k ≠ w2.heap.size ∧ k ≠ w2.heap.size + 2 ∧ k ≠ w2.heap.size + 3 ∧ k ≠ w2.heap.size + 4) v1 out') (hb : Below w2.heap.size w2 w1) : JN w2 vp v1 s out' (w1.setCell ⟨w2.heap.size + 2, 0, none⟩ v1) := by
  have hk := S_ok J.so
  exact ⟨blk_far (blk_grown J.pb hg (fun e => (hk _ e.symm).1 rfl)) (by simp) _, blk_put (blk_grown J.ob hg (fun e => (hk _ e.symm).2.1 rfl)) 0 _ rfl, blk_far (blk_grown J.tb hg (fun e => (hk _ e.symm).2.2.1 rfl)) (by simp) _,
    by have := hg.size; have := J.sz; simp; omega, Kd.S_far hS (fun k hk => hk.2.1) _, hb.setCell (p := ⟨w2.heap.size + 2, 0, none⟩) (by simp) _⟩
theorem JN.keeps {w2 : World} {vp vo : Value} {s : Int} {out : List (List Int)} {W w1 : World} (J : JN w2 vp vo s out W) (hg : W.grownBy w1 vo.ownBlock) : KeepsOthers W w1 ∧ KB w2.heap.size (w2.heap.size + 4) W w1 :=
  ⟨KeepsOthers.of_grownBy hg (fun j o e hj => by obtain ⟨cells, t, hc⟩ := S_cells J.so j e; rw [hc] at hj; injection hj with hj; subst hj; rfl),
   ⟨(Below.refl _ W).grown hg J.bl.size (fun k e => Kd.S_base J.so k e), hg.block _ J.sz (fun e => (S_ok J.so _ e.symm).2.2.2 rfl)⟩⟩
theorem KB_put {B : Nat} (W : World) (b : Nat) (h1 : B ≤ b) (h2 : B + 4 ≠ b) (v : Value) : KB B (B + 4) W (W.setCell ⟨b, 0, none⟩ v) := ⟨(Below.refl B W).setCell (p := ⟨b, 0, none⟩) h1 _, Below.heap_setCell _ _ _ _ h2⟩
theorem KB_drewN (B Bs : Nat) (W : World) (m : Nat) : KB B Bs W (W.drewN m) := ⟨pw_below_drewN (Below.refl _ _) m, rfl⟩
theorem keeps_drewN (W : World) (m : Nat) : KeepsOthers W (W.drewN m) := ⟨Nat.le_refl _, fun _ _ h _ => h⟩
theorem S_empty {α : Type} {d : Kd α} {e : Nat} (W : World) (base g : Nat) (ok : Nat → Prop) (h : W.heap[g]? = some (.cells #[] e (0, 0))) (hb : base ≤ g) (hok : ok g) : Kd.S d e W base ok (.slice (some ⟨g, 0, none⟩) 0 0) ([] : List α) :=
  ⟨fun _ => 0, fun k hk => by simp [Value.ownBlock] at hk; subst hk; exact hok, [], ⟨by simp, .inr ⟨g, 0, #[], rfl, hb, h, by simp, by simp, by simp, by simp⟩⟩, Reps.none _ _⟩
theorem JN.alloc {w2 : World} {vp vo : Value} {s : Int} {out : List (List Int)} {W : World} (J : JN w2 vp vo s out W) (o : Obj) : JN w2 vp vo s out (W.alloc o) := ⟨blk_alloc J.pb _, blk_alloc J.ob _, blk_alloc J.tb _, by have := J.sz; simp; omega, Kd.S_alloc J.so _, below_alloc J.bl _⟩
theorem JN.kb_alloc {w2 : World} {vp vo : Value} {s : Int} {out : List (List Int)} {W : World} (J : JN w2 vp vo s out W) (o : Obj) : KB w2.heap.size (w2.heap.size + 4) W (W.alloc o) := ⟨(Below.refl _ W).alloc J.bl.size o, Below.heap_alloc W o _ J.sz⟩
theorem R_two (W : World) (base : Nat) (x y : Int) (h : base ≤ W.heap.size) : (Kd.int .i64).R 3 (W.alloc (.cells #[.int .i64 x, .int .i64 y] 3)) base (fun k => k = W.heap.size) (.slice (some ⟨W.heap.size, 0, none⟩) 2 2) [x, y] :=
  ⟨fun k hk => by simp [Value.ownBlock] at hk; exact hk.symm, [.int .i64 x, .int .i64 y], ⟨(by first | rfl | exact Nat.le_refl _ | decide | (simp; done)), .inr ⟨W.heap.size, 2, _, rfl, h, blk_new W _, (by first | rfl | exact Nat.le_refl _ | decide | (simp; done)), (by first | rfl | exact Nat.le_refl _ | decide | (simp; done)), (by first | rfl | exact Nat.le_refl _ | decide | (simp; done)), (by first | rfl | exact Nat.le_refl _ | decide | (simp; done))⟩⟩, Reps.one (show Kd.M (Kd.int .i64) _ _ _ x [.int .i64 x] from rfl) (Reps.one (show Kd.M (Kd.int .i64) _ _ _ y [.int .i64 y] from rfl) (Reps.none _ _))⟩
theorem gate_app {F : Fence} {n : Nat} {P : Program} {ops : Array Oper} {rest : List Oper} {d : Option Tmp} {x y : Tmp} {tx ty t : TypeId} {pos : String} {af : Array Edge} {g : Option (Nat × Bool)} {a : Act} {W : World} {Q : Exit → Act → World → Prop}
    (h : wpListIn F n P ops Q ({ dst := d, op := .call { callee := .builtin .append, args := #[.tmp x, .tmp y], argTypes := #[tx, ty] }, type := t, pos := pos, after := af, guard := g } :: rest) a W) : wpListIn F n P ops Q ({ dst := d, op := .call { callee := .builtin .append, args := #[.tmp x, .tmp y], argTypes := #[tx, ty] }, type := t, pos := pos, after := af, guard := g } :: rest) a W := h
set_option maxRecDepth 100000 in
set_option maxHeartbeats 8000000 in
theorem match_tail {β : Type} (xs : List β) (l : Nat) (w2 W W3 : World) (vp : Value) (Av : Option Addr) (cv : Nat) (s : Int) (out : List (List Int)) (i p u v : Int) (hu : (if p < i then p else i) = u) (hv : (if i < p then p else i) = v) (I : List β → World → Prop) (hI : ∀ W', JM w2 vp (s, out ++ [[u, v]]) W' → I xs W') (u0 u1 u2 u3 u4 u6 u7 u10 u11 u12 u13 u14 u15 u16 u17 u18 u19 u20 u21 u22 u23 u24 u25 u26 u27 u28 u29 u30 u31 u32 u33 u34 u35 u36 u37 u38 u39 u40 u41 u42 : Value)
    (HL : Bn.Hid (out.length ≤ 1000)) (HJ3 : Bn.Hid (JN w2 vp (.slice Av out.length cv) s out W3)) (HK3 : Bn.Hid (KeepsOthers W W3 ∧ KB w2.heap.size (w2.heap.size + 4) W W3)) :
    Code.wpIn (Fence.wide.inRound l) 2 Try.prog (Code.region 8 #[{ dst := some 43, op := Op.load 39 (Operand.tmp 5), type := 39, pos := "l6_tree.go:142", after := #[], guard := none }, { dst := some 44, op := Op.move (Operand.tmp 8), type := 3, pos := "l6_tree.go:142", after := #[], guard := none }, { dst := some 45, op := Op.move (Operand.tmp 9), type := 3, pos := "l6_tree.go:142", after := #[], guard := none }, { dst := some 46, op := Op.call { callee := Callee.builtin Builtin.min, args := #[Operand.tmp 44, Operand.tmp 45], argTypes := #[3, 3] }, type := 3, pos := "l6_tree.go:142", after := #[{ on := 1, ground := Ground.data }, { on := 2, ground := Ground.data }], guard := none }, { dst := some 47, op := Op.move (Operand.tmp 8), type := 3, pos := "l6_tree.go:142", after := #[], guard := none }, { dst := some 48, op := Op.move (Operand.tmp 9), type := 3, pos := "l6_tree.go:142", after := #[], guard := none }, { dst := some 49, op := Op.call { callee := Callee.builtin Builtin.max, args := #[Operand.tmp 47, Operand.tmp 48], argTypes := #[3, 3] }, type := 3, pos := "l6_tree.go:142", after := #[{ on := 4, ground := Ground.data }, { on := 5, ground := Ground.data }], guard := none }, { dst := some 50, op := Op.buildSlice 22 2 #[(0, Operand.tmp 46), (1, Operand.tmp 49)], type := 22, pos := "l6_tree.go:142", after := #[{ on := 3, ground := Ground.data }, { on := 6, ground := Ground.data }], guard := none }, { dst := some 51, op := Op.buildSlice 39 1 #[(0, Operand.tmp 50)], type := 39, pos := "l6_tree.go:142", after := #[{ on := 7, ground := Ground.data }], guard := none }, { dst := some 52, op := Op.call { callee := Callee.builtin Builtin.append, args := #[Operand.tmp 43, Operand.tmp 51], argTypes := #[39, 39] }, type := 39, pos := "l6_tree.go:142", after := #[{ on := 0, ground := Ground.data }, { on := 8, ground := Ground.data }], guard := none }, { dst := none, op := Op.store 39 (Operand.tmp 5) (Operand.tmp 52), type := 0, pos := "l6_tree.go:142", after := #[{ on := 9, ground := Ground.data }, { on := 9, ground := Ground.chain }, { on := 0, ground := Ground.phase }, { on := 1, ground := Ground.phase }, { on := 2, ground := Ground.phase }, { on := 3, ground := Ground.phase }, { on := 4, ground := Ground.phase }, { on := 5, ground := Ground.phase }, { on := 6, ground := Ground.phase }, { on := 7, ground := Ground.phase }, { on := 8, ground := Ground.phase }, { on := 9, ground := Ground.phase }], guard := none }] false) (Exit.inBlock 1 (ownPostK (KB w2.heap.size (w2.heap.size + 4)) I (fun _ _ _ => False) xs W)) { tmps := #[u0, u1, u2, u3, u4, .pointer (some ⟨w2.heap.size + 2, 0, none⟩), u6, u7, .int .i64 i, .int .i64 p, u10, u11, u12, u13, u14, u15, u16, u17, u18, u19, u20, u21, u22, u23, u24, u25, u26, u27, u28, u29, u30, u31, u32, u33, u34, u35, u36, u37, u38, u39, u40, u41, u42, undef, undef, undef, undef, undef, undef, undef, undef, undef, undef, undef, undef, undef], defers := [] } W3 := by
  have hzo3 : W3.cell? ⟨w2.heap.size + 2, 0, none⟩ = some (.slice Av out.length cv) := (blk_cell HJ3.out.ob 0).trans rfl
  have hfo3 : W3.frozen? ⟨w2.heap.size + 2, 0, none⟩ = false := blk_frozen HJ3.out.ob 0
  have HI := Hid.mk hI
  clear hI
  gi_wp2_with ((with_reducible refine gate_app ?_); (refine S_append_in (Kd.slice 3 (Kd.int .i64)) (w0 := w2) (W := W3.alloc (.cells #[.int .i64 u, .int .i64 v] 3)) w2.heap.size rfl (.tmp 43) (.tmp 51) 39 22 (.slice none 0 0) 24 rfl Try.underlying39 info22 rfl (by decide) (by omega) (.slice Av out.length cv) out [u, v] [.slice (some ⟨W3.heap.size, 0, none⟩) 2 2] (fun k => k ≠ w2.heap.size ∧ k ≠ w2.heap.size + 2 ∧ k ≠ w2.heap.size + 3 ∧ k ≠ w2.heap.size + 4) (fun k => k = W3.heap.size) rfl ?hx_ ?aP ?aK ?aF ?aO ?aB ?aS ?aL ?_; (case hx_ => simp [Act.eval, World.size_alloc]); (case aP => exact Kd.M_row (R_two W3 _ _ _ HJ3.out.bl.size)); (case aK => exact fun k hk => by subst hk; have h1 := HJ3.out.sz; exact ⟨⟨by omega, by omega, by omega, by omega⟩, fun e => absurd (Kd.S_lt HJ3.out.so _ e.symm) (Nat.lt_irrefl _)⟩); (case aF => exact fun k hk => by have h1 := HJ3.out.sz; simp only [World.size_alloc] at hk; exact ⟨by omega, by omega, by omega, by omega⟩); (case aO => exact Kd.S_alloc (Kd.S_mono (Kd.S_bound HJ3.out.so) (fun k hk => ⟨hk.1, by have := hk.2.2.1; omega⟩)) _); (case aB => exact (HJ3.out.alloc _).bl); (case aS => exact (HJ3.out.alloc _).bl.size); (case aL => have := HL.out; omega); intro v1 w1 hS1 hb1 hg1 hat1; clear hat1; obtain ⟨A1, c1, rfl⟩ := Kd.S_slice hS1; have hz1 : w1.cell? ⟨w2.heap.size + 2, 0, none⟩ = some (.slice Av out.length cv) := (blk_cell (blk_grown (HJ3.out.alloc _).ob hg1 (fun e_ => (S_ok HJ3.out.so _ e_.symm).2.1 rfl)) 0).trans rfl; have hf1 : w1.frozen? ⟨w2.heap.size + 2, 0, none⟩ = false := blk_frozen (blk_grown (HJ3.out.alloc _).ob hg1 (fun e_ => (S_ok HJ3.out.so _ e_.symm).2.1 rfl)) 0; have HS1 := Hid.mk hS1; have HB1 := Hid.mk hb1; have HG1 := Hid.mk hg1; clear hS1 hb1 hg1))
  have HS2 := HS1.out
  rw [List.length_append, List.length_singleton] at HS2
  have J4 := (HJ3.out.alloc (.cells #[.int .i64 u, .int .i64 v] 3))
  refine ⟨((HK3.out.1.trans (KeepsOthers.alloc _ _)).trans (J4.keeps HG1.out).1).trans (KeepsOthers.setCell _ _ _), ((HK3.out.2.trans (HJ3.out.kb_alloc _)).trans (J4.keeps HG1.out).2).trans (KB_put _ _ (by omega) (by omega) _), HI.out _ ⟨_, J4.put_o HG1.out HS2 HB1.out⟩⟩
theorem JM_start (w2 : World) (vp vi : Value) : ∃ W5, W5 = (((((w2.alloc (.cells #[vp] 22)).alloc (.cells #[] 22)).alloc (.cells #[.slice (some ⟨w2.heap.size + 1, 0, none⟩) 0 0] 39)).alloc (.cells #[.int .i64 0] 3)).alloc (.cells #[vi] 22)) ∧ JM w2 vp (0, []) W5 ∧ W5.cell? ⟨w2.heap.size + 4, 0, none⟩ = some vi ∧ W5.heap.size = w2.heap.size + 5 ∧ Below w2.heap.size w2 W5 := by
  have hb : Below w2.heap.size w2 (((((w2.alloc (.cells #[vp] 22)).alloc (.cells #[] 22)).alloc (.cells #[.slice (some ⟨w2.heap.size + 1, 0, none⟩) 0 0] 39)).alloc (.cells #[.int .i64 0] 3)).alloc (.cells #[vi] 22)) :=
    below_alloc (below_alloc (below_alloc (below_alloc (below_alloc (Below.refl _ _) _) _) _) _) _
  have h0 := blk_new w2 (.cells #[vp] 22)
  have h1 := blk_new (w2.alloc (.cells #[vp] 22)) (.cells #[] 22)
  have h2 := blk_new ((w2.alloc (.cells #[vp] 22)).alloc (.cells #[] 22)) (.cells #[.slice (some ⟨w2.heap.size + 1, 0, none⟩) 0 0] 39)
  have h3 := blk_new (((w2.alloc (.cells #[vp] 22)).alloc (.cells #[] 22)).alloc (.cells #[.slice (some ⟨w2.heap.size + 1, 0, none⟩) 0 0] 39)) (.cells #[.int .i64 0] 3)
  have h4 := blk_new ((((w2.alloc (.cells #[vp] 22)).alloc (.cells #[] 22)).alloc (.cells #[.slice (some ⟨w2.heap.size + 1, 0, none⟩) 0 0] 39)).alloc (.cells #[.int .i64 0] 3)) (.cells #[vi] 22)
  simp only [World.size_alloc, Nat.add_assoc, Nat.reduceAdd] at h1 h2 h3 h4
  exact ⟨_, rfl, ⟨_, blk_alloc (blk_alloc (blk_alloc (blk_alloc h0 _) _) _) _, blk_alloc (blk_alloc h2 _) _, blk_alloc h3 _, by simp, S_empty _ _ (w2.heap.size + 1) _ (blk_alloc (blk_alloc (blk_alloc h1 _) _) _) (by omega) (by omega), hb⟩, (blk_cell h4 0).trans rfl, by simp, hb⟩
set_option maxRecDepth 100000 in
set_option maxHeartbeats 16000000 in
theorem impl_Graph_matching.calls (k : Nat) (A0 : Option Addr) (c0 : Nat) (l0 : List Int) (a1 : Bool) (r : List (List Int)) (w : World) (hr0 : Kd.C (Kd.int .i64) w A0 l0.length l0) (hc0 : l0.length ≤ c0) (h : impl_Graph_matching.f k l0 a1 = some r) :
    Calls Try.prog 76 #[.agg #[.slice A0 l0.length c0, .bool a1]] w fun e w' => ∃ v0_ : Value, e = .returned v0_ ∧ Kd.S (Kd.slice 3 (Kd.int .i64)) 22 w' w.heap.size (fun _ => True) v0_ r ∧ Below w.heap.size w w' := by
  have hu28 := Try.underlying28
  unfold impl_Graph_matching.f at h
  obtain ⟨⟨ord, par⟩, h1, h⟩ := Option.bind_eq_some_iff.mp h
  dsimp only at h
  split at h
  rotate_left
  · cases h
  rename_i hok
  split at h
  rotate_left
  · cases h
  rename_i hf
  obtain rfl := Option.some.inj h
  have HC := Hid.mk (fun (W : World) (hB : Below w.heap.size w W) => impl_Graph_reached.calls k A0 c0 l0 a1 ord par W (Kd.C_below hr0 hB) hc0 h1)
  have HOK := Hid.mk hok
  have HF := Hid.mk hf
  have hbx := blk_new w (.cells #[.slice A0 l0.length c0, .bool a1] 28)
  have HB := Hid.mk (below_alloc (Below.refl w.heap.size w) (.cells #[.slice A0 l0.length c0, .bool a1] 28))
  have hz0 : (w.alloc (.cells #[.slice A0 l0.length c0, .bool a1] 28)).cell? ⟨w.heap.size, 0, none⟩ = some (.slice A0 l0.length c0) := (blk_cell hbx 0).trans rfl
  have hz1 : (w.alloc (.cells #[.slice A0 l0.length c0, .bool a1] 28)).cell? ⟨w.heap.size, 1, none⟩ = some (.bool a1) := (blk_cell hbx 1).trans rfl
  clear h1 hr0 hc0 hok hf hbx
  refine (callsIn_wide (n := 4)).1 ?_
  refine callsIn_of_wp_marks Try.func76 rfl trivial ?_ rfl
  simp only [Try.ntmps76, List.size_toArray, List.length_cons, List.length_nil, Nat.reduceAdd, Nat.reduceSub, Array.replicate_succ, Array.replicate_zero, List.push_toArray, List.append_toArray, List.nil_append, List.cons_append]
  gi_wp2_with (first
    | (refine ⟨trivial, ?_⟩; gi_at_call 74; refine (callsIn_wide.2 (HC.out _ HB.out)).mono ?_; rintro e w2 ⟨vo, vp, rfl, hO, hP, hb⟩; obtain ⟨AO, cO, rfl⟩ := Kd.R_slice hO; obtain ⟨AP, cP, rfl⟩ := Kd.R_slice hP; have HO := Hid.mk (Kd.R_reads' hO).2.2; have HP := Hid.mk (Kd.R_reads' hP).2.2; have HB2 := Hid.mk (below_step HB.out hb); clear hO hP hb hz0 hz1 HB)
    | (refine ⟨trivial, ?_⟩; gi_at_call 89; refine (back_in Fence.wide _ trivial rfl _ _ _ _).mono ?_; rintro e w' ⟨rfl, rfl⟩))
  simp only [Nat.add_assoc, Nat.reduceAdd]
  obtain ⟨W5, e5, J0, hi, hs5, hb5⟩ := JM_start w2 (.slice AP par.length cP) (.slice AO ord.length cO)
  rw [← e5]
  clear e5
  refine wpIn_rangeFunc_ownF rfl (by omega) (gf := 96) (lb := #[.pointer (some ⟨w2.heap.size + 4, 0, none⟩)]) rfl trivial (enters_of Try.func96 (by kernel_rfl) rfl)
    (back_stops Fence.wide _ trivial rfl (by omega) (w2.heap.size + 4) w2.heap.size cO AO ord (by have := okM_len HOK.out; omega) W5 (by omega) (by omega) hi ((ints_of_C HO.out).below hb5)) KB.trans (KB_b (by omega) (by omega)) (Below.refl _ _) (fun _ => rfl)
    (fun pre W => JM w2 (.slice AP par.length cP) (foldP ord par pre) W)
    (fun _ _ _ => False)
    (JM_own w2 _ ord par (by omega))
    (fun _ _ _ _ _ hs _ _ => hs)
    J0
    (fun x => { tmps := #[.agg #[.slice A0 l0.length c0, .bool a1], .pointer (some ⟨w.heap.size, 0, none⟩), .slice none 0 0, .slice AO ord.length cO, .pointer (some ⟨w2.heap.size, 0, none⟩), .pointer (some ⟨w2.heap.size + 2, 0, none⟩), .pointer (some ⟨w2.heap.size + 3, 0, none⟩), undef, .int .i64 (atI ord x), undef, .tuple #[.slice AO ord.length cO, .slice AP par.length cP], .agg #[.slice A0 l0.length c0, .bool a1], .tuple #[.slice AO ord.length cO, .slice AP par.length cP], .slice AO ord.length cO, .slice AP par.length cP, .slice (some ⟨w2.heap.size + 1, 0, none⟩) 0 0, .slice AO ord.length cO, .func (.func 96) #[] #[.pointer (some ⟨w2.heap.size + 4, 0, none⟩)], .int .i64 (x.1 : Int), .int .i64 (atI ord x), undef, undef, undef, undef, undef, undef, undef, undef, undef, undef, undef, undef, undef, undef, undef, undef, undef, undef, undef, undef, undef, undef, undef, undef, undef, undef, undef, undef, undef, undef, undef, undef, undef, undef, undef, undef], defers := [] }) ?assign ?body ?done ?stop
  case assign =>
    intro l x W K hK
    gi_wp2
    exact hK
  case body =>
    rintro l pre x W ⟨vo, J⟩ hpre
    have hmx : Try.prog.follows .mixedOrders = true := by kernel_rfl
    obtain ⟨q0, q1, q2, q3⟩ := okM_at HOK.out x
    have hln : (foldP ord par pre).2.length ≤ 1000 := by have := okM_len HOK.out; have := foldP_len ord par pre; omega
    have hsn := foldP_snoc ord par pre x
    obtain ⟨⟨s, out⟩, hst⟩ : ∃ st, st = foldP ord par pre := ⟨_, rfl⟩
    rw [← hst] at J hln hsn
    obtain ⟨i, hi_⟩ : ∃ i, i = atI ord x := ⟨_, rfl⟩
    rw [← hi_] at hsn q0 q1 q2 q3
    dsimp only at J hln ⊢
    rw [← hi_]
    clear hst hpre J0 hi hs5 hb5 HC
    obtain ⟨ad, rfl, hcp⟩ := Kd.at_int HP.out i q0 q1
    have hcx : W.cell? (ad.add i.toNat) = some (.int .i64 (rd par i)) := (J.bl.cell (p := ad.add i.toNat) (World.block_lt_of_cell? w2 _ hcp)).trans hcp
    have hzp : W.cell? ⟨w2.heap.size, 0, none⟩ = some (.slice (some ad) par.length cP) := (blk_cell J.pb 0).trans rfl
    have hzt : W.cell? ⟨w2.heap.size + 3, 0, none⟩ = some (.int .i64 s) := (blk_cell J.tb 0).trans rfl
    obtain ⟨Av, cv, rfl⟩ := Kd.S_slice J.so
    have hzo : W.cell? ⟨w2.heap.size + 2, 0, none⟩ = some (.slice Av out.length cv) := (blk_cell J.ob 0).trans rfl
    have hft : W.frozen? ⟨w2.heap.size + 3, 0, none⟩ = false := blk_frozen J.tb 0
    have HS := Hid.mk (show ∀ p, p = rd par i → foldP ord par (pre ++ [x]) = (if p < 0 then (s, out) else if hasM s i = true then (s, out) else if hasM s p = true then (s, out) else (Go.bits .or .i64 s (Go.bits .or .i64 (shl .i64 1 i) (shl .i64 1 p)), out ++ [[min i p, max i p]])) by rintro p rfl; rw [hsn]; rfl)
    obtain ⟨p, hp⟩ : ∃ p, p = rd par i := ⟨_, rfl⟩
    replace HS := Hid.mk (HS.out p hp)
    rw [← hp] at hcx q3
    have h1 := fun w => impl_has.calls s i _ w (hasM_good s q0)
    have d0 : decide (0 ≤ i) = true := decide_eq_true q0
    have d1 : decide (i < (par.length : Int)) = true := decide_eq_true q1
    have HQ := Hid.mk (And.intro (And.intro q0 q1) (And.intro q2 q3))
    have HJ := Hid.mk J
    have HL := Hid.mk hln
    clear hi_ hp hsn J hcp hln
    by_cases c1 : p < 0
    · have d2 : decide (p < 0) = true := decide_eq_true c1
      rw [if_pos c1] at HS
      clear c1 q2 q3 h1
      gi_wp2_with (refine ⟨trivial, ?_⟩)
      exact ⟨KeepsOthers.refl _, KB.refl _ _ _, by show JM _ _ _ _; rw [HS.out]; exact ⟨_, HJ.out⟩⟩
    · have d2 : decide (p < 0) = false := decide_eq_false c1
      have p0 : 0 ≤ p := by omega
      rw [if_neg c1] at HS
      have h2 := fun w => impl_has.calls s p _ w (hasM_good s p0)
      clear c1 q2 q3
      generalize hasM s i = qa at h1 HS
      generalize hasM s p = qb at h2 HS
      cases qa with
      | true =>
        rw [if_pos rfl] at HS
        gi_wp2_with (first | (refine ⟨trivial, ?_⟩; gi_at_call 65; refine (CallsIn.inRound l (callsIn_wide.2 (h1 _))).mono ?_; rintro e w' ⟨rfl, ⟨nd, rfl⟩⟩) | (refine ⟨trivial, ?_⟩; gi_at_call 65; refine (CallsIn.inRound l (callsIn_wide.2 (h2 _))).mono ?_; rintro e w' ⟨rfl, ⟨nd2, rfl⟩⟩) | (refine ⟨trivial, ?_⟩))
        exact ⟨keeps_drewN _ _, KB_drewN _ _ _ _, by show JM _ _ _ _; rw [HS.out]; exact ⟨_, HJ.out.drew _⟩⟩
      | false =>
        rw [if_neg (by simp)] at HS
        cases qb with
        | true =>
          rw [if_pos rfl] at HS
          gi_wp2_with (first | (refine ⟨trivial, ?_⟩; gi_at_call 65; refine (CallsIn.inRound l (callsIn_wide.2 (h1 _))).mono ?_; rintro e w' ⟨rfl, ⟨nd, rfl⟩⟩) | (refine ⟨trivial, ?_⟩; gi_at_call 65; refine (CallsIn.inRound l (callsIn_wide.2 (h2 _))).mono ?_; rintro e w' ⟨rfl, ⟨nd2, rfl⟩⟩) | (refine ⟨trivial, ?_⟩))
          exact ⟨keeps_drewN _ _, KB_drewN _ _ _ _, by show JM _ _ _ _; rw [HS.out]; exact ⟨_, HJ.out.drew _⟩⟩
        | false =>
          rw [if_neg (by simp)] at HS
          gi_wp2_with (first | (refine ⟨trivial, ?_⟩; gi_at_call 65; refine (CallsIn.inRound l (callsIn_wide.2 (h1 _))).mono ?_; rintro e w' ⟨rfl, ⟨nd, rfl⟩⟩) | (refine ⟨trivial, ?_⟩; gi_at_call 65; refine (CallsIn.inRound l (callsIn_wide.2 (h2 _))).mono ?_; rintro e w' ⟨rfl, ⟨nd2, rfl⟩⟩) | (refine ⟨trivial, ?_⟩))
          have E1 : ∀ t, shl .i64 1 t = IntKind.i64.wrap (2 ^ min t.toNat 64) := fun t => by simp [shl, IntKind.bits]
          rw [E1, E1] at HS
          clear E1
          gi_region_with_o (fail)
          all_goals
            generalize Go.bits .or .i64 s (Go.bits .or .i64 (IntKind.i64.wrap (2 ^ min i.toNat 64)) (IntKind.i64.wrap (2 ^ min p.toNat 64))) = s' at HS ⊢
            refine ‹∀ (a : Act) (w : World), Code.wpIn _ _ _ (Code.region 8 _ _) _ a w → _› _ _ ?_
            exact match_tail (pre ++ [x]) l w2 W _ _ Av cv s' out i p (min i p) (max i p) (by split <;> omega) (by split <;> omega) _ (fun W' h => by show JM _ _ _ _; rw [HS.out]; exact h) _ _ _ _ _ _ _ _ _ _ _ _ _ _ _ _ _ _ _ _ _ _ _ _ _ _ _ _ _ _ _ _ _ _ _ _ _ _ _ _ HL ⟨(HJ.out.drew (nd + nd2 + 1)).put_t s'⟩ ⟨(keeps_drewN _ _).trans (KeepsOthers.setCell _ _ _), (KB_drewN _ _ _ _).trans (KB_put _ _ (by omega) (by omega) _)⟩
  case done =>
    rintro D ys W hD rfl ⟨vo, J⟩ hK
    rw [foldP_all] at J
    obtain ⟨Av, cv, rfl⟩ := Kd.S_slice J.so
    have hzo : W.cell? ⟨w2.heap.size + 2, 0, none⟩ = some _ := (blk_cell J.ob 0).trans rfl
    have HS := Hid.mk (sort_walk _ _ _ _ W J.so (foldr_two par ord) HF.out (by have := foldr_len par ord; have := okM_len HOK.out; omega))
    have HJ := Hid.mk J
    have HK := Hid.mk hK
    have hD' : w2.heap.size ≤ D := by omega
    clear J hK J0 hi hb5 hs5 hD HC
    gi_wp2_with (refine ⟨trivial, ?_⟩; gi_at_call 90; refine (callsIn_wide.2 HS.out).mono ?_; rintro e w6 ⟨rfl, hS6, hg6⟩; have hzo6 : w6.cell? ⟨w2.heap.size + 2, 0, none⟩ = some _ := (blk_cell (blk_grown HJ.out.ob hg6 (fun e_ => (S_ok HJ.out.so _ e_.symm).2.1 rfl)) 0).trans rfl; have HG6 := Hid.mk hg6; have HS6 := Hid.mk hS6; clear hg6 hS6 hzo)
    have hk6 := (HJ.out.keeps HG6.out).1.same D _ HK.out rfl
    refine ⟨by simp, .inl ⟨_, _, rfl, run_takeDeferred hk6, ?_⟩⟩
    refine ⟨_, results_tmp rfl _ _ _, _, rfl, ?_, ?_⟩
    · exact Kd.S_lower (Kd.S_mono (S_turn HS6.out (grownBy_putObj' w6 D _) (fun r e => by cases e; exact ⟨_, hk6, rfl⟩)) (fun _ _ => trivial)) HB2.out.size
    · exact below_step HB2.out ((HJ.out.bl.trans (HJ.out.keeps HG6.out).2.1).trans (belowK_b (w := w2) (Nat.le_refl _) w6 D _ _ hD' hk6 rfl rfl))
  case stop =>
    rintro D c pre W _ _ h _
    exact h.elim
end

end Go.Proofs.Ytdpdmhjmmpncoaa.P
