/- The map of edges that impl.IsEvenEdges keeps: what is read out of it and written into it is what was met. -/
import Derived.Test.YtfhbkgbhogndfaaPx5
import Derived.Maps.Own
import Derived.Maps.OwnOps
import Derived.Maps.Views
import Derived.WideKeyArr
namespace Go.Proofs.Ytfhbkgbhogndfaa.P
open Go.RowKit Go.Proofs.YtfhbkgbhogndfaaW.PrintWords Go.Proofs.YtfhbkgbhogndfaaW.PrintLast Go.Proofs.YtfhbkgbhogndfaaW.PrintMore
open Go.Maps (Keyed)
theorem arr44 : WideMaps.ArrKey Try.prog 44 3 2 := ⟨Try.underlying44, by kernel_rfl, by kernel_rfl, by kernel_rfl⟩
theorem law44 : Keyed Try.prog 44 := Keyed.of_law arr44.law
theorem zeroE4 (w : World) : (zeroValue 4).run Try.prog w = .ok (.bool false) w := by kernel_rfl
/-- An array of two numbers. -/
abbrev pairV (p q : Int) : Value := .agg #[.int .i64 p, .int .i64 q]
theorem key44 {p q : Int} (hp : (Lit.int .i64 p).wf = true) (hq : (Lit.int .i64 q).wf = true) : ∃ kl, keyOf Try.prog 44 (pairV p q) = some kl := by
  have hkt := arr44.keyType ⟨67, by kernel_rfl⟩
  obtain ⟨m, hm0⟩ : ∃ m, Try.prog.types.size = m + 1 := ⟨67, by kernel_rfl⟩
  have c3 : Try.prog.cellsOf 3 = 1 := arr44.one
  have c44 : Try.prog.cellsOf 44 = 2 := arr44.size
  unfold keyOf
  simp only [Try.underlying44]
  rw [if_pos (by simp [hkt, Value.formed, Try.underlying44, c44]), hm0]
  unfold Program.keyLits
  simp only [Try.underlying44, Value.cells]
  rw [if_pos (by rw [c44]; rfl)]
  have h1 : ∀ x : Int, (Lit.int .i64 x).wf = true → Try.prog.keyLits (m + 1) 3 [Value.int .i64 x] = some [Lit.int .i64 x] := fun x hx => by
    unfold Program.keyLits
    simp [Try.underlying3, hx]
  have e2 : List.range 2 = [0, 1] := rfl
  simp [e2, c3, h1 p hp, h1 q hq]
/-- Block g is a map of at most n pairs: of those that xs holds, and of no others. -/
def MetW (w : World) (g n : Nat) (xs : List (List Int)) : Prop := ∃ D : DataW Unit, w.ownsMap Try.prog 44 (plainElem Try.prog 4) g n D ∧ Go.Maps.IsMap D ∧
  ∀ a b kl, keyOf Try.prog 44 (pairV a b) = some kl → D.atKey kl (.lit (.bool false)) = .lit (.bool (xs.contains [a, b]))
theorem metW_made (w : World) : MetW (w.alloc (.map #[] 0)) w.heap.size 0 [] :=
  ⟨_, World.ownsMap_made _ _ _ _, Go.Maps.isMap_empty, fun a b kl _ => by simp [DataW.atKey]⟩
theorem metW_drew {w : World} {g n : Nat} {xs : List (List Int)} (h : MetW w g n xs) : MetW w.drew g n xs := h
theorem metW_drewN {w : World} {g n : Nat} {xs : List (List Int)} (h : MetW w g n xs) (m : Nat) : MetW (w.drewN m) g n xs := h
theorem metW_alloc {w : World} {g n : Nat} {xs : List (List Int)} (h : MetW w g n xs) (o : Obj) : MetW (w.alloc o) g n xs := by
  obtain ⟨D, h1, h2⟩ := h
  exact ⟨D, h1.alloc o, h2⟩
theorem metW_below {w w' : World} {g n : Nat} {xs : List (List Int)} (h : MetW w g n xs) (hb : Below w.heap.size w w') : MetW w' g n xs := by
  obtain ⟨D, ⟨es, clock, hb', F, hs, hD⟩, h2⟩ := h
  exact ⟨D, ⟨es, clock, blk_below hb' hb, F, hs, hD⟩, h2⟩
theorem metW_look {w : World} {g n : Nat} {xs : List (List Int)} {p q : Int} (h : MetW w g n xs) (hp : (Lit.int .i64 p).wf = true) (hq : (Lit.int .i64 q).wf = true) :
    (Instr.lookup 42 (.map (some g)) (pairV p q) false).run Try.prog w = .ok (.bool (xs.contains [p, q])) w := by
  obtain ⟨D, hown, _, hat⟩ := h
  obtain ⟨kl, hk⟩ := key44 hp hq
  obtain ⟨v, ps, hrun, hv⟩ := hown.lookup law44 Try.underlying42 (zeroE4 w) (plainElem_bool Try.underlying4 false) hk
  rw [hat p q kl hk] at hv
  unfold plainElem at hv
  rw [Try.underlying4] at hv
  cases v <;> simp at hv
  rw [hrun, hv.1]
  simp
theorem pairV_inj {a b p q : Int} (h : pairV a b = pairV p q) : a = p ∧ b = q := by simpa [pairV] using h
theorem metW_put {w : World} {g n : Nat} {xs : List (List Int)} {p q : Int} (h : MetW w g n xs) (hp : (Lit.int .i64 p).wf = true) (hq : (Lit.int .i64 q).wf = true) (hn : n < maxLen) :
    ∃ w', (Instr.mapUpdate 42 (.map (some g)) (pairV p q) (.bool true)).run Try.prog w = .ok () w' ∧ MetW w' g (n + 1) (xs ++ [[p, q]]) ∧ w.grownBy w' (some g) := by
  obtain ⟨D, hown, hI, hat⟩ := h
  obtain ⟨kl, hk⟩ := key44 hp hq
  obtain ⟨w', hrun, hown', hg⟩ := hown.update law44 Try.underlying42 hn hk (plainElem_bool Try.underlying4 true)
  refine ⟨w', hrun, ⟨_, hown', hI.put _ _, fun a b kl' hk' => ?_⟩, hg⟩
  by_cases e : kl' = kl
  · subst e
    obtain ⟨rfl, rfl⟩ := pairV_inj (law44.inj hk' hk)
    rw [Go.Maps.atKey_put_same hI (law44.key hk)]
    simp
  · rw [Go.Maps.atKey_put_other e, hat a b kl' hk']
    have : ([a, b] : List Int) ≠ [p, q] := by
      intro h
      simp only [List.cons.injEq, and_true] at h
      obtain ⟨rfl, rfl⟩ := h
      rw [hk] at hk'
      exact e (Option.some.inj hk').symm
    have h2 : (([p, q] : List Int) == [a, b]) = false := by simpa using fun h1 h2 => this (by rw [h1, h2])
    simp only [List.contains_eq_any_beq, List.any_append, List.any_cons, List.any_nil, Bool.or_false]
    rw [show (([a, b] : List Int) == [p, q]) = false by simpa using fun h1 h2 => this (by rw [h1, h2]), Bool.or_false]
section
variable {ops : Array Oper} {rest : List Oper} {o : Oper} {a : Act} {Q : Exit → Act → World → Prop}
/-- 'make' of such a map. -/
theorem met_made_ {W : World} (hgd : o.guard = none) {N : Tmp} (_hd : o.dst = some N) (hop : o.op = Op.makeMap 42 none)
    (h : ∀ g, g = W.heap.size → ∀ w1, MetW w1 g 0 [] → Below W.heap.size W w1 → wpList Try.prog ops Q rest (a.put o.dst (.map (some g))) w1) : wpList Try.prog ops Q (o :: rest) a W :=
  Kd.event_run hgd (by unfold execOp; simp [hop, run_makeMap, Result.andThen]) (h _ rfl _ (metW_made W) (below_alloc (Below.refl _ _) _))
/-- 'm[k]' where one operation alone may come up. -/
theorem met_look_ {N : Option Tmp} {w : World} {K : Act → World → Prop} {g n : Nat} {xs : List (List Int)} {p q : Int} {v : Bool} {m x : Operand}
    (hw : Region.wanted o (yielded ops a.tmps) = true) (hN : o.dst = N) (hop : o.op = Op.lookup 42 m x false) (hm : a.eval m = .map (some g)) (hx : a.eval x = pairV p q)
    (hp : (Lit.int .i64 p).wf = true) (hq : (Lit.int .i64 q).wf = true) (hM : MetW w g n xs) (hv : xs.contains [p, q] = v) (h : K (a.put N (.bool v)) w) :
    if Region.wanted o (yielded ops a.tmps) = true then Oper.wp Try.prog o a w K Q else K (a.put N undef) w := by
  rw [if_pos hw]
  have hrun : (execOp a.eval o).run Try.prog w = .ok (.value (.bool v)) w := by
    unfold execOp
    simp only [hop, hm, hx, metW_look hM hp hq, hv, Result.andThen, Sem.run_bind, Sem.run_pure]
  unfold Oper.wp
  rw [hrun]
  show K (a.put o.dst _) w
  rw [hN]
  exact h
/-- 'm[k] = true'. -/
theorem met_put_ {w : World} {g n : Nat} {xs : List (List Int)} {p q : Int} {m x y : Operand} (hgd : o.guard = none) (hop : o.op = Op.mapUpdate 42 m x y) (hm : a.eval m = .map (some g)) (hx : a.eval x = pairV p q) (hy : a.eval y = .bool true)
    (hp : (Lit.int .i64 p).wf = true) (hq : (Lit.int .i64 q).wf = true) (hM : MetW w g n xs) (hn : n < maxLen)
    (h : ∀ w', MetW w' g (n + 1) (xs ++ [[p, q]]) → w.grownBy w' (some g) → wpList Try.prog ops Q rest (a.put o.dst undef) w') : wpList Try.prog ops Q (o :: rest) a w := by
  refine wpList_plain hgd fun K' hK' => ?_
  obtain ⟨w', hrun, r1, r2⟩ := metW_put hM hp hq hn
  unfold Oper.wp
  simp [execOp, hop, hm, hx, hy, hrun, Result.andThen]
  exact hK' _ _ (h w' r1 r2)
end
/-- A slice of two elements as an array's place. -/
theorem arr_at44 {A : Option Addr} {n c : Nat} (h : ((n : Int) == 2) = true) (w : World) : (Instr.arrayAt 44 (.slice A n c)).run Try.prog w = .ok (.pointer A) w := by
  have h2 : n = 2 := by have := eq_of_beq h; omega
  subst h2
  simp [Instr.arrayAt, underlying, Try.underlying44, Result.andThen]
theorem two_of {e : List Int} (h : e.length = 2) : e = [rd e 0, rd e 1] := by
  match e, h with
  | [a, b], _ => rfl
/-- A row at a place, as the list tells it. -/
theorem met_tells {l : List (List Int)} {x : Int} {e : List Int} {v : Bool} (h : pseudo_met.f l x e = some v) (he : ((e.length : Int) == 2) = true) : (l.take x.toNat).contains [rd e 0, rd e 1] = v := by
  have he' : e.length = 2 := by have := eq_of_beq he; omega
  rw [← two_of he']
  exact Option.some.inj h
/-- The buttons of a graph are small. -/
theorem met_wf {k : Nat} {l0 : List Int} {b : Bool} {e : List Int} (h : impl_hasButton.f k l0 b e = some true) (he : ((e.length : Int) == 2) = true) : (Lit.int .i64 (rd e 0)).wf = true ∧ (Lit.int .i64 (rd e 1)).wf = true := by
  have he' : e.length = 2 := by have := eq_of_beq he; omega
  obtain ⟨p, q, rfl⟩ : ∃ p q, e = [p, q] := ⟨_, _, two_of he'⟩
  unfold impl_hasButton.f at h
  obtain ⟨t, _, h⟩ := Option.bind_eq_some_iff.mp h
  cases t
  · simp at h
  · rw [if_pos rfl] at h
    have h2 := Option.some.inj h
    simp only [List.all_cons, List.all_nil, Bool.and_true, Bool.and_eq_true, decide_eq_true_eq] at h2
    obtain ⟨⟨a1, a2⟩, b1, b2⟩ := h2
    have hw : wrap64 ((l0.length : Int) - 1) ≤ 9223372036854775807 := by unfold wrap64; omega
    exact ⟨WalkArith.wf_i64 ⟨by show (-9223372036854775808 : Int) ≤ p; omega, by show p ≤ 9223372036854775807; omega⟩, WalkArith.wf_i64 ⟨by show (-9223372036854775808 : Int) ≤ q; omega, by show q ≤ 9223372036854775807; omega⟩⟩
/-- One row further. -/
theorem met_next {w : World} {g : Nat} {l : List (List Int)} {x : Int} (h0 : decide (0 ≤ x) = true) (h1 : decide (x < (l.length : Int)) = true) (hm : l.length ≤ maxLen) (he : (((rd_L1 l x).length : Int) == 2) = true)
    (h : MetW w g (x.toNat + 1) (l.take x.toNat ++ [[rd (rd_L1 l x) 0, rd (rd_L1 l x) 1]])) : MetW w g (wrap64 (x + 1)).toNat (l.take (wrap64 (x + 1)).toNat) := by
  have h0 := of_decide_eq_true h0
  have h1 := of_decide_eq_true h1
  have he' : (rd_L1 l x).length = 2 := by have := eq_of_beq he; omega
  unfold maxLen at hm
  have e1 : (wrap64 (x + 1)).toNat = x.toNat + 1 := by unfold wrap64; omega
  rw [e1, List.take_add_one]
  rw [← two_of he'] at h
  have e2 : l[x.toNat]? = some (rd_L1 l x) := by
    have : x.toNat < l.length := by omega
    unfold rd_L1
    rw [List.getElem?_eq_getElem this, List.getD_eq_getElem?_getD, List.getElem?_eq_getElem this]; rfl
  rw [e2]
  exact h
end Go.Proofs.Ytfhbkgbhogndfaa.P
