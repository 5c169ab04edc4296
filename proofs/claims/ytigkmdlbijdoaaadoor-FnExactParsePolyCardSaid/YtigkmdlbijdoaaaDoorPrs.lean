/- impl.parsePoly and impl.ParsePoly: the walks. -/
import Derived.Test.YtigkmdlbijdoaaaDoorPx0
import Derived.Test.YtigkmdlbijdoaaaDoorPx8
import Derived.Lib.SplitLaws
namespace Go.Proofs.YtigkmdlbijdoaaaDoor.P
open Go.RowKit Go.Proofs.YtigkmdlbijdoaaaDoorW.PrintWords Go.Proofs.YtigkmdlbijdoaaaDoorW.PrintLast Go.Proofs.YtigkmdlbijdoaaaDoorW.PrintMore
/-- The library's variables that the call reads hold values of their kinds. -/
structure Lib3 (w : World) : Prop where
  m : ∃ m, w.cell? ⟨3, 0, none⟩ = some (.int .i64 m)
  s : ∃ ev, w.cell? ⟨0, 0, none⟩ = some ev ∧ (ev = .nilIface ∨ ∃ te pe, ev = .iface te pe)
  r : ∃ ev, w.cell? ⟨1, 0, none⟩ = some ev ∧ (ev = .nilIface ∨ ∃ te pe, ev = .iface te pe)
theorem Lib3.below {w w' : World} (h : Lib3 w) (hb : Below w.heap.size w w') : Lib3 w' := by
  have c : ∀ (a : Addr) v, w.cell? a = some v → w'.cell? a = some v := fun a v e => (hb.cell (World.block_lt_of_cell? w _ e)).trans e
  obtain ⟨⟨m, hm⟩, ⟨e0, h0, k0⟩, ⟨e1, h1, k1⟩⟩ := h
  exact ⟨⟨m, c _ _ hm⟩, ⟨e0, c _ _ h0, k0⟩, ⟨e1, c _ _ h1, k1⟩⟩
/-- What strconv.Atoi gives, where it gives no error. -/
def atoiR (l : List UInt8) : Option Int := match Lib.atoiAll l with
  | .ok v => some v
  | _ => none
theorem atoi_some (s : ByteArray) (v : Int) (w : World) (hs : s.size ≤ 1048576) (h : atoiR s.data.toList = some v) :
    Calls Tryd.prog 31 #[.string s] w fun e w' => e = .returned (.tuple #[.int .i64 v, .nilIface]) ∧ Below w.heap.size w w' := by
  unfold atoiR at h
  split at h
  · rename_i v' hv
    obtain rfl := Option.some.inj h
    refine (Tryd.strconv_Atoi_ok s (by omega) _ hv w).mono ?_
    rintro e w' ⟨rfl, rfl | ⟨t, rfl⟩⟩
    · exact ⟨rfl, Below.refl _ _⟩
    · exact ⟨rfl, bytes_below (Below.refl _ _) (Nat.le_refl _) 5 t⟩
  · cases h
theorem atoi_none (s : ByteArray) (w : World) (hL : Lib3 w) (hs : s.size ≤ 1048576) (h : atoiR s.data.toList = none) :
    Calls Tryd.prog 31 #[.string s] w fun e w' => (∃ v pe, e = .returned (.tuple #[.int .i64 v, .iface 64 pe])) ∧ Below w.heap.size w w' := by
  unfold atoiR at h
  split at h
  · cases h
  · rename_i hn
    obtain ⟨_, ⟨e0, h0, k0⟩, ⟨e1, h1, k1⟩⟩ := hL
    cases hv : Lib.atoiAll s.data.toList with
    | ok v => exact absurd hv (hn v)
    | range =>
      refine (Tryd.strconv_Atoi_range s (by omega) hv e1 w h1 k1).mono ?_
      rintro e w' ⟨N, rfl, _, _, hb⟩
      exact ⟨⟨_, _, rfl⟩, hb⟩
    | _ =>
      refine (Tryd.strconv_Atoi_syntax s (by omega) (hv.trans rfl) e0 w h0 k0).mono ?_
      rintro e w' ⟨N, rfl, _, _, hb⟩
      exact ⟨⟨_, _, rfl⟩, hb⟩
/-- A text cut at each '+'. -/
def words (s : ByteArray) : List ByteArray := Lib.splitB ⟨#[43]⟩ 0 (Lib.countB s ⟨#[43]⟩) s
theorem splitB_size (sep : ByteArray) : ∀ (k : Nat) (s : ByteArray), ∀ x ∈ Lib.splitB sep 0 k s, x.size ≤ s.size
  | 0, s, x, h => by rw [Lib.splitB_zero, List.mem_singleton] at h; rw [h]; exact Nat.le_refl _
  | k + 1, s, x, h => by
    unfold Lib.splitB at h
    split at h
    · rw [List.mem_singleton] at h; rw [h]; exact Nat.le_refl _
    · rcases List.mem_cons.1 h with rfl | h
      · rw [ByteArray.size_extract]; omega
      · have := splitB_size sep k _ x h
        rw [ByteArray.size_extract] at this
        omega
theorem words_size (s : ByteArray) : ∀ x ∈ words s, x.size ≤ s.size := splitB_size _ _ _
theorem split_walk (s : ByteArray) (w : World) (hL : Lib3 w) (hs : s.size ≤ 1048576) :
    Calls Tryd.prog 29 #[.string s, .string ⟨#[43]⟩] w fun e w' => e = .returned (.slice (some ⟨w.heap.size, 0, none⟩) (words s).length (words s).length) ∧ (∀ (j : Nat) x, (words s)[j]? = some x → w'.cell? ⟨w.heap.size, j, none⟩ = some (.string x)) ∧ Below w.heap.size w w' := by
  obtain ⟨m, hm⟩ := hL.m
  have hl : (words s).length = Lib.countB s ⟨#[43]⟩ + 1 := Lib.splitB_all _ (by decide) 0 _ s rfl
  refine (Tryd.strings_Split s ⟨#[43]⟩ m w (by omega) hm (by decide)).mono ?_
  rintro e w' ⟨rfl, rfl⟩
  refine ⟨by rw [hl], fun j x hj => ?_, below_alloc (Below.refl _ _) _⟩
  rw [blk_cell (blk_new w _) j]
  show ((words s).map Value.string).toArray[j]? = _
  simp [hj]
/-- One word of a text, read. -/
def stepW (p : Int) (x : ByteArray) : Option Int :=
  if x.toList = [49] then some (Go.bits .or .i64 p 1) else if x.toList = [120] then some (Go.bits .or .i64 p 2) else
    if Lib.hasPrefix x.data.toList [120] = true then (if 1 ≤ x.size then (atoiR (x.extract 1 x.size).data.toList).bind fun v => if 2 ≤ v ∧ v ≤ 40 then some (Go.bits .or .i64 p (shl .i64 1 v)) else none else none) else some p
def parseL : List ByteArray → Int → Option Int
  | [], p => some p
  | x :: r, p => (stepW p x).bind (parseL r)
theorem prefix_size {x : ByteArray} (h : Lib.hasPrefix x.data.toList [120] = true) : 1 ≤ x.size := by
  have e : x.data.toList.length = x.size := by rw [Array.length_toList]; rfl
  cases hl : x.data.toList with
  | nil => rw [hl] at h; simp [Lib.hasPrefix] at h
  | cons a l => rw [hl] at e; simp at e; omega
def impl_parsePoly.f (k : Nat) (s : ByteArray) : Option (Int × Bool) :=
  if s.size ≤ 1048576 then (match parseL (words s) 0 with
    | none => some (0, false)
    | some p => (impl_polyText.f k p).bind fun t => some (p, t.toList == s.toList)) else none
end Go.Proofs.YtigkmdlbijdoaaaDoor.P
