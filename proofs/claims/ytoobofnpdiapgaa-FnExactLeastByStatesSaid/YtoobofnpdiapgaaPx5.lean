-- Written by a program of this session (wip/mp.py), which runs the kit's print with contracts of the session's own.
import Derived.Test.YtoobofnpdiapgaaPx0
import Derived.Test.YtoobofnpdiapgaaPx1
import Derived.Test.YtoobofnpdiapgaaPx4
namespace Go.Proofs.Ytoobofnpdiapgaa.P
open Go.RowKit Go.Proofs.YtoobofnpdiapgaaW.PrintWords Go.Proofs.YtoobofnpdiapgaaW.PrintLast Go.Proofs.YtoobofnpdiapgaaW.PrintMore
attribute [local go_sem] max2_int min2_int max_two min_two max_three min_three max_four min_four   -- for this text's walks alone
set_option linter.unusedVariables false
set_option linter.unusedSimpArgs false
/-! ### spec_paSystem_put: function 94 -/
-- BY HAND
section
open Go.Shelf
/-- A system of equations in memory. -/
structure PS (base g : Nat) (vr vw : Value) (rows want : List Int) (W : World) : Prop where
  b : W.heap[g]? = some (.cells #[vr, vw] 87 (0, 0))
  g0 : base ≤ g
  R : (Kd.int .i64).R 3 W base (fun k => some k = vr.ownBlock) vr rows
  X : (Kd.int .i64).R 3 W base (fun k => some k = vw.ownBlock) vw want
  ne : ∀ k, vr.ownBlock = some k → vw.ownBlock ≠ some k
section
variable {base g : Nat} {vr vw v' : Value} {rows want xs : List Int} {W W' : World}
theorem PS.below (h : PS base g vr vw rows want W) (hb : Below W.heap.size W W') : PS base g vr vw rows want W' :=
  ⟨blk_below h.b hb, h.g0, Kd.R_below h.R hb, Kd.R_below h.X hb, h.ne⟩
/-- The blocks of a system. -/
def own3 (g : Nat) (vr vw : Value) (k : Nat) : Prop := k = g ∨ some k = vr.ownBlock ∨ some k = vw.ownBlock
end
/-- An equation, with those of a system added. -/
def putS (k : Nat) : List Int → List Int → Int → Int → Option (Int × Int)
  | [], _, row, want => some (row, want)
  | _ :: _, [], _, _ => none
  | r :: rs, x :: xs, row, want => (spec_soTop.f k r).bind fun t => (spec_grIn.f row t).bind fun q =>
      if q = true then putS k rs xs (Go.bits .xor .i64 row r) (Go.bits .xor .i64 want x) else putS k rs xs row want
def putF (k : Nat) (rows wants : List Int) (row want : Int) : Option (Bool × List Int × List Int) :=
  (putS k rows wants row want).bind fun p => if p.1 = 0 then some (p.2 == 0, rows, wants) else if rows.length < 1000000 ∧ wants.length < 1000000 then some (true, rows ++ [p.1], wants ++ [p.2]) else none
end
/-! ### spec_paSolutions: function 72 -/
-- BY HAND
section
open Go.Shelf
set_option linter.unusedSimpArgs false
set_option linter.unusedVariables false
structure Hid (p : Prop) : Prop where
  out : p
def sol1 (k : Nat) (want : Int) : List Int → Nat → List Int → List Int → Option (Bool × List Int × List Int)
  | [], _, rs, ws => some (true, rs, ws)
  | r :: l, i, rs, ws => (putF k rs ws r (Int.tmod (shr .i64 want (i : Int)) 2)).bind fun p => if p.1 = true then sol1 k want l (i + 1) p.2.1 p.2.2 else some (false, p.2.1, p.2.2)
def sol2 (k : Nat) : Nat → List Int → List Int → Option (List Int × List Int)
  | 0, rs, ws => some (rs, ws)
  | m + 1, rs, ws => (putF k rs ws (shl .i64 1 (m : Int)) 0).bind fun p => if p.1 = true then sol2 k m p.2.1 p.2.2
      else (putF k p.2.1 p.2.2 (shl .i64 1 (m : Int)) 1).bind fun p2 => sol2 k m p2.2.1 p2.2.2
def sol3 (k : Nat) (rs ws : List Int) : Nat → Nat → Int → Option Int
  | 0, _, set => some set
  | d + 1, i, set => (putF k rs ws (shl .i64 1 (i : Int)) 0).bind fun p => if p.1 = true then sol3 k rs ws d (i + 1) set else sol3 k rs ws d (i + 1) (Go.bits .or .i64 set (shl .i64 1 (i : Int)))
def spec_paSolutions.fk (k : Nat) (a0 : Int) (l1 : List Int) (a2 : Int) : Option (Int × Int × Bool) :=
  if 0 ≤ a0 ∧ a0 ≤ 1000 then (sol1 k a2 l1 0 [] []).bind fun p => if p.1 = true then (sol2 k a0.toNat p.2.1 p.2.2).bind fun q =>
    if q.1.length < 1000000 ∧ q.2.length < 1000000 then (sol3 k q.1 q.2 a0.toNat 0 0).bind fun set => some (wrap64 (a0 - (p.2.1.length : Int)), set, true) else none else some (0, 0, false)
  else none
def spec_paSolutions.T18 : Bool × List (List Nat × List Nat) := (true, [([], []), ([], []), ([1], [1]), ([2], [2]), ([3], [3]), ([0, 4], [0, 4]), ([], []), ([], []), ([7], [7]), ([8], [8]), ([9], [9]), ([6, 10, 5], [6, 10]), ([5, 11], [5, 11]), ([12], [12]), ([13, 11, 0, 1, 2, 3, 4, 5, 6, 7, 8, 9, 10, 11, 12, 13], [13])])
def spec_paSolutions.B18 : List Nat := [0, 0, 2, 6, 14, 31, 0, 0, 128, 384, 896, 2047, 4095, 8191, 16383]
def spec_paSolutions.f (a0 : Int) (l1 : List Int) (a2 : Int) : Option (Int × Int × Bool) := spec_paSolutions.fk 1000 a0 l1 a2
end
end Go.Proofs.Ytoobofnpdiapgaa.P
