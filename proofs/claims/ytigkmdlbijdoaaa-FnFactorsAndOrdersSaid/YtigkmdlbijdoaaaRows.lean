/-
  No cell of these rows narrows 'for every input' (looked for: loops, veiled, ifaces, maps, wideKeys, modest, calm, conditions, laid).
  DERIVED. THE GIVEN ROWS OF THIS SEAT. 6 by the template 'for every input the law returns true; each argument reads behind the call as it read before'; 0 by the template 'total and deterministic' (their statements: YtigkmdlbijdoaaaTotals.lean).
  GIVEN WITH THE SEED: the statements are not yours to turn. If you find one false, say at which input.
  Laid BY PROGRAM, IN A SANDBOX (cutbox-rows.mjs): the forced cells as the released guide's own fill.sh prints them over the translation 3c6916b3ded71a8f… (all of the seat's roots in one cut). By AI agents, Wed Nov 11 2026. No macro, syntax, notation, axiom, sorry.
-/
import Derived.Test.YtigkmdlbijdoaaaChecked
import GoSem.Claim
import GoSem.ClaimJoined
import GoSem.ClaimMapViews
import Derived.JoinedTies
import Derived.KernelRfl
namespace Go.Proofs.Ytigkmdlbijdoaaa
/- THE CELL 'sum', in the pinned program and in every row, IS THE sha256 OF THE DUMP (.gsa) THAT YtigkmdlbijdoaaaProg.lean LOADS. Nothing in Lean hashes anything: it is a label: what it is worth is what the hold of that sum in a sandbox is worth. -/
noncomputable def Try.pinned : Pinned := { name := "ytigkmdlbijdoaaa", sum := "3c6916b3ded71a8f51367505164eecafb3a4b28f10a970fbf20beee6094ee036", checked := Try.checked }
namespace Rows
def none {H : Type} : Left H := { results := [], args := [] }

/-- 'laws.FnExactSolvePath': WHATEVER THE INPUT: true; the input reads as it did. -/
def fnExactSolvePathSpec : ChangeSpec := { name := "fnExactSolvePath", fn := fun _ => fun
  | [d1, d2, d3] => { results := [.lit (.bool true)], args := [d1, d2, d3] }
  | _ => none }
def fnExactSolvePathRow : OpenClaim := { program := "ytigkmdlbijdoaaa", sum := "3c6916b3ded71a8f51367505164eecafb3a4b28f10a970fbf20beee6094ee036", func := "loop.example/g01146/laws.FnExactSolvePath", spec := "fnExactSolvePath", unfollowed := true, recurses := true, apart := false }
def FnExactSolvePathSaid : Prop := fnExactSolvePathRow.holds Try.pinned (OpenSpec.ofChange fnExactSolvePathSpec)

/-- ITS FALSE NEIGHBOUR: 'it returns false'. Refute it at one input. -/
def fnExactSolvePathWrong : ChangeSpec := { name := "fnExactSolvePath", fn := fun _ => fun
  | [d1, d2, d3] => { results := [.lit (.bool false)], args := [d1, d2, d3] }
  | _ => none }
def FnExactSolvePathWrongFalsely : Prop := fnExactSolvePathRow.holds Try.pinned (OpenSpec.ofChange fnExactSolvePathWrong)

/-- 'laws.FnExactPowerModulo': WHATEVER THE INPUT: true; the input reads as it did. -/
def fnExactPowerModuloSpec : ChangeSpec := { name := "fnExactPowerModulo", fn := fun _ => fun
  | [d1, d2, d3] => { results := [.lit (.bool true)], args := [d1, d2, d3] }
  | _ => none }
def fnExactPowerModuloRow : OpenClaim := { program := "ytigkmdlbijdoaaa", sum := "3c6916b3ded71a8f51367505164eecafb3a4b28f10a970fbf20beee6094ee036", func := "loop.example/g01146/laws.FnExactPowerModulo", spec := "fnExactPowerModulo", unfollowed := true, recurses := true, apart := false }
def FnExactPowerModuloSaid : Prop := fnExactPowerModuloRow.holds Try.pinned (OpenSpec.ofChange fnExactPowerModuloSpec)

/-- ITS FALSE NEIGHBOUR: 'it returns false'. Refute it at one input. -/
def fnExactPowerModuloWrong : ChangeSpec := { name := "fnExactPowerModulo", fn := fun _ => fun
  | [d1, d2, d3] => { results := [.lit (.bool false)], args := [d1, d2, d3] }
  | _ => none }
def FnExactPowerModuloWrongFalsely : Prop := fnExactPowerModuloRow.holds Try.pinned (OpenSpec.ofChange fnExactPowerModuloWrong)

/-- 'laws.FnFibonaccisPolynomials': WHATEVER THE INPUT: true; the input reads as it did. -/
def fnFibonaccisPolynomialsSpec : ChangeSpec := { name := "fnFibonaccisPolynomials", fn := fun _ => fun
  | [d1, d2] => { results := [.lit (.bool true)], args := [d1, d2] }
  | _ => none }
def fnFibonaccisPolynomialsRow : OpenClaim := { program := "ytigkmdlbijdoaaa", sum := "3c6916b3ded71a8f51367505164eecafb3a4b28f10a970fbf20beee6094ee036", func := "loop.example/g01146/laws.FnFibonaccisPolynomials", spec := "fnFibonaccisPolynomials", unfollowed := true, recurses := true, apart := false }
def FnFibonaccisPolynomialsSaid : Prop := fnFibonaccisPolynomialsRow.holds Try.pinned (OpenSpec.ofChange fnFibonaccisPolynomialsSpec)

/-- ITS FALSE NEIGHBOUR: 'it returns false'. Refute it at one input. -/
def fnFibonaccisPolynomialsWrong : ChangeSpec := { name := "fnFibonaccisPolynomials", fn := fun _ => fun
  | [d1, d2] => { results := [.lit (.bool false)], args := [d1, d2] }
  | _ => none }
def FnFibonaccisPolynomialsWrongFalsely : Prop := fnFibonaccisPolynomialsRow.holds Try.pinned (OpenSpec.ofChange fnFibonaccisPolynomialsWrong)

/-- 'laws.FnExactIsIrreducible': WHATEVER THE INPUT: true; the input reads as it did. -/
def fnExactIsIrreducibleSpec : ChangeSpec := { name := "fnExactIsIrreducible", fn := fun _ => fun
  | [d] => { results := [.lit (.bool true)], args := [d] }
  | _ => none }
def fnExactIsIrreducibleRow : OpenClaim := { program := "ytigkmdlbijdoaaa", sum := "3c6916b3ded71a8f51367505164eecafb3a4b28f10a970fbf20beee6094ee036", func := "loop.example/g01146/laws.FnExactIsIrreducible", spec := "fnExactIsIrreducible", unfollowed := true, recurses := true, apart := false }
def FnExactIsIrreducibleSaid : Prop := fnExactIsIrreducibleRow.holds Try.pinned (OpenSpec.ofChange fnExactIsIrreducibleSpec)

/-- ITS FALSE NEIGHBOUR: 'it returns false'. Refute it at one input. -/
def fnExactIsIrreducibleWrong : ChangeSpec := { name := "fnExactIsIrreducible", fn := fun _ => fun
  | [d] => { results := [.lit (.bool false)], args := [d] }
  | _ => none }
def FnExactIsIrreducibleWrongFalsely : Prop := fnExactIsIrreducibleRow.holds Try.pinned (OpenSpec.ofChange fnExactIsIrreducibleWrong)

/-- 'laws.FnExactFactorsOf': WHATEVER THE INPUT: true; the input reads as it did. -/
def fnExactFactorsOfSpec : ChangeSpec := { name := "fnExactFactorsOf", fn := fun _ => fun
  | [d] => { results := [.lit (.bool true)], args := [d] }
  | _ => none }
def fnExactFactorsOfRow : OpenClaim := { program := "ytigkmdlbijdoaaa", sum := "3c6916b3ded71a8f51367505164eecafb3a4b28f10a970fbf20beee6094ee036", func := "loop.example/g01146/laws.FnExactFactorsOf", spec := "fnExactFactorsOf", unfollowed := true, recurses := true, apart := false }
def FnExactFactorsOfSaid : Prop := fnExactFactorsOfRow.holds Try.pinned (OpenSpec.ofChange fnExactFactorsOfSpec)

/-- ITS FALSE NEIGHBOUR: 'it returns false'. Refute it at one input. -/
def fnExactFactorsOfWrong : ChangeSpec := { name := "fnExactFactorsOf", fn := fun _ => fun
  | [d] => { results := [.lit (.bool false)], args := [d] }
  | _ => none }
def FnExactFactorsOfWrongFalsely : Prop := fnExactFactorsOfRow.holds Try.pinned (OpenSpec.ofChange fnExactFactorsOfWrong)

/-- 'laws.FnFactorsAndOrders': WHATEVER THE INPUT: true; the input reads as it did. -/
def fnFactorsAndOrdersSpec : ChangeSpec := { name := "fnFactorsAndOrders", fn := fun _ => fun
  | [d1, d2] => { results := [.lit (.bool true)], args := [d1, d2] }
  | _ => none }
def fnFactorsAndOrdersRow : OpenClaim := { program := "ytigkmdlbijdoaaa", sum := "3c6916b3ded71a8f51367505164eecafb3a4b28f10a970fbf20beee6094ee036", func := "loop.example/g01146/laws.FnFactorsAndOrders", spec := "fnFactorsAndOrders", unfollowed := true, recurses := true, apart := false }
def FnFactorsAndOrdersSaid : Prop := fnFactorsAndOrdersRow.holds Try.pinned (OpenSpec.ofChange fnFactorsAndOrdersSpec)

/-- ITS FALSE NEIGHBOUR: 'it returns false'. Refute it at one input. -/
def fnFactorsAndOrdersWrong : ChangeSpec := { name := "fnFactorsAndOrders", fn := fun _ => fun
  | [d1, d2] => { results := [.lit (.bool false)], args := [d1, d2] }
  | _ => none }
def FnFactorsAndOrdersWrongFalsely : Prop := fnFactorsAndOrdersRow.holds Try.pinned (OpenSpec.ofChange fnFactorsAndOrdersWrong)

/- THE SECOND FORM. 'bulk': how many values and letters a reading holds, each counted each time it is reached (what is shared counts as often as it is met; a slice's spare places count too). A statement '..UptoSaid' is the law's where the arguments, and the package variables that the reading takes, are together of bulk at most 1048576: NARROWER than '..Said'. Prove '..Said' where nothing that the law and all that it calls make is longer than what came in: it says more and counts as full. Else prove '..UptoSaid'. A law counts once. -/
mutual
def uptoBulk {H : Type} : DataW H → Nat
  | .lit (.string bytes) => bytes.length + 1
  | .lit _ => 1
  | .nil => 1
  | .ptr d => uptoBulk d + 1
  | .slice elems spare => uptoBulkAll elems + uptoBulkAll spare + 1
  | .agg parts => uptoBulkAll parts + 1
  | .iface _ d => uptoBulk d + 1
  | .map entries => uptoBulkEntries entries + 1
  | .held _ => 1
def uptoBulkAll {H : Type} : List (DataW H) → Nat
  | [] => 0
  | d :: r => uptoBulk d + uptoBulkAll r
def uptoBulkEntries {H : Type} : List (Lit × DataW H) → Nat
  | [] => 0
  | x :: r => uptoBulkEntry x + uptoBulkEntries r
def uptoBulkEntry {H : Type} : Lit × DataW H → Nat
  | (.string bytes, d) => bytes.length + uptoBulk d + 1
  | (_, d) => uptoBulk d + 1
 end
def uptoSmall : (H : Type) → List (DataW H) → Bool := fun _ ds => decide (uptoBulkAll ds ≤ 1048576)
def OpenSpec.upto (s : _root_.Go.ChangeSpec) : _root_.Go.OpenSpec := { _root_.Go.OpenSpec.ofChange s with cond := some uptoSmall }

/-- 'laws.FnExactSolvePath', WHERE WHAT IT READS IS OF BULK AT MOST 1048576: true; the input reads as it did. -/
def fnExactSolvePathUptoRow : OpenClaim := { program := "ytigkmdlbijdoaaa", sum := "3c6916b3ded71a8f51367505164eecafb3a4b28f10a970fbf20beee6094ee036", func := "loop.example/g01146/laws.FnExactSolvePath", spec := "fnExactSolvePath", unfollowed := true, recurses := true, apart := false, narrowed := true }
def FnExactSolvePathUptoSaid : Prop := fnExactSolvePathUptoRow.holds Try.pinned (OpenSpec.upto fnExactSolvePathSpec)

/-- 'laws.FnExactPowerModulo', WHERE WHAT IT READS IS OF BULK AT MOST 1048576: true; the input reads as it did. -/
def fnExactPowerModuloUptoRow : OpenClaim := { program := "ytigkmdlbijdoaaa", sum := "3c6916b3ded71a8f51367505164eecafb3a4b28f10a970fbf20beee6094ee036", func := "loop.example/g01146/laws.FnExactPowerModulo", spec := "fnExactPowerModulo", unfollowed := true, recurses := true, apart := false, narrowed := true }
def FnExactPowerModuloUptoSaid : Prop := fnExactPowerModuloUptoRow.holds Try.pinned (OpenSpec.upto fnExactPowerModuloSpec)

/-- 'laws.FnFibonaccisPolynomials', WHERE WHAT IT READS IS OF BULK AT MOST 1048576: true; the input reads as it did. -/
def fnFibonaccisPolynomialsUptoRow : OpenClaim := { program := "ytigkmdlbijdoaaa", sum := "3c6916b3ded71a8f51367505164eecafb3a4b28f10a970fbf20beee6094ee036", func := "loop.example/g01146/laws.FnFibonaccisPolynomials", spec := "fnFibonaccisPolynomials", unfollowed := true, recurses := true, apart := false, narrowed := true }
def FnFibonaccisPolynomialsUptoSaid : Prop := fnFibonaccisPolynomialsUptoRow.holds Try.pinned (OpenSpec.upto fnFibonaccisPolynomialsSpec)

/-- 'laws.FnExactIsIrreducible', WHERE WHAT IT READS IS OF BULK AT MOST 1048576: true; the input reads as it did. -/
def fnExactIsIrreducibleUptoRow : OpenClaim := { program := "ytigkmdlbijdoaaa", sum := "3c6916b3ded71a8f51367505164eecafb3a4b28f10a970fbf20beee6094ee036", func := "loop.example/g01146/laws.FnExactIsIrreducible", spec := "fnExactIsIrreducible", unfollowed := true, recurses := true, apart := false, narrowed := true }
def FnExactIsIrreducibleUptoSaid : Prop := fnExactIsIrreducibleUptoRow.holds Try.pinned (OpenSpec.upto fnExactIsIrreducibleSpec)

/-- 'laws.FnExactFactorsOf', WHERE WHAT IT READS IS OF BULK AT MOST 1048576: true; the input reads as it did. -/
def fnExactFactorsOfUptoRow : OpenClaim := { program := "ytigkmdlbijdoaaa", sum := "3c6916b3ded71a8f51367505164eecafb3a4b28f10a970fbf20beee6094ee036", func := "loop.example/g01146/laws.FnExactFactorsOf", spec := "fnExactFactorsOf", unfollowed := true, recurses := true, apart := false, narrowed := true }
def FnExactFactorsOfUptoSaid : Prop := fnExactFactorsOfUptoRow.holds Try.pinned (OpenSpec.upto fnExactFactorsOfSpec)

/-- 'laws.FnFactorsAndOrders', WHERE WHAT IT READS IS OF BULK AT MOST 1048576: true; the input reads as it did. -/
def fnFactorsAndOrdersUptoRow : OpenClaim := { program := "ytigkmdlbijdoaaa", sum := "3c6916b3ded71a8f51367505164eecafb3a4b28f10a970fbf20beee6094ee036", func := "loop.example/g01146/laws.FnFactorsAndOrders", spec := "fnFactorsAndOrders", unfollowed := true, recurses := true, apart := false, narrowed := true }
def FnFactorsAndOrdersUptoSaid : Prop := fnFactorsAndOrdersUptoRow.holds Try.pinned (OpenSpec.upto fnFactorsAndOrdersSpec)

end Rows
end Go.Proofs.Ytigkmdlbijdoaaa
