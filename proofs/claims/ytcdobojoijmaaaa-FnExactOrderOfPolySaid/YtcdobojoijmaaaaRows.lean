/-
  No cell of these rows narrows 'for every input' (looked for: loops, veiled, ifaces, maps, wideKeys, modest, calm, conditions, laid).
  DERIVED. THE GIVEN ROWS OF THIS SEAT. 12 by the template 'for every input the law returns true; each argument reads behind the call as it read before'; 0 by the template 'total and deterministic' (their statements: YtcdobojoijmaaaaTotals.lean).
  GIVEN WITH THE SEED: the statements are not yours to turn. If you find one false, say at which input.
  Laid BY PROGRAM, IN A SANDBOX (cutbox-rows.mjs): the forced cells as the released guide's own fill.sh prints them over the translation 699ae6c519c5a270… (all of the seat's roots in one cut). By AI agents, Wed Nov 11 2026. No macro, syntax, notation, axiom, sorry.
-/
import Derived.Test.YtcdobojoijmaaaaChecked
import GoSem.Claim
import GoSem.ClaimJoined
import GoSem.ClaimMapViews
import Derived.JoinedTies
import Derived.KernelRfl
namespace Go.Proofs.Ytcdobojoijmaaaa
/- THE CELL 'sum', in the pinned program and in every row, IS THE sha256 OF THE DUMP (.gsa) THAT YtcdobojoijmaaaaProg.lean LOADS. Nothing in Lean hashes anything: it is a label: what it is worth is what the hold of that sum in a sandbox is worth. -/
noncomputable def Try.pinned : Pinned := { name := "ytcdobojoijmaaaa", sum := "699ae6c519c5a2706467f5ec674b3e601657df369c224ecc027eb37c490e00a2", checked := Try.checked }
namespace Rows
def none {H : Type} : Left H := { results := [], args := [] }

/-- 'laws.FnExactPathNullity': WHATEVER THE INPUT: true; the input reads as it did. -/
def fnExactPathNullitySpec : ChangeSpec := { name := "fnExactPathNullity", fn := fun _ => fun
  | [d1, d2] => { results := [.lit (.bool true)], args := [d1, d2] }
  | _ => none }
def fnExactPathNullityRow : OpenClaim := { program := "ytcdobojoijmaaaa", sum := "699ae6c519c5a2706467f5ec674b3e601657df369c224ecc027eb37c490e00a2", func := "loop.example/g01146/laws.FnExactPathNullity", spec := "fnExactPathNullity", apart := false }
def FnExactPathNullitySaid : Prop := fnExactPathNullityRow.holds Try.pinned (OpenSpec.ofChange fnExactPathNullitySpec)

/-- ITS FALSE NEIGHBOUR: 'it returns false'. Refute it at one input. -/
def fnExactPathNullityWrong : ChangeSpec := { name := "fnExactPathNullity", fn := fun _ => fun
  | [d1, d2] => { results := [.lit (.bool false)], args := [d1, d2] }
  | _ => none }
def FnExactPathNullityWrongFalsely : Prop := fnExactPathNullityRow.holds Try.pinned (OpenSpec.ofChange fnExactPathNullityWrong)

/-- 'laws.FnExactCircleNullity': WHATEVER THE INPUT: true; the input reads as it did. -/
def fnExactCircleNullitySpec : ChangeSpec := { name := "fnExactCircleNullity", fn := fun _ => fun
  | [d1, d2] => { results := [.lit (.bool true)], args := [d1, d2] }
  | _ => none }
def fnExactCircleNullityRow : OpenClaim := { program := "ytcdobojoijmaaaa", sum := "699ae6c519c5a2706467f5ec674b3e601657df369c224ecc027eb37c490e00a2", func := "loop.example/g01146/laws.FnExactCircleNullity", spec := "fnExactCircleNullity", apart := false }
def FnExactCircleNullitySaid : Prop := fnExactCircleNullityRow.holds Try.pinned (OpenSpec.ofChange fnExactCircleNullitySpec)

/-- ITS FALSE NEIGHBOUR: 'it returns false'. Refute it at one input. -/
def fnExactCircleNullityWrong : ChangeSpec := { name := "fnExactCircleNullity", fn := fun _ => fun
  | [d1, d2] => { results := [.lit (.bool false)], args := [d1, d2] }
  | _ => none }
def FnExactCircleNullityWrongFalsely : Prop := fnExactCircleNullityRow.holds Try.pinned (OpenSpec.ofChange fnExactCircleNullityWrong)

/-- 'laws.FnExactColoursText': WHATEVER THE INPUT: true; the input reads as it did. -/
def fnExactColoursTextSpec : ChangeSpec := { name := "fnExactColoursText", fn := fun _ => fun
  | [d] => { results := [.lit (.bool true)], args := [d] }
  | _ => none }
def fnExactColoursTextRow : OpenClaim := { program := "ytcdobojoijmaaaa", sum := "699ae6c519c5a2706467f5ec674b3e601657df369c224ecc027eb37c490e00a2", func := "loop.example/g01146/laws.FnExactColoursText", spec := "fnExactColoursText", unfollowed := true, recurses := true, apart := false }
def FnExactColoursTextSaid : Prop := fnExactColoursTextRow.holds Try.pinned (OpenSpec.ofChange fnExactColoursTextSpec)

/-- ITS FALSE NEIGHBOUR: 'it returns false'. Refute it at one input. -/
def fnExactColoursTextWrong : ChangeSpec := { name := "fnExactColoursText", fn := fun _ => fun
  | [d] => { results := [.lit (.bool false)], args := [d] }
  | _ => none }
def FnExactColoursTextWrongFalsely : Prop := fnExactColoursTextRow.holds Try.pinned (OpenSpec.ofChange fnExactColoursTextWrong)

/-- 'laws.FnExactParseColours': WHATEVER THE INPUT: true; the input reads as it did. -/
def fnExactParseColoursSpec : ChangeSpec := { name := "fnExactParseColours", fn := fun _ => fun
  | [d] => { results := [.lit (.bool true)], args := [d] }
  | _ => none }
def fnExactParseColoursRow : OpenClaim := { program := "ytcdobojoijmaaaa", sum := "699ae6c519c5a2706467f5ec674b3e601657df369c224ecc027eb37c490e00a2", func := "loop.example/g01146/laws.FnExactParseColours", spec := "fnExactParseColours", unfollowed := true, recurses := true, apart := false }
def FnExactParseColoursSaid : Prop := fnExactParseColoursRow.holds Try.pinned (OpenSpec.ofChange fnExactParseColoursSpec)

/-- ITS FALSE NEIGHBOUR: 'it returns false'. Refute it at one input. -/
def fnExactParseColoursWrong : ChangeSpec := { name := "fnExactParseColours", fn := fun _ => fun
  | [d] => { results := [.lit (.bool false)], args := [d] }
  | _ => none }
def FnExactParseColoursWrongFalsely : Prop := fnExactParseColoursRow.holds Try.pinned (OpenSpec.ofChange fnExactParseColoursWrong)

/-- 'laws.FnExactBinaryTree': WHATEVER THE INPUT: true; the input reads as it did. -/
def fnExactBinaryTreeSpec : ChangeSpec := { name := "fnExactBinaryTree", fn := fun _ => fun
  | [d1, d2] => { results := [.lit (.bool true)], args := [d1, d2] }
  | _ => none }
def fnExactBinaryTreeRow : OpenClaim := { program := "ytcdobojoijmaaaa", sum := "699ae6c519c5a2706467f5ec674b3e601657df369c224ecc027eb37c490e00a2", func := "loop.example/g01146/laws.FnExactBinaryTree", spec := "fnExactBinaryTree", apart := false }
def FnExactBinaryTreeSaid : Prop := fnExactBinaryTreeRow.holds Try.pinned (OpenSpec.ofChange fnExactBinaryTreeSpec)

/-- ITS FALSE NEIGHBOUR: 'it returns false'. Refute it at one input. -/
def fnExactBinaryTreeWrong : ChangeSpec := { name := "fnExactBinaryTree", fn := fun _ => fun
  | [d1, d2] => { results := [.lit (.bool false)], args := [d1, d2] }
  | _ => none }
def FnExactBinaryTreeWrongFalsely : Prop := fnExactBinaryTreeRow.holds Try.pinned (OpenSpec.ofChange fnExactBinaryTreeWrong)

/-- 'laws.FnExactStarGraph': WHATEVER THE INPUT: true; the input reads as it did. -/
def fnExactStarGraphSpec : ChangeSpec := { name := "fnExactStarGraph", fn := fun _ => fun
  | [d1, d2] => { results := [.lit (.bool true)], args := [d1, d2] }
  | _ => none }
def fnExactStarGraphRow : OpenClaim := { program := "ytcdobojoijmaaaa", sum := "699ae6c519c5a2706467f5ec674b3e601657df369c224ecc027eb37c490e00a2", func := "loop.example/g01146/laws.FnExactStarGraph", spec := "fnExactStarGraph", apart := false }
def FnExactStarGraphSaid : Prop := fnExactStarGraphRow.holds Try.pinned (OpenSpec.ofChange fnExactStarGraphSpec)

/-- ITS FALSE NEIGHBOUR: 'it returns false'. Refute it at one input. -/
def fnExactStarGraphWrong : ChangeSpec := { name := "fnExactStarGraph", fn := fun _ => fun
  | [d1, d2] => { results := [.lit (.bool false)], args := [d1, d2] }
  | _ => none }
def FnExactStarGraphWrongFalsely : Prop := fnExactStarGraphRow.holds Try.pinned (OpenSpec.ofChange fnExactStarGraphWrong)

/-- 'laws.FnExactFromParents': WHATEVER THE INPUT: true; the input reads as it did. -/
def fnExactFromParentsSpec : ChangeSpec := { name := "fnExactFromParents", fn := fun _ => fun
  | [d1, d2] => { results := [.lit (.bool true)], args := [d1, d2] }
  | _ => none }
def fnExactFromParentsRow : OpenClaim := { program := "ytcdobojoijmaaaa", sum := "699ae6c519c5a2706467f5ec674b3e601657df369c224ecc027eb37c490e00a2", func := "loop.example/g01146/laws.FnExactFromParents", spec := "fnExactFromParents", apart := false }
def FnExactFromParentsSaid : Prop := fnExactFromParentsRow.holds Try.pinned (OpenSpec.ofChange fnExactFromParentsSpec)

/-- ITS FALSE NEIGHBOUR: 'it returns false'. Refute it at one input. -/
def fnExactFromParentsWrong : ChangeSpec := { name := "fnExactFromParents", fn := fun _ => fun
  | [d1, d2] => { results := [.lit (.bool false)], args := [d1, d2] }
  | _ => none }
def FnExactFromParentsWrongFalsely : Prop := fnExactFromParentsRow.holds Try.pinned (OpenSpec.ofChange fnExactFromParentsWrong)

/-- 'laws.FnExactTimesPoly': WHATEVER THE INPUT: true; the input reads as it did. -/
def fnExactTimesPolySpec : ChangeSpec := { name := "fnExactTimesPoly", fn := fun _ => fun
  | [d1, d2] => { results := [.lit (.bool true)], args := [d1, d2] }
  | _ => none }
def fnExactTimesPolyRow : OpenClaim := { program := "ytcdobojoijmaaaa", sum := "699ae6c519c5a2706467f5ec674b3e601657df369c224ecc027eb37c490e00a2", func := "loop.example/g01146/laws.FnExactTimesPoly", spec := "fnExactTimesPoly", unfollowed := true, recurses := true, apart := false }
def FnExactTimesPolySaid : Prop := fnExactTimesPolyRow.holds Try.pinned (OpenSpec.ofChange fnExactTimesPolySpec)

/-- ITS FALSE NEIGHBOUR: 'it returns false'. Refute it at one input. -/
def fnExactTimesPolyWrong : ChangeSpec := { name := "fnExactTimesPoly", fn := fun _ => fun
  | [d1, d2] => { results := [.lit (.bool false)], args := [d1, d2] }
  | _ => none }
def FnExactTimesPolyWrongFalsely : Prop := fnExactTimesPolyRow.holds Try.pinned (OpenSpec.ofChange fnExactTimesPolyWrong)

/-- 'laws.FnExactShiftPoly': WHATEVER THE INPUT: true; the input reads as it did. -/
def fnExactShiftPolySpec : ChangeSpec := { name := "fnExactShiftPoly", fn := fun _ => fun
  | [d] => { results := [.lit (.bool true)], args := [d] }
  | _ => none }
def fnExactShiftPolyRow : OpenClaim := { program := "ytcdobojoijmaaaa", sum := "699ae6c519c5a2706467f5ec674b3e601657df369c224ecc027eb37c490e00a2", func := "loop.example/g01146/laws.FnExactShiftPoly", spec := "fnExactShiftPoly", unfollowed := true, recurses := true, apart := false }
def FnExactShiftPolySaid : Prop := fnExactShiftPolyRow.holds Try.pinned (OpenSpec.ofChange fnExactShiftPolySpec)

/-- ITS FALSE NEIGHBOUR: 'it returns false'. Refute it at one input. -/
def fnExactShiftPolyWrong : ChangeSpec := { name := "fnExactShiftPoly", fn := fun _ => fun
  | [d] => { results := [.lit (.bool false)], args := [d] }
  | _ => none }
def FnExactShiftPolyWrongFalsely : Prop := fnExactShiftPolyRow.holds Try.pinned (OpenSpec.ofChange fnExactShiftPolyWrong)

/-- 'laws.FnExactGcdPoly': WHATEVER THE INPUT: true; the input reads as it did. -/
def fnExactGcdPolySpec : ChangeSpec := { name := "fnExactGcdPoly", fn := fun _ => fun
  | [d1, d2] => { results := [.lit (.bool true)], args := [d1, d2] }
  | _ => none }
def fnExactGcdPolyRow : OpenClaim := { program := "ytcdobojoijmaaaa", sum := "699ae6c519c5a2706467f5ec674b3e601657df369c224ecc027eb37c490e00a2", func := "loop.example/g01146/laws.FnExactGcdPoly", spec := "fnExactGcdPoly", unfollowed := true, recurses := true, apart := false }
def FnExactGcdPolySaid : Prop := fnExactGcdPolyRow.holds Try.pinned (OpenSpec.ofChange fnExactGcdPolySpec)

/-- ITS FALSE NEIGHBOUR: 'it returns false'. Refute it at one input. -/
def fnExactGcdPolyWrong : ChangeSpec := { name := "fnExactGcdPoly", fn := fun _ => fun
  | [d1, d2] => { results := [.lit (.bool false)], args := [d1, d2] }
  | _ => none }
def FnExactGcdPolyWrongFalsely : Prop := fnExactGcdPolyRow.holds Try.pinned (OpenSpec.ofChange fnExactGcdPolyWrong)

/-- 'laws.FnExactOrderOfPoly': WHATEVER THE INPUT: true; the input reads as it did. -/
def fnExactOrderOfPolySpec : ChangeSpec := { name := "fnExactOrderOfPoly", fn := fun _ => fun
  | [d] => { results := [.lit (.bool true)], args := [d] }
  | _ => none }
def fnExactOrderOfPolyRow : OpenClaim := { program := "ytcdobojoijmaaaa", sum := "699ae6c519c5a2706467f5ec674b3e601657df369c224ecc027eb37c490e00a2", func := "loop.example/g01146/laws.FnExactOrderOfPoly", spec := "fnExactOrderOfPoly", unfollowed := true, recurses := true, apart := false }
def FnExactOrderOfPolySaid : Prop := fnExactOrderOfPolyRow.holds Try.pinned (OpenSpec.ofChange fnExactOrderOfPolySpec)

/-- ITS FALSE NEIGHBOUR: 'it returns false'. Refute it at one input. -/
def fnExactOrderOfPolyWrong : ChangeSpec := { name := "fnExactOrderOfPoly", fn := fun _ => fun
  | [d] => { results := [.lit (.bool false)], args := [d] }
  | _ => none }
def FnExactOrderOfPolyWrongFalsely : Prop := fnExactOrderOfPolyRow.holds Try.pinned (OpenSpec.ofChange fnExactOrderOfPolyWrong)

/-- 'laws.FnExactFirstFibonacci': WHATEVER THE INPUT: true; the input reads as it did. -/
def fnExactFirstFibonacciSpec : ChangeSpec := { name := "fnExactFirstFibonacci", fn := fun _ => fun
  | [d] => { results := [.lit (.bool true)], args := [d] }
  | _ => none }
def fnExactFirstFibonacciRow : OpenClaim := { program := "ytcdobojoijmaaaa", sum := "699ae6c519c5a2706467f5ec674b3e601657df369c224ecc027eb37c490e00a2", func := "loop.example/g01146/laws.FnExactFirstFibonacci", spec := "fnExactFirstFibonacci", unfollowed := true, recurses := true, apart := false }
def FnExactFirstFibonacciSaid : Prop := fnExactFirstFibonacciRow.holds Try.pinned (OpenSpec.ofChange fnExactFirstFibonacciSpec)

/-- ITS FALSE NEIGHBOUR: 'it returns false'. Refute it at one input. -/
def fnExactFirstFibonacciWrong : ChangeSpec := { name := "fnExactFirstFibonacci", fn := fun _ => fun
  | [d] => { results := [.lit (.bool false)], args := [d] }
  | _ => none }
def FnExactFirstFibonacciWrongFalsely : Prop := fnExactFirstFibonacciRow.holds Try.pinned (OpenSpec.ofChange fnExactFirstFibonacciWrong)

/- THE SECOND FORM. 'bulk': how many values and letters a reading holds, each counted each time it is reached (what is shared counts as often as it is met; a slice's spare places count too). A statement '..UptoSaid' is the law's where the arguments, and the package variables that the reading takes, are together of bulk at most 1048576: NARROWER than '..Said'. Prove '..Said' where nothing that the law and all that it calls make is longer than what came in: it says more and counts as full. Else prove '..UptoSaid'. A law counts once. -/
mutual
def uptoBulk {H : Type} : DataW H → Nat
  | .lit (.string bytes) => bytes.length + 1
  | .lit _ => 1
  | .nil => 1
  | .ptr d => uptoBulk d + 1
  | .slice elems spare => uptoBulkAll elems + uptoBulkAll spare + 1
  | .agg parts => uptoBulkAll parts + 1
  | .iface _ d => uptoBulk d + 1
  | .map entries => uptoBulkEntries entries + 1
  | .held _ => 1
def uptoBulkAll {H : Type} : List (DataW H) → Nat
  | [] => 0
  | d :: r => uptoBulk d + uptoBulkAll r
def uptoBulkEntries {H : Type} : List (Lit × DataW H) → Nat
  | [] => 0
  | x :: r => uptoBulkEntry x + uptoBulkEntries r
def uptoBulkEntry {H : Type} : Lit × DataW H → Nat
  | (.string bytes, d) => bytes.length + uptoBulk d + 1
  | (_, d) => uptoBulk d + 1
 end
def uptoSmall : (H : Type) → List (DataW H) → Bool := fun _ ds => decide (uptoBulkAll ds ≤ 1048576)
def OpenSpec.upto (s : _root_.Go.ChangeSpec) : _root_.Go.OpenSpec := { _root_.Go.OpenSpec.ofChange s with cond := some uptoSmall }

/-- 'laws.FnExactPathNullity', WHERE WHAT IT READS IS OF BULK AT MOST 1048576: true; the input reads as it did. -/
def fnExactPathNullityUptoRow : OpenClaim := { program := "ytcdobojoijmaaaa", sum := "699ae6c519c5a2706467f5ec674b3e601657df369c224ecc027eb37c490e00a2", func := "loop.example/g01146/laws.FnExactPathNullity", spec := "fnExactPathNullity", apart := false, narrowed := true }
def FnExactPathNullityUptoSaid : Prop := fnExactPathNullityUptoRow.holds Try.pinned (OpenSpec.upto fnExactPathNullitySpec)

/-- 'laws.FnExactCircleNullity', WHERE WHAT IT READS IS OF BULK AT MOST 1048576: true; the input reads as it did. -/
def fnExactCircleNullityUptoRow : OpenClaim := { program := "ytcdobojoijmaaaa", sum := "699ae6c519c5a2706467f5ec674b3e601657df369c224ecc027eb37c490e00a2", func := "loop.example/g01146/laws.FnExactCircleNullity", spec := "fnExactCircleNullity", apart := false, narrowed := true }
def FnExactCircleNullityUptoSaid : Prop := fnExactCircleNullityUptoRow.holds Try.pinned (OpenSpec.upto fnExactCircleNullitySpec)

/-- 'laws.FnExactColoursText', WHERE WHAT IT READS IS OF BULK AT MOST 1048576: true; the input reads as it did. -/
def fnExactColoursTextUptoRow : OpenClaim := { program := "ytcdobojoijmaaaa", sum := "699ae6c519c5a2706467f5ec674b3e601657df369c224ecc027eb37c490e00a2", func := "loop.example/g01146/laws.FnExactColoursText", spec := "fnExactColoursText", unfollowed := true, recurses := true, apart := false, narrowed := true }
def FnExactColoursTextUptoSaid : Prop := fnExactColoursTextUptoRow.holds Try.pinned (OpenSpec.upto fnExactColoursTextSpec)

/-- 'laws.FnExactParseColours', WHERE WHAT IT READS IS OF BULK AT MOST 1048576: true; the input reads as it did. -/
def fnExactParseColoursUptoRow : OpenClaim := { program := "ytcdobojoijmaaaa", sum := "699ae6c519c5a2706467f5ec674b3e601657df369c224ecc027eb37c490e00a2", func := "loop.example/g01146/laws.FnExactParseColours", spec := "fnExactParseColours", unfollowed := true, recurses := true, apart := false, narrowed := true }
def FnExactParseColoursUptoSaid : Prop := fnExactParseColoursUptoRow.holds Try.pinned (OpenSpec.upto fnExactParseColoursSpec)

/-- 'laws.FnExactBinaryTree', WHERE WHAT IT READS IS OF BULK AT MOST 1048576: true; the input reads as it did. -/
def fnExactBinaryTreeUptoRow : OpenClaim := { program := "ytcdobojoijmaaaa", sum := "699ae6c519c5a2706467f5ec674b3e601657df369c224ecc027eb37c490e00a2", func := "loop.example/g01146/laws.FnExactBinaryTree", spec := "fnExactBinaryTree", apart := false, narrowed := true }
def FnExactBinaryTreeUptoSaid : Prop := fnExactBinaryTreeUptoRow.holds Try.pinned (OpenSpec.upto fnExactBinaryTreeSpec)

/-- 'laws.FnExactStarGraph', WHERE WHAT IT READS IS OF BULK AT MOST 1048576: true; the input reads as it did. -/
def fnExactStarGraphUptoRow : OpenClaim := { program := "ytcdobojoijmaaaa", sum := "699ae6c519c5a2706467f5ec674b3e601657df369c224ecc027eb37c490e00a2", func := "loop.example/g01146/laws.FnExactStarGraph", spec := "fnExactStarGraph", apart := false, narrowed := true }
def FnExactStarGraphUptoSaid : Prop := fnExactStarGraphUptoRow.holds Try.pinned (OpenSpec.upto fnExactStarGraphSpec)

/-- 'laws.FnExactFromParents', WHERE WHAT IT READS IS OF BULK AT MOST 1048576: true; the input reads as it did. -/
def fnExactFromParentsUptoRow : OpenClaim := { program := "ytcdobojoijmaaaa", sum := "699ae6c519c5a2706467f5ec674b3e601657df369c224ecc027eb37c490e00a2", func := "loop.example/g01146/laws.FnExactFromParents", spec := "fnExactFromParents", apart := false, narrowed := true }
def FnExactFromParentsUptoSaid : Prop := fnExactFromParentsUptoRow.holds Try.pinned (OpenSpec.upto fnExactFromParentsSpec)

/-- 'laws.FnExactTimesPoly', WHERE WHAT IT READS IS OF BULK AT MOST 1048576: true; the input reads as it did. -/
def fnExactTimesPolyUptoRow : OpenClaim := { program := "ytcdobojoijmaaaa", sum := "699ae6c519c5a2706467f5ec674b3e601657df369c224ecc027eb37c490e00a2", func := "loop.example/g01146/laws.FnExactTimesPoly", spec := "fnExactTimesPoly", unfollowed := true, recurses := true, apart := false, narrowed := true }
def FnExactTimesPolyUptoSaid : Prop := fnExactTimesPolyUptoRow.holds Try.pinned (OpenSpec.upto fnExactTimesPolySpec)

/-- 'laws.FnExactShiftPoly', WHERE WHAT IT READS IS OF BULK AT MOST 1048576: true; the input reads as it did. -/
def fnExactShiftPolyUptoRow : OpenClaim := { program := "ytcdobojoijmaaaa", sum := "699ae6c519c5a2706467f5ec674b3e601657df369c224ecc027eb37c490e00a2", func := "loop.example/g01146/laws.FnExactShiftPoly", spec := "fnExactShiftPoly", unfollowed := true, recurses := true, apart := false, narrowed := true }
def FnExactShiftPolyUptoSaid : Prop := fnExactShiftPolyUptoRow.holds Try.pinned (OpenSpec.upto fnExactShiftPolySpec)

/-- 'laws.FnExactGcdPoly', WHERE WHAT IT READS IS OF BULK AT MOST 1048576: true; the input reads as it did. -/
def fnExactGcdPolyUptoRow : OpenClaim := { program := "ytcdobojoijmaaaa", sum := "699ae6c519c5a2706467f5ec674b3e601657df369c224ecc027eb37c490e00a2", func := "loop.example/g01146/laws.FnExactGcdPoly", spec := "fnExactGcdPoly", unfollowed := true, recurses := true, apart := false, narrowed := true }
def FnExactGcdPolyUptoSaid : Prop := fnExactGcdPolyUptoRow.holds Try.pinned (OpenSpec.upto fnExactGcdPolySpec)

/-- 'laws.FnExactOrderOfPoly', WHERE WHAT IT READS IS OF BULK AT MOST 1048576: true; the input reads as it did. -/
def fnExactOrderOfPolyUptoRow : OpenClaim := { program := "ytcdobojoijmaaaa", sum := "699ae6c519c5a2706467f5ec674b3e601657df369c224ecc027eb37c490e00a2", func := "loop.example/g01146/laws.FnExactOrderOfPoly", spec := "fnExactOrderOfPoly", unfollowed := true, recurses := true, apart := false, narrowed := true }
def FnExactOrderOfPolyUptoSaid : Prop := fnExactOrderOfPolyUptoRow.holds Try.pinned (OpenSpec.upto fnExactOrderOfPolySpec)

/-- 'laws.FnExactFirstFibonacci', WHERE WHAT IT READS IS OF BULK AT MOST 1048576: true; the input reads as it did. -/
def fnExactFirstFibonacciUptoRow : OpenClaim := { program := "ytcdobojoijmaaaa", sum := "699ae6c519c5a2706467f5ec674b3e601657df369c224ecc027eb37c490e00a2", func := "loop.example/g01146/laws.FnExactFirstFibonacci", spec := "fnExactFirstFibonacci", unfollowed := true, recurses := true, apart := false, narrowed := true }
def FnExactFirstFibonacciUptoSaid : Prop := fnExactFirstFibonacciUptoRow.holds Try.pinned (OpenSpec.upto fnExactFirstFibonacciSpec)

end Rows
end Go.Proofs.Ytcdobojoijmaaaa
