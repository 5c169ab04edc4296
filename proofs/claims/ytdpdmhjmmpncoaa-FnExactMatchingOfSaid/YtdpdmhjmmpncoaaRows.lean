/-
  No cell of these rows narrows 'for every input' (looked for: loops, veiled, ifaces, maps, wideKeys, modest, calm, conditions, laid).
  DERIVED. THE GIVEN ROWS OF THIS SEAT. 12 by the template 'for every input the law returns true; each argument reads behind the call as it read before'; 0 by the template 'total and deterministic' (their statements: YtdpdmhjmmpncoaaTotals.lean).
  GIVEN WITH THE SEED: the statements are not yours to turn. If you find one false, say at which input.
  Laid BY PROGRAM, IN A SANDBOX (cutbox-rows.mjs): the forced cells as the released guide's own fill.sh prints them over the translation 7530c78e8cf5a0d9… (all of the seat's roots in one cut). By AI agents, Wed Nov 11 2026. No macro, syntax, notation, axiom, sorry.
-/
import Derived.Test.YtdpdmhjmmpncoaaChecked
import GoSem.Claim
import GoSem.ClaimJoined
import GoSem.ClaimMapViews
import Derived.JoinedTies
import Derived.KernelRfl
namespace Go.Proofs.Ytdpdmhjmmpncoaa
/- THE CELL 'sum', in the pinned program and in every row, IS THE sha256 OF THE DUMP (.gsa) THAT YtdpdmhjmmpncoaaProg.lean LOADS. Nothing in Lean hashes anything: it is a label: what it is worth is what the hold of that sum in a sandbox is worth. -/
noncomputable def Try.pinned : Pinned := { name := "ytdpdmhjmmpncoaa", sum := "7530c78e8cf5a0d9451e63954b91354edf18abe6c27e693ebf4e4a5881ea98ba", checked := Try.checked }
namespace Rows
def none {H : Type} : Left H := { results := [], args := [] }

/-- 'laws.FnExactPartsOf': WHATEVER THE INPUT: true; the input reads as it did. -/
def fnExactPartsOfSpec : ChangeSpec := { name := "fnExactPartsOf", fn := fun _ => fun
  | [d] => { results := [.lit (.bool true)], args := [d] }
  | _ => none }
def fnExactPartsOfRow : OpenClaim := { program := "ytdpdmhjmmpncoaa", sum := "7530c78e8cf5a0d9451e63954b91354edf18abe6c27e693ebf4e4a5881ea98ba", func := "loop.example/g01146/laws.FnExactPartsOf", spec := "fnExactPartsOf", plainKeys := false, apart := false }
def FnExactPartsOfSaid : Prop := fnExactPartsOfRow.holds Try.pinned (OpenSpec.ofChange fnExactPartsOfSpec)

/-- ITS FALSE NEIGHBOUR: 'it returns false'. Refute it at one input. -/
def fnExactPartsOfWrong : ChangeSpec := { name := "fnExactPartsOf", fn := fun _ => fun
  | [d] => { results := [.lit (.bool false)], args := [d] }
  | _ => none }
def FnExactPartsOfWrongFalsely : Prop := fnExactPartsOfRow.holds Try.pinned (OpenSpec.ofChange fnExactPartsOfWrong)

/-- 'laws.FnExactIsForest': WHATEVER THE INPUT: true; the input reads as it did. -/
def fnExactIsForestSpec : ChangeSpec := { name := "fnExactIsForest", fn := fun _ => fun
  | [d] => { results := [.lit (.bool true)], args := [d] }
  | _ => none }
def fnExactIsForestRow : OpenClaim := { program := "ytdpdmhjmmpncoaa", sum := "7530c78e8cf5a0d9451e63954b91354edf18abe6c27e693ebf4e4a5881ea98ba", func := "loop.example/g01146/laws.FnExactIsForest", spec := "fnExactIsForest", plainKeys := false, apart := false }
def FnExactIsForestSaid : Prop := fnExactIsForestRow.holds Try.pinned (OpenSpec.ofChange fnExactIsForestSpec)

/-- ITS FALSE NEIGHBOUR: 'it returns false'. Refute it at one input. -/
def fnExactIsForestWrong : ChangeSpec := { name := "fnExactIsForest", fn := fun _ => fun
  | [d] => { results := [.lit (.bool false)], args := [d] }
  | _ => none }
def FnExactIsForestWrongFalsely : Prop := fnExactIsForestRow.holds Try.pinned (OpenSpec.ofChange fnExactIsForestWrong)

/-- 'laws.FnExactCountEvenEdges': WHATEVER THE INPUT: true; the input reads as it did. -/
def fnExactCountEvenEdgesSpec : ChangeSpec := { name := "fnExactCountEvenEdges", fn := fun _ => fun
  | [d] => { results := [.lit (.bool true)], args := [d] }
  | _ => none }
def fnExactCountEvenEdgesRow : OpenClaim := { program := "ytdpdmhjmmpncoaa", sum := "7530c78e8cf5a0d9451e63954b91354edf18abe6c27e693ebf4e4a5881ea98ba", func := "loop.example/g01146/laws.FnExactCountEvenEdges", spec := "fnExactCountEvenEdges", plainKeys := false, apart := false }
def FnExactCountEvenEdgesSaid : Prop := fnExactCountEvenEdgesRow.holds Try.pinned (OpenSpec.ofChange fnExactCountEvenEdgesSpec)

/-- ITS FALSE NEIGHBOUR: 'it returns false'. Refute it at one input. -/
def fnExactCountEvenEdgesWrong : ChangeSpec := { name := "fnExactCountEvenEdges", fn := fun _ => fun
  | [d] => { results := [.lit (.bool false)], args := [d] }
  | _ => none }
def FnExactCountEvenEdgesWrongFalsely : Prop := fnExactCountEvenEdgesRow.holds Try.pinned (OpenSpec.ofChange fnExactCountEvenEdgesWrong)

/-- 'laws.FnExactIsEvenEdges': WHATEVER THE INPUT: true; the input reads as it did. -/
def fnExactIsEvenEdgesSpec : ChangeSpec := { name := "fnExactIsEvenEdges", fn := fun _ => fun
  | [d1, d2] => { results := [.lit (.bool true)], args := [d1, d2] }
  | _ => none }
def fnExactIsEvenEdgesRow : OpenClaim := { program := "ytdpdmhjmmpncoaa", sum := "7530c78e8cf5a0d9451e63954b91354edf18abe6c27e693ebf4e4a5881ea98ba", func := "loop.example/g01146/laws.FnExactIsEvenEdges", spec := "fnExactIsEvenEdges", unfollowed := true, recurses := true, plainKeys := false, apart := false }
def FnExactIsEvenEdgesSaid : Prop := fnExactIsEvenEdgesRow.holds Try.pinned (OpenSpec.ofChange fnExactIsEvenEdgesSpec)

/-- ITS FALSE NEIGHBOUR: 'it returns false'. Refute it at one input. -/
def fnExactIsEvenEdgesWrong : ChangeSpec := { name := "fnExactIsEvenEdges", fn := fun _ => fun
  | [d1, d2] => { results := [.lit (.bool false)], args := [d1, d2] }
  | _ => none }
def FnExactIsEvenEdgesWrongFalsely : Prop := fnExactIsEvenEdgesRow.holds Try.pinned (OpenSpec.ofChange fnExactIsEvenEdgesWrong)

/-- 'laws.FnExactIsEvenSet': WHATEVER THE INPUT: true; the input reads as it did. -/
def fnExactIsEvenSetSpec : ChangeSpec := { name := "fnExactIsEvenSet", fn := fun _ => fun
  | [d1, d2] => { results := [.lit (.bool true)], args := [d1, d2] }
  | _ => none }
def fnExactIsEvenSetRow : OpenClaim := { program := "ytdpdmhjmmpncoaa", sum := "7530c78e8cf5a0d9451e63954b91354edf18abe6c27e693ebf4e4a5881ea98ba", func := "loop.example/g01146/laws.FnExactIsEvenSet", spec := "fnExactIsEvenSet", unfollowed := true, recurses := true, plainKeys := false, apart := false }
def FnExactIsEvenSetSaid : Prop := fnExactIsEvenSetRow.holds Try.pinned (OpenSpec.ofChange fnExactIsEvenSetSpec)

/-- ITS FALSE NEIGHBOUR: 'it returns false'. Refute it at one input. -/
def fnExactIsEvenSetWrong : ChangeSpec := { name := "fnExactIsEvenSet", fn := fun _ => fun
  | [d1, d2] => { results := [.lit (.bool false)], args := [d1, d2] }
  | _ => none }
def FnExactIsEvenSetWrongFalsely : Prop := fnExactIsEvenSetRow.holds Try.pinned (OpenSpec.ofChange fnExactIsEvenSetWrong)

/-- 'laws.FnExactIsOddSet': WHATEVER THE INPUT: true; the input reads as it did. -/
def fnExactIsOddSetSpec : ChangeSpec := { name := "fnExactIsOddSet", fn := fun _ => fun
  | [d1, d2] => { results := [.lit (.bool true)], args := [d1, d2] }
  | _ => none }
def fnExactIsOddSetRow : OpenClaim := { program := "ytdpdmhjmmpncoaa", sum := "7530c78e8cf5a0d9451e63954b91354edf18abe6c27e693ebf4e4a5881ea98ba", func := "loop.example/g01146/laws.FnExactIsOddSet", spec := "fnExactIsOddSet", unfollowed := true, recurses := true, plainKeys := false, apart := false }
def FnExactIsOddSetSaid : Prop := fnExactIsOddSetRow.holds Try.pinned (OpenSpec.ofChange fnExactIsOddSetSpec)

/-- ITS FALSE NEIGHBOUR: 'it returns false'. Refute it at one input. -/
def fnExactIsOddSetWrong : ChangeSpec := { name := "fnExactIsOddSet", fn := fun _ => fun
  | [d1, d2] => { results := [.lit (.bool false)], args := [d1, d2] }
  | _ => none }
def FnExactIsOddSetWrongFalsely : Prop := fnExactIsOddSetRow.holds Try.pinned (OpenSpec.ofChange fnExactIsOddSetWrong)

/-- 'laws.FnExactDegreesWithin': WHATEVER THE INPUT: true; the input reads as it did. -/
def fnExactDegreesWithinSpec : ChangeSpec := { name := "fnExactDegreesWithin", fn := fun _ => fun
  | [d1, d2] => { results := [.lit (.bool true)], args := [d1, d2] }
  | _ => none }
def fnExactDegreesWithinRow : OpenClaim := { program := "ytdpdmhjmmpncoaa", sum := "7530c78e8cf5a0d9451e63954b91354edf18abe6c27e693ebf4e4a5881ea98ba", func := "loop.example/g01146/laws.FnExactDegreesWithin", spec := "fnExactDegreesWithin", unfollowed := true, recurses := true, plainKeys := false, apart := false }
def FnExactDegreesWithinSaid : Prop := fnExactDegreesWithinRow.holds Try.pinned (OpenSpec.ofChange fnExactDegreesWithinSpec)

/-- ITS FALSE NEIGHBOUR: 'it returns false'. Refute it at one input. -/
def fnExactDegreesWithinWrong : ChangeSpec := { name := "fnExactDegreesWithin", fn := fun _ => fun
  | [d1, d2] => { results := [.lit (.bool false)], args := [d1, d2] }
  | _ => none }
def FnExactDegreesWithinWrongFalsely : Prop := fnExactDegreesWithinRow.holds Try.pinned (OpenSpec.ofChange fnExactDegreesWithinWrong)

/-- 'laws.FnExactCutOf': WHATEVER THE INPUT: true; the input reads as it did. -/
def fnExactCutOfSpec : ChangeSpec := { name := "fnExactCutOf", fn := fun _ => fun
  | [d1, d2] => { results := [.lit (.bool true)], args := [d1, d2] }
  | _ => none }
def fnExactCutOfRow : OpenClaim := { program := "ytdpdmhjmmpncoaa", sum := "7530c78e8cf5a0d9451e63954b91354edf18abe6c27e693ebf4e4a5881ea98ba", func := "loop.example/g01146/laws.FnExactCutOf", spec := "fnExactCutOf", unfollowed := true, recurses := true, plainKeys := false, apart := false }
def FnExactCutOfSaid : Prop := fnExactCutOfRow.holds Try.pinned (OpenSpec.ofChange fnExactCutOfSpec)

/-- ITS FALSE NEIGHBOUR: 'it returns false'. Refute it at one input. -/
def fnExactCutOfWrong : ChangeSpec := { name := "fnExactCutOf", fn := fun _ => fun
  | [d1, d2] => { results := [.lit (.bool false)], args := [d1, d2] }
  | _ => none }
def FnExactCutOfWrongFalsely : Prop := fnExactCutOfRow.holds Try.pinned (OpenSpec.ofChange fnExactCutOfWrong)

/-- 'laws.FnExactLeavesOf': WHATEVER THE INPUT: true; the input reads as it did. -/
def fnExactLeavesOfSpec : ChangeSpec := { name := "fnExactLeavesOf", fn := fun _ => fun
  | [d] => { results := [.lit (.bool true)], args := [d] }
  | _ => none }
def fnExactLeavesOfRow : OpenClaim := { program := "ytdpdmhjmmpncoaa", sum := "7530c78e8cf5a0d9451e63954b91354edf18abe6c27e693ebf4e4a5881ea98ba", func := "loop.example/g01146/laws.FnExactLeavesOf", spec := "fnExactLeavesOf", plainKeys := false, apart := false }
def FnExactLeavesOfSaid : Prop := fnExactLeavesOfRow.holds Try.pinned (OpenSpec.ofChange fnExactLeavesOfSpec)

/-- ITS FALSE NEIGHBOUR: 'it returns false'. Refute it at one input. -/
def fnExactLeavesOfWrong : ChangeSpec := { name := "fnExactLeavesOf", fn := fun _ => fun
  | [d] => { results := [.lit (.bool false)], args := [d] }
  | _ => none }
def FnExactLeavesOfWrongFalsely : Prop := fnExactLeavesOfRow.holds Try.pinned (OpenSpec.ofChange fnExactLeavesOfWrong)

/-- 'laws.FnExactParentsOf': WHATEVER THE INPUT: true; the input reads as it did. -/
def fnExactParentsOfSpec : ChangeSpec := { name := "fnExactParentsOf", fn := fun _ => fun
  | [d] => { results := [.lit (.bool true)], args := [d] }
  | _ => none }
def fnExactParentsOfRow : OpenClaim := { program := "ytdpdmhjmmpncoaa", sum := "7530c78e8cf5a0d9451e63954b91354edf18abe6c27e693ebf4e4a5881ea98ba", func := "loop.example/g01146/laws.FnExactParentsOf", spec := "fnExactParentsOf", plainKeys := false, apart := false }
def FnExactParentsOfSaid : Prop := fnExactParentsOfRow.holds Try.pinned (OpenSpec.ofChange fnExactParentsOfSpec)

/-- ITS FALSE NEIGHBOUR: 'it returns false'. Refute it at one input. -/
def fnExactParentsOfWrong : ChangeSpec := { name := "fnExactParentsOf", fn := fun _ => fun
  | [d] => { results := [.lit (.bool false)], args := [d] }
  | _ => none }
def FnExactParentsOfWrongFalsely : Prop := fnExactParentsOfRow.holds Try.pinned (OpenSpec.ofChange fnExactParentsOfWrong)

/-- 'laws.FnExactMatchingSize': WHATEVER THE INPUT: true; the input reads as it did. -/
def fnExactMatchingSizeSpec : ChangeSpec := { name := "fnExactMatchingSize", fn := fun _ => fun
  | [d] => { results := [.lit (.bool true)], args := [d] }
  | _ => none }
def fnExactMatchingSizeRow : OpenClaim := { program := "ytdpdmhjmmpncoaa", sum := "7530c78e8cf5a0d9451e63954b91354edf18abe6c27e693ebf4e4a5881ea98ba", func := "loop.example/g01146/laws.FnExactMatchingSize", spec := "fnExactMatchingSize", unfollowed := true, recurses := true, plainKeys := false, apart := false }
def FnExactMatchingSizeSaid : Prop := fnExactMatchingSizeRow.holds Try.pinned (OpenSpec.ofChange fnExactMatchingSizeSpec)

/-- ITS FALSE NEIGHBOUR: 'it returns false'. Refute it at one input. -/
def fnExactMatchingSizeWrong : ChangeSpec := { name := "fnExactMatchingSize", fn := fun _ => fun
  | [d] => { results := [.lit (.bool false)], args := [d] }
  | _ => none }
def FnExactMatchingSizeWrongFalsely : Prop := fnExactMatchingSizeRow.holds Try.pinned (OpenSpec.ofChange fnExactMatchingSizeWrong)

/-- 'laws.FnExactMatchingOf': WHATEVER THE INPUT: true; the input reads as it did. -/
def fnExactMatchingOfSpec : ChangeSpec := { name := "fnExactMatchingOf", fn := fun _ => fun
  | [d] => { results := [.lit (.bool true)], args := [d] }
  | _ => none }
def fnExactMatchingOfRow : OpenClaim := { program := "ytdpdmhjmmpncoaa", sum := "7530c78e8cf5a0d9451e63954b91354edf18abe6c27e693ebf4e4a5881ea98ba", func := "loop.example/g01146/laws.FnExactMatchingOf", spec := "fnExactMatchingOf", unfollowed := true, recurses := true, plainKeys := false, apart := false }
def FnExactMatchingOfSaid : Prop := fnExactMatchingOfRow.holds Try.pinned (OpenSpec.ofChange fnExactMatchingOfSpec)

/-- ITS FALSE NEIGHBOUR: 'it returns false'. Refute it at one input. -/
def fnExactMatchingOfWrong : ChangeSpec := { name := "fnExactMatchingOf", fn := fun _ => fun
  | [d] => { results := [.lit (.bool false)], args := [d] }
  | _ => none }
def FnExactMatchingOfWrongFalsely : Prop := fnExactMatchingOfRow.holds Try.pinned (OpenSpec.ofChange fnExactMatchingOfWrong)

/- THE SECOND FORM. 'bulk': how many values and letters a reading holds, each counted each time it is reached (what is shared counts as often as it is met; a slice's spare places count too). A statement '..UptoSaid' is the law's where the arguments, and the package variables that the reading takes, are together of bulk at most 1048576: NARROWER than '..Said'. Prove '..Said' where nothing that the law and all that it calls make is longer than what came in: it says more and counts as full. Else prove '..UptoSaid'. A law counts once. -/
mutual
def uptoBulk {H : Type} : DataW H → Nat
  | .lit (.string bytes) => bytes.length + 1
  | .lit _ => 1
  | .nil => 1
  | .ptr d => uptoBulk d + 1
  | .slice elems spare => uptoBulkAll elems + uptoBulkAll spare + 1
  | .agg parts => uptoBulkAll parts + 1
  | .iface _ d => uptoBulk d + 1
  | .map entries => uptoBulkEntries entries + 1
  | .held _ => 1
def uptoBulkAll {H : Type} : List (DataW H) → Nat
  | [] => 0
  | d :: r => uptoBulk d + uptoBulkAll r
def uptoBulkEntries {H : Type} : List (Lit × DataW H) → Nat
  | [] => 0
  | x :: r => uptoBulkEntry x + uptoBulkEntries r
def uptoBulkEntry {H : Type} : Lit × DataW H → Nat
  | (.string bytes, d) => bytes.length + uptoBulk d + 1
  | (_, d) => uptoBulk d + 1
 end
def uptoSmall : (H : Type) → List (DataW H) → Bool := fun _ ds => decide (uptoBulkAll ds ≤ 1048576)
def OpenSpec.upto (s : _root_.Go.ChangeSpec) : _root_.Go.OpenSpec := { _root_.Go.OpenSpec.ofChange s with cond := some uptoSmall }

/-- 'laws.FnExactPartsOf', WHERE WHAT IT READS IS OF BULK AT MOST 1048576: true; the input reads as it did. -/
def fnExactPartsOfUptoRow : OpenClaim := { program := "ytdpdmhjmmpncoaa", sum := "7530c78e8cf5a0d9451e63954b91354edf18abe6c27e693ebf4e4a5881ea98ba", func := "loop.example/g01146/laws.FnExactPartsOf", spec := "fnExactPartsOf", plainKeys := false, apart := false, narrowed := true }
def FnExactPartsOfUptoSaid : Prop := fnExactPartsOfUptoRow.holds Try.pinned (OpenSpec.upto fnExactPartsOfSpec)

/-- 'laws.FnExactIsForest', WHERE WHAT IT READS IS OF BULK AT MOST 1048576: true; the input reads as it did. -/
def fnExactIsForestUptoRow : OpenClaim := { program := "ytdpdmhjmmpncoaa", sum := "7530c78e8cf5a0d9451e63954b91354edf18abe6c27e693ebf4e4a5881ea98ba", func := "loop.example/g01146/laws.FnExactIsForest", spec := "fnExactIsForest", plainKeys := false, apart := false, narrowed := true }
def FnExactIsForestUptoSaid : Prop := fnExactIsForestUptoRow.holds Try.pinned (OpenSpec.upto fnExactIsForestSpec)

/-- 'laws.FnExactCountEvenEdges', WHERE WHAT IT READS IS OF BULK AT MOST 1048576: true; the input reads as it did. -/
def fnExactCountEvenEdgesUptoRow : OpenClaim := { program := "ytdpdmhjmmpncoaa", sum := "7530c78e8cf5a0d9451e63954b91354edf18abe6c27e693ebf4e4a5881ea98ba", func := "loop.example/g01146/laws.FnExactCountEvenEdges", spec := "fnExactCountEvenEdges", plainKeys := false, apart := false, narrowed := true }
def FnExactCountEvenEdgesUptoSaid : Prop := fnExactCountEvenEdgesUptoRow.holds Try.pinned (OpenSpec.upto fnExactCountEvenEdgesSpec)

/-- 'laws.FnExactIsEvenEdges', WHERE WHAT IT READS IS OF BULK AT MOST 1048576: true; the input reads as it did. -/
def fnExactIsEvenEdgesUptoRow : OpenClaim := { program := "ytdpdmhjmmpncoaa", sum := "7530c78e8cf5a0d9451e63954b91354edf18abe6c27e693ebf4e4a5881ea98ba", func := "loop.example/g01146/laws.FnExactIsEvenEdges", spec := "fnExactIsEvenEdges", unfollowed := true, recurses := true, plainKeys := false, apart := false, narrowed := true }
def FnExactIsEvenEdgesUptoSaid : Prop := fnExactIsEvenEdgesUptoRow.holds Try.pinned (OpenSpec.upto fnExactIsEvenEdgesSpec)

/-- 'laws.FnExactIsEvenSet', WHERE WHAT IT READS IS OF BULK AT MOST 1048576: true; the input reads as it did. -/
def fnExactIsEvenSetUptoRow : OpenClaim := { program := "ytdpdmhjmmpncoaa", sum := "7530c78e8cf5a0d9451e63954b91354edf18abe6c27e693ebf4e4a5881ea98ba", func := "loop.example/g01146/laws.FnExactIsEvenSet", spec := "fnExactIsEvenSet", unfollowed := true, recurses := true, plainKeys := false, apart := false, narrowed := true }
def FnExactIsEvenSetUptoSaid : Prop := fnExactIsEvenSetUptoRow.holds Try.pinned (OpenSpec.upto fnExactIsEvenSetSpec)

/-- 'laws.FnExactIsOddSet', WHERE WHAT IT READS IS OF BULK AT MOST 1048576: true; the input reads as it did. -/
def fnExactIsOddSetUptoRow : OpenClaim := { program := "ytdpdmhjmmpncoaa", sum := "7530c78e8cf5a0d9451e63954b91354edf18abe6c27e693ebf4e4a5881ea98ba", func := "loop.example/g01146/laws.FnExactIsOddSet", spec := "fnExactIsOddSet", unfollowed := true, recurses := true, plainKeys := false, apart := false, narrowed := true }
def FnExactIsOddSetUptoSaid : Prop := fnExactIsOddSetUptoRow.holds Try.pinned (OpenSpec.upto fnExactIsOddSetSpec)

/-- 'laws.FnExactDegreesWithin', WHERE WHAT IT READS IS OF BULK AT MOST 1048576: true; the input reads as it did. -/
def fnExactDegreesWithinUptoRow : OpenClaim := { program := "ytdpdmhjmmpncoaa", sum := "7530c78e8cf5a0d9451e63954b91354edf18abe6c27e693ebf4e4a5881ea98ba", func := "loop.example/g01146/laws.FnExactDegreesWithin", spec := "fnExactDegreesWithin", unfollowed := true, recurses := true, plainKeys := false, apart := false, narrowed := true }
def FnExactDegreesWithinUptoSaid : Prop := fnExactDegreesWithinUptoRow.holds Try.pinned (OpenSpec.upto fnExactDegreesWithinSpec)

/-- 'laws.FnExactCutOf', WHERE WHAT IT READS IS OF BULK AT MOST 1048576: true; the input reads as it did. -/
def fnExactCutOfUptoRow : OpenClaim := { program := "ytdpdmhjmmpncoaa", sum := "7530c78e8cf5a0d9451e63954b91354edf18abe6c27e693ebf4e4a5881ea98ba", func := "loop.example/g01146/laws.FnExactCutOf", spec := "fnExactCutOf", unfollowed := true, recurses := true, plainKeys := false, apart := false, narrowed := true }
def FnExactCutOfUptoSaid : Prop := fnExactCutOfUptoRow.holds Try.pinned (OpenSpec.upto fnExactCutOfSpec)

/-- 'laws.FnExactLeavesOf', WHERE WHAT IT READS IS OF BULK AT MOST 1048576: true; the input reads as it did. -/
def fnExactLeavesOfUptoRow : OpenClaim := { program := "ytdpdmhjmmpncoaa", sum := "7530c78e8cf5a0d9451e63954b91354edf18abe6c27e693ebf4e4a5881ea98ba", func := "loop.example/g01146/laws.FnExactLeavesOf", spec := "fnExactLeavesOf", plainKeys := false, apart := false, narrowed := true }
def FnExactLeavesOfUptoSaid : Prop := fnExactLeavesOfUptoRow.holds Try.pinned (OpenSpec.upto fnExactLeavesOfSpec)

/-- 'laws.FnExactParentsOf', WHERE WHAT IT READS IS OF BULK AT MOST 1048576: true; the input reads as it did. -/
def fnExactParentsOfUptoRow : OpenClaim := { program := "ytdpdmhjmmpncoaa", sum := "7530c78e8cf5a0d9451e63954b91354edf18abe6c27e693ebf4e4a5881ea98ba", func := "loop.example/g01146/laws.FnExactParentsOf", spec := "fnExactParentsOf", plainKeys := false, apart := false, narrowed := true }
def FnExactParentsOfUptoSaid : Prop := fnExactParentsOfUptoRow.holds Try.pinned (OpenSpec.upto fnExactParentsOfSpec)

/-- 'laws.FnExactMatchingSize', WHERE WHAT IT READS IS OF BULK AT MOST 1048576: true; the input reads as it did. -/
def fnExactMatchingSizeUptoRow : OpenClaim := { program := "ytdpdmhjmmpncoaa", sum := "7530c78e8cf5a0d9451e63954b91354edf18abe6c27e693ebf4e4a5881ea98ba", func := "loop.example/g01146/laws.FnExactMatchingSize", spec := "fnExactMatchingSize", unfollowed := true, recurses := true, plainKeys := false, apart := false, narrowed := true }
def FnExactMatchingSizeUptoSaid : Prop := fnExactMatchingSizeUptoRow.holds Try.pinned (OpenSpec.upto fnExactMatchingSizeSpec)

/-- 'laws.FnExactMatchingOf', WHERE WHAT IT READS IS OF BULK AT MOST 1048576: true; the input reads as it did. -/
def fnExactMatchingOfUptoRow : OpenClaim := { program := "ytdpdmhjmmpncoaa", sum := "7530c78e8cf5a0d9451e63954b91354edf18abe6c27e693ebf4e4a5881ea98ba", func := "loop.example/g01146/laws.FnExactMatchingOf", spec := "fnExactMatchingOf", unfollowed := true, recurses := true, plainKeys := false, apart := false, narrowed := true }
def FnExactMatchingOfUptoSaid : Prop := fnExactMatchingOfUptoRow.holds Try.pinned (OpenSpec.upto fnExactMatchingOfSpec)

end Rows
end Go.Proofs.Ytdpdmhjmmpncoaa
