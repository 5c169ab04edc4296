/-
  No cell of these rows narrows 'for every input' (looked for: loops, veiled, ifaces, maps, wideKeys, modest, calm, conditions, laid).
  DERIVED. THE GIVEN ROWS OF THIS SEAT. 11 by the template 'for every input the law returns true; each argument reads behind the call as it read before'; 0 by the template 'total and deterministic' (their statements: YtoobofnpdiapgaaTotals.lean).
  GIVEN WITH THE SEED: the statements are not yours to turn. If you find one false, say at which input.
  Laid BY PROGRAM, IN A SANDBOX (cutbox-rows.mjs): the forced cells as the released guide's own fill.sh prints them over the translation d3792252bc166952… (all of the seat's roots in one cut). By AI agents, Wed Nov 11 2026. No macro, syntax, notation, axiom, sorry.
-/
import Derived.Test.YtoobofnpdiapgaaChecked
import GoSem.Claim
import GoSem.ClaimJoined
import GoSem.ClaimMapViews
import Derived.JoinedTies
import Derived.KernelRfl
namespace Go.Proofs.Ytoobofnpdiapgaa
/- THE CELL 'sum', in the pinned program and in every row, IS THE sha256 OF THE DUMP (.gsa) THAT YtoobofnpdiapgaaProg.lean LOADS. Nothing in Lean hashes anything: it is a label: what it is worth is what the hold of that sum in a sandbox is worth. -/
noncomputable def Try.pinned : Pinned := { name := "ytoobofnpdiapgaa", sum := "d3792252bc166952146c649b701bd646ecc9ca94c9accf76df04c4070c34b884", checked := Try.checked }
namespace Rows
def none {H : Type} : Left H := { results := [], args := [] }

/-- 'laws.FnExactEvenSplits': WHATEVER THE INPUT: true; the input reads as it did. -/
def fnExactEvenSplitsSpec : ChangeSpec := { name := "fnExactEvenSplits", fn := fun _ => fun
  | [d] => { results := [.lit (.bool true)], args := [d] }
  | _ => none }
def fnExactEvenSplitsRow : OpenClaim := { program := "ytoobofnpdiapgaa", sum := "d3792252bc166952146c649b701bd646ecc9ca94c9accf76df04c4070c34b884", func := "loop.example/g01146/laws.FnExactEvenSplits", spec := "fnExactEvenSplits", unfollowed := true, recurses := true, apart := false }
def FnExactEvenSplitsSaid : Prop := fnExactEvenSplitsRow.holds Try.pinned (OpenSpec.ofChange fnExactEvenSplitsSpec)

/-- ITS FALSE NEIGHBOUR: 'it returns false'. Refute it at one input. -/
def fnExactEvenSplitsWrong : ChangeSpec := { name := "fnExactEvenSplits", fn := fun _ => fun
  | [d] => { results := [.lit (.bool false)], args := [d] }
  | _ => none }
def FnExactEvenSplitsWrongFalsely : Prop := fnExactEvenSplitsRow.holds Try.pinned (OpenSpec.ofChange fnExactEvenSplitsWrong)

/-- 'laws.FnExactLeastByStates': WHATEVER THE INPUT: true; the input reads as it did. -/
def fnExactLeastByStatesSpec : ChangeSpec := { name := "fnExactLeastByStates", fn := fun _ => fun
  | [d1, d2] => { results := [.lit (.bool true)], args := [d1, d2] }
  | _ => none }
def fnExactLeastByStatesRow : OpenClaim := { program := "ytoobofnpdiapgaa", sum := "d3792252bc166952146c649b701bd646ecc9ca94c9accf76df04c4070c34b884", func := "loop.example/g01146/laws.FnExactLeastByStates", spec := "fnExactLeastByStates", unfollowed := true, recurses := true, apart := false }
def FnExactLeastByStatesSaid : Prop := fnExactLeastByStatesRow.holds Try.pinned (OpenSpec.ofChange fnExactLeastByStatesSpec)

/-- ITS FALSE NEIGHBOUR: 'it returns false'. Refute it at one input. -/
def fnExactLeastByStatesWrong : ChangeSpec := { name := "fnExactLeastByStates", fn := fun _ => fun
  | [d1, d2] => { results := [.lit (.bool false)], args := [d1, d2] }
  | _ => none }
def FnExactLeastByStatesWrongFalsely : Prop := fnExactLeastByStatesRow.holds Try.pinned (OpenSpec.ofChange fnExactLeastByStatesWrong)

/-- 'laws.FnExactCountOddDominating': WHATEVER THE INPUT: true; the input reads as it did. -/
def fnExactCountOddDominatingSpec : ChangeSpec := { name := "fnExactCountOddDominating", fn := fun _ => fun
  | [d] => { results := [.lit (.bool true)], args := [d] }
  | _ => none }
def fnExactCountOddDominatingRow : OpenClaim := { program := "ytoobofnpdiapgaa", sum := "d3792252bc166952146c649b701bd646ecc9ca94c9accf76df04c4070c34b884", func := "loop.example/g01146/laws.FnExactCountOddDominating", spec := "fnExactCountOddDominating", unfollowed := true, recurses := true, apart := false }
def FnExactCountOddDominatingSaid : Prop := fnExactCountOddDominatingRow.holds Try.pinned (OpenSpec.ofChange fnExactCountOddDominatingSpec)

/-- ITS FALSE NEIGHBOUR: 'it returns false'. Refute it at one input. -/
def fnExactCountOddDominatingWrong : ChangeSpec := { name := "fnExactCountOddDominating", fn := fun _ => fun
  | [d] => { results := [.lit (.bool false)], args := [d] }
  | _ => none }
def FnExactCountOddDominatingWrongFalsely : Prop := fnExactCountOddDominatingRow.holds Try.pinned (OpenSpec.ofChange fnExactCountOddDominatingWrong)

/-- 'laws.FnExactOddDominating': WHATEVER THE INPUT: true; the input reads as it did. -/
def fnExactOddDominatingSpec : ChangeSpec := { name := "fnExactOddDominating", fn := fun _ => fun
  | [d] => { results := [.lit (.bool true)], args := [d] }
  | _ => none }
def fnExactOddDominatingRow : OpenClaim := { program := "ytoobofnpdiapgaa", sum := "d3792252bc166952146c649b701bd646ecc9ca94c9accf76df04c4070c34b884", func := "loop.example/g01146/laws.FnExactOddDominating", spec := "fnExactOddDominating", unfollowed := true, recurses := true, apart := false }
def FnExactOddDominatingSaid : Prop := fnExactOddDominatingRow.holds Try.pinned (OpenSpec.ofChange fnExactOddDominatingSpec)

/-- ITS FALSE NEIGHBOUR: 'it returns false'. Refute it at one input. -/
def fnExactOddDominatingWrong : ChangeSpec := { name := "fnExactOddDominating", fn := fun _ => fun
  | [d] => { results := [.lit (.bool false)], args := [d] }
  | _ => none }
def FnExactOddDominatingWrongFalsely : Prop := fnExactOddDominatingRow.holds Try.pinned (OpenSpec.ofChange fnExactOddDominatingWrong)

/-- 'laws.FnExactCountEvenOdd': WHATEVER THE INPUT: true; the input reads as it did. -/
def fnExactCountEvenOddSpec : ChangeSpec := { name := "fnExactCountEvenOdd", fn := fun _ => fun
  | [d] => { results := [.lit (.bool true)], args := [d] }
  | _ => none }
def fnExactCountEvenOddRow : OpenClaim := { program := "ytoobofnpdiapgaa", sum := "d3792252bc166952146c649b701bd646ecc9ca94c9accf76df04c4070c34b884", func := "loop.example/g01146/laws.FnExactCountEvenOdd", spec := "fnExactCountEvenOdd", unfollowed := true, recurses := true, apart := false }
def FnExactCountEvenOddSaid : Prop := fnExactCountEvenOddRow.holds Try.pinned (OpenSpec.ofChange fnExactCountEvenOddSpec)

/-- ITS FALSE NEIGHBOUR: 'it returns false'. Refute it at one input. -/
def fnExactCountEvenOddWrong : ChangeSpec := { name := "fnExactCountEvenOdd", fn := fun _ => fun
  | [d] => { results := [.lit (.bool false)], args := [d] }
  | _ => none }
def FnExactCountEvenOddWrongFalsely : Prop := fnExactCountEvenOddRow.holds Try.pinned (OpenSpec.ofChange fnExactCountEvenOddWrong)

/-- 'laws.FnExactCountEvenSplits': WHATEVER THE INPUT: true; the input reads as it did. -/
def fnExactCountEvenSplitsSpec : ChangeSpec := { name := "fnExactCountEvenSplits", fn := fun _ => fun
  | [d] => { results := [.lit (.bool true)], args := [d] }
  | _ => none }
def fnExactCountEvenSplitsRow : OpenClaim := { program := "ytoobofnpdiapgaa", sum := "d3792252bc166952146c649b701bd646ecc9ca94c9accf76df04c4070c34b884", func := "loop.example/g01146/laws.FnExactCountEvenSplits", spec := "fnExactCountEvenSplits", unfollowed := true, recurses := true, apart := false }
def FnExactCountEvenSplitsSaid : Prop := fnExactCountEvenSplitsRow.holds Try.pinned (OpenSpec.ofChange fnExactCountEvenSplitsSpec)

/-- ITS FALSE NEIGHBOUR: 'it returns false'. Refute it at one input. -/
def fnExactCountEvenSplitsWrong : ChangeSpec := { name := "fnExactCountEvenSplits", fn := fun _ => fun
  | [d] => { results := [.lit (.bool false)], args := [d] }
  | _ => none }
def FnExactCountEvenSplitsWrongFalsely : Prop := fnExactCountEvenSplitsRow.holds Try.pinned (OpenSpec.ofChange fnExactCountEvenSplitsWrong)

/-- 'laws.FnExactCountEvenCuts': WHATEVER THE INPUT: true; the input reads as it did. -/
def fnExactCountEvenCutsSpec : ChangeSpec := { name := "fnExactCountEvenCuts", fn := fun _ => fun
  | [d] => { results := [.lit (.bool true)], args := [d] }
  | _ => none }
def fnExactCountEvenCutsRow : OpenClaim := { program := "ytoobofnpdiapgaa", sum := "d3792252bc166952146c649b701bd646ecc9ca94c9accf76df04c4070c34b884", func := "loop.example/g01146/laws.FnExactCountEvenCuts", spec := "fnExactCountEvenCuts", unfollowed := true, recurses := true, apart := false }
def FnExactCountEvenCutsSaid : Prop := fnExactCountEvenCutsRow.holds Try.pinned (OpenSpec.ofChange fnExactCountEvenCutsSpec)

/-- ITS FALSE NEIGHBOUR: 'it returns false'. Refute it at one input. -/
def fnExactCountEvenCutsWrong : ChangeSpec := { name := "fnExactCountEvenCuts", fn := fun _ => fun
  | [d] => { results := [.lit (.bool false)], args := [d] }
  | _ => none }
def FnExactCountEvenCutsWrongFalsely : Prop := fnExactCountEvenCutsRow.holds Try.pinned (OpenSpec.ofChange fnExactCountEvenCutsWrong)

/-- 'laws.FnExactEvenOddSplit': WHATEVER THE INPUT: true; the input reads as it did. -/
def fnExactEvenOddSplitSpec : ChangeSpec := { name := "fnExactEvenOddSplit", fn := fun _ => fun
  | [d] => { results := [.lit (.bool true)], args := [d] }
  | _ => none }
def fnExactEvenOddSplitRow : OpenClaim := { program := "ytoobofnpdiapgaa", sum := "d3792252bc166952146c649b701bd646ecc9ca94c9accf76df04c4070c34b884", func := "loop.example/g01146/laws.FnExactEvenOddSplit", spec := "fnExactEvenOddSplit", unfollowed := true, recurses := true, apart := false }
def FnExactEvenOddSplitSaid : Prop := fnExactEvenOddSplitRow.holds Try.pinned (OpenSpec.ofChange fnExactEvenOddSplitSpec)

/-- ITS FALSE NEIGHBOUR: 'it returns false'. Refute it at one input. -/
def fnExactEvenOddSplitWrong : ChangeSpec := { name := "fnExactEvenOddSplit", fn := fun _ => fun
  | [d] => { results := [.lit (.bool false)], args := [d] }
  | _ => none }
def FnExactEvenOddSplitWrongFalsely : Prop := fnExactEvenOddSplitRow.holds Try.pinned (OpenSpec.ofChange fnExactEvenOddSplitWrong)

/-- 'laws.FnExactEvenSplit': WHATEVER THE INPUT: true; the input reads as it did. -/
def fnExactEvenSplitSpec : ChangeSpec := { name := "fnExactEvenSplit", fn := fun _ => fun
  | [d] => { results := [.lit (.bool true)], args := [d] }
  | _ => none }
def fnExactEvenSplitRow : OpenClaim := { program := "ytoobofnpdiapgaa", sum := "d3792252bc166952146c649b701bd646ecc9ca94c9accf76df04c4070c34b884", func := "loop.example/g01146/laws.FnExactEvenSplit", spec := "fnExactEvenSplit", unfollowed := true, recurses := true, apart := false }
def FnExactEvenSplitSaid : Prop := fnExactEvenSplitRow.holds Try.pinned (OpenSpec.ofChange fnExactEvenSplitSpec)

/-- ITS FALSE NEIGHBOUR: 'it returns false'. Refute it at one input. -/
def fnExactEvenSplitWrong : ChangeSpec := { name := "fnExactEvenSplit", fn := fun _ => fun
  | [d] => { results := [.lit (.bool false)], args := [d] }
  | _ => none }
def FnExactEvenSplitWrongFalsely : Prop := fnExactEvenSplitRow.holds Try.pinned (OpenSpec.ofChange fnExactEvenSplitWrong)

/-- 'laws.FnExactNullityByStates': WHATEVER THE INPUT: true; the input reads as it did. -/
def fnExactNullityByStatesSpec : ChangeSpec := { name := "fnExactNullityByStates", fn := fun _ => fun
  | [d] => { results := [.lit (.bool true)], args := [d] }
  | _ => none }
def fnExactNullityByStatesRow : OpenClaim := { program := "ytoobofnpdiapgaa", sum := "d3792252bc166952146c649b701bd646ecc9ca94c9accf76df04c4070c34b884", func := "loop.example/g01146/laws.FnExactNullityByStates", spec := "fnExactNullityByStates", unfollowed := true, recurses := true, apart := false }
def FnExactNullityByStatesSaid : Prop := fnExactNullityByStatesRow.holds Try.pinned (OpenSpec.ofChange fnExactNullityByStatesSpec)

/-- ITS FALSE NEIGHBOUR: 'it returns false'. Refute it at one input. -/
def fnExactNullityByStatesWrong : ChangeSpec := { name := "fnExactNullityByStates", fn := fun _ => fun
  | [d] => { results := [.lit (.bool false)], args := [d] }
  | _ => none }
def FnExactNullityByStatesWrongFalsely : Prop := fnExactNullityByStatesRow.holds Try.pinned (OpenSpec.ofChange fnExactNullityByStatesWrong)

/-- 'laws.FnExactCountByStates': WHATEVER THE INPUT: true; the input reads as it did. -/
def fnExactCountByStatesSpec : ChangeSpec := { name := "fnExactCountByStates", fn := fun _ => fun
  | [d1, d2] => { results := [.lit (.bool true)], args := [d1, d2] }
  | _ => none }
def fnExactCountByStatesRow : OpenClaim := { program := "ytoobofnpdiapgaa", sum := "d3792252bc166952146c649b701bd646ecc9ca94c9accf76df04c4070c34b884", func := "loop.example/g01146/laws.FnExactCountByStates", spec := "fnExactCountByStates", unfollowed := true, recurses := true, apart := false }
def FnExactCountByStatesSaid : Prop := fnExactCountByStatesRow.holds Try.pinned (OpenSpec.ofChange fnExactCountByStatesSpec)

/-- ITS FALSE NEIGHBOUR: 'it returns false'. Refute it at one input. -/
def fnExactCountByStatesWrong : ChangeSpec := { name := "fnExactCountByStates", fn := fun _ => fun
  | [d1, d2] => { results := [.lit (.bool false)], args := [d1, d2] }
  | _ => none }
def FnExactCountByStatesWrongFalsely : Prop := fnExactCountByStatesRow.holds Try.pinned (OpenSpec.ofChange fnExactCountByStatesWrong)

/- THE SECOND FORM. 'bulk': how many values and letters a reading holds, each counted each time it is reached (what is shared counts as often as it is met; a slice's spare places count too). A statement '..UptoSaid' is the law's where the arguments, and the package variables that the reading takes, are together of bulk at most 1048576: NARROWER than '..Said'. Prove '..Said' where nothing that the law and all that it calls make is longer than what came in: it says more and counts as full. Else prove '..UptoSaid'. A law counts once. -/
mutual
def uptoBulk {H : Type} : DataW H → Nat
  | .lit (.string bytes) => bytes.length + 1
  | .lit _ => 1
  | .nil => 1
  | .ptr d => uptoBulk d + 1
  | .slice elems spare => uptoBulkAll elems + uptoBulkAll spare + 1
  | .agg parts => uptoBulkAll parts + 1
  | .iface _ d => uptoBulk d + 1
  | .map entries => uptoBulkEntries entries + 1
  | .held _ => 1
def uptoBulkAll {H : Type} : List (DataW H) → Nat
  | [] => 0
  | d :: r => uptoBulk d + uptoBulkAll r
def uptoBulkEntries {H : Type} : List (Lit × DataW H) → Nat
  | [] => 0
  | x :: r => uptoBulkEntry x + uptoBulkEntries r
def uptoBulkEntry {H : Type} : Lit × DataW H → Nat
  | (.string bytes, d) => bytes.length + uptoBulk d + 1
  | (_, d) => uptoBulk d + 1
 end
def uptoSmall : (H : Type) → List (DataW H) → Bool := fun _ ds => decide (uptoBulkAll ds ≤ 1048576)
def OpenSpec.upto (s : _root_.Go.ChangeSpec) : _root_.Go.OpenSpec := { _root_.Go.OpenSpec.ofChange s with cond := some uptoSmall }

/-- 'laws.FnExactEvenSplits', WHERE WHAT IT READS IS OF BULK AT MOST 1048576: true; the input reads as it did. -/
def fnExactEvenSplitsUptoRow : OpenClaim := { program := "ytoobofnpdiapgaa", sum := "d3792252bc166952146c649b701bd646ecc9ca94c9accf76df04c4070c34b884", func := "loop.example/g01146/laws.FnExactEvenSplits", spec := "fnExactEvenSplits", unfollowed := true, recurses := true, apart := false, narrowed := true }
def FnExactEvenSplitsUptoSaid : Prop := fnExactEvenSplitsUptoRow.holds Try.pinned (OpenSpec.upto fnExactEvenSplitsSpec)

/-- 'laws.FnExactLeastByStates', WHERE WHAT IT READS IS OF BULK AT MOST 1048576: true; the input reads as it did. -/
def fnExactLeastByStatesUptoRow : OpenClaim := { program := "ytoobofnpdiapgaa", sum := "d3792252bc166952146c649b701bd646ecc9ca94c9accf76df04c4070c34b884", func := "loop.example/g01146/laws.FnExactLeastByStates", spec := "fnExactLeastByStates", unfollowed := true, recurses := true, apart := false, narrowed := true }
def FnExactLeastByStatesUptoSaid : Prop := fnExactLeastByStatesUptoRow.holds Try.pinned (OpenSpec.upto fnExactLeastByStatesSpec)

/-- 'laws.FnExactCountOddDominating', WHERE WHAT IT READS IS OF BULK AT MOST 1048576: true; the input reads as it did. -/
def fnExactCountOddDominatingUptoRow : OpenClaim := { program := "ytoobofnpdiapgaa", sum := "d3792252bc166952146c649b701bd646ecc9ca94c9accf76df04c4070c34b884", func := "loop.example/g01146/laws.FnExactCountOddDominating", spec := "fnExactCountOddDominating", unfollowed := true, recurses := true, apart := false, narrowed := true }
def FnExactCountOddDominatingUptoSaid : Prop := fnExactCountOddDominatingUptoRow.holds Try.pinned (OpenSpec.upto fnExactCountOddDominatingSpec)

/-- 'laws.FnExactOddDominating', WHERE WHAT IT READS IS OF BULK AT MOST 1048576: true; the input reads as it did. -/
def fnExactOddDominatingUptoRow : OpenClaim := { program := "ytoobofnpdiapgaa", sum := "d3792252bc166952146c649b701bd646ecc9ca94c9accf76df04c4070c34b884", func := "loop.example/g01146/laws.FnExactOddDominating", spec := "fnExactOddDominating", unfollowed := true, recurses := true, apart := false, narrowed := true }
def FnExactOddDominatingUptoSaid : Prop := fnExactOddDominatingUptoRow.holds Try.pinned (OpenSpec.upto fnExactOddDominatingSpec)

/-- 'laws.FnExactCountEvenOdd', WHERE WHAT IT READS IS OF BULK AT MOST 1048576: true; the input reads as it did. -/
def fnExactCountEvenOddUptoRow : OpenClaim := { program := "ytoobofnpdiapgaa", sum := "d3792252bc166952146c649b701bd646ecc9ca94c9accf76df04c4070c34b884", func := "loop.example/g01146/laws.FnExactCountEvenOdd", spec := "fnExactCountEvenOdd", unfollowed := true, recurses := true, apart := false, narrowed := true }
def FnExactCountEvenOddUptoSaid : Prop := fnExactCountEvenOddUptoRow.holds Try.pinned (OpenSpec.upto fnExactCountEvenOddSpec)

/-- 'laws.FnExactCountEvenSplits', WHERE WHAT IT READS IS OF BULK AT MOST 1048576: true; the input reads as it did. -/
def fnExactCountEvenSplitsUptoRow : OpenClaim := { program := "ytoobofnpdiapgaa", sum := "d3792252bc166952146c649b701bd646ecc9ca94c9accf76df04c4070c34b884", func := "loop.example/g01146/laws.FnExactCountEvenSplits", spec := "fnExactCountEvenSplits", unfollowed := true, recurses := true, apart := false, narrowed := true }
def FnExactCountEvenSplitsUptoSaid : Prop := fnExactCountEvenSplitsUptoRow.holds Try.pinned (OpenSpec.upto fnExactCountEvenSplitsSpec)

/-- 'laws.FnExactCountEvenCuts', WHERE WHAT IT READS IS OF BULK AT MOST 1048576: true; the input reads as it did. -/
def fnExactCountEvenCutsUptoRow : OpenClaim := { program := "ytoobofnpdiapgaa", sum := "d3792252bc166952146c649b701bd646ecc9ca94c9accf76df04c4070c34b884", func := "loop.example/g01146/laws.FnExactCountEvenCuts", spec := "fnExactCountEvenCuts", unfollowed := true, recurses := true, apart := false, narrowed := true }
def FnExactCountEvenCutsUptoSaid : Prop := fnExactCountEvenCutsUptoRow.holds Try.pinned (OpenSpec.upto fnExactCountEvenCutsSpec)

/-- 'laws.FnExactEvenOddSplit', WHERE WHAT IT READS IS OF BULK AT MOST 1048576: true; the input reads as it did. -/
def fnExactEvenOddSplitUptoRow : OpenClaim := { program := "ytoobofnpdiapgaa", sum := "d3792252bc166952146c649b701bd646ecc9ca94c9accf76df04c4070c34b884", func := "loop.example/g01146/laws.FnExactEvenOddSplit", spec := "fnExactEvenOddSplit", unfollowed := true, recurses := true, apart := false, narrowed := true }
def FnExactEvenOddSplitUptoSaid : Prop := fnExactEvenOddSplitUptoRow.holds Try.pinned (OpenSpec.upto fnExactEvenOddSplitSpec)

/-- 'laws.FnExactEvenSplit', WHERE WHAT IT READS IS OF BULK AT MOST 1048576: true; the input reads as it did. -/
def fnExactEvenSplitUptoRow : OpenClaim := { program := "ytoobofnpdiapgaa", sum := "d3792252bc166952146c649b701bd646ecc9ca94c9accf76df04c4070c34b884", func := "loop.example/g01146/laws.FnExactEvenSplit", spec := "fnExactEvenSplit", unfollowed := true, recurses := true, apart := false, narrowed := true }
def FnExactEvenSplitUptoSaid : Prop := fnExactEvenSplitUptoRow.holds Try.pinned (OpenSpec.upto fnExactEvenSplitSpec)

/-- 'laws.FnExactNullityByStates', WHERE WHAT IT READS IS OF BULK AT MOST 1048576: true; the input reads as it did. -/
def fnExactNullityByStatesUptoRow : OpenClaim := { program := "ytoobofnpdiapgaa", sum := "d3792252bc166952146c649b701bd646ecc9ca94c9accf76df04c4070c34b884", func := "loop.example/g01146/laws.FnExactNullityByStates", spec := "fnExactNullityByStates", unfollowed := true, recurses := true, apart := false, narrowed := true }
def FnExactNullityByStatesUptoSaid : Prop := fnExactNullityByStatesUptoRow.holds Try.pinned (OpenSpec.upto fnExactNullityByStatesSpec)

/-- 'laws.FnExactCountByStates', WHERE WHAT IT READS IS OF BULK AT MOST 1048576: true; the input reads as it did. -/
def fnExactCountByStatesUptoRow : OpenClaim := { program := "ytoobofnpdiapgaa", sum := "d3792252bc166952146c649b701bd646ecc9ca94c9accf76df04c4070c34b884", func := "loop.example/g01146/laws.FnExactCountByStates", spec := "fnExactCountByStates", unfollowed := true, recurses := true, apart := false, narrowed := true }
def FnExactCountByStatesUptoSaid : Prop := fnExactCountByStatesUptoRow.holds Try.pinned (OpenSpec.upto fnExactCountByStatesSpec)

end Rows
end Go.Proofs.Ytoobofnpdiapgaa
