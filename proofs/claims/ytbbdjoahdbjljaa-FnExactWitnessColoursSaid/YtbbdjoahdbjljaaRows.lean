/-
  No cell of these rows narrows 'for every input' (looked for: loops, veiled, ifaces, maps, wideKeys, modest, calm, conditions, laid).
  DERIVED. THE GIVEN ROWS OF THIS SEAT. 12 by the template 'for every input the law returns true; each argument reads behind the call as it read before'; 0 by the template 'total and deterministic' (their statements: YtbbdjoahdbjljaaTotals.lean).
  GIVEN WITH THE SEED: the statements are not yours to turn. If you find one false, say at which input.
  Laid BY PROGRAM, IN A SANDBOX (cutbox-rows.mjs): the forced cells as the released guide's own fill.sh prints them over the translation 204ab13249d0026a… (all of the seat's roots in one cut). By AI agents, Wed Nov 11 2026. No macro, syntax, notation, axiom, sorry.
-/
import Derived.Test.YtbbdjoahdbjljaaChecked
import GoSem.Claim
import GoSem.ClaimJoined
import GoSem.ClaimMapViews
import Derived.JoinedTies
import Derived.KernelRfl
namespace Go.Proofs.Ytbbdjoahdbjljaa
/- THE CELL 'sum', in the pinned program and in every row, IS THE sha256 OF THE DUMP (.gsa) THAT YtbbdjoahdbjljaaProg.lean LOADS. Nothing in Lean hashes anything: it is a label: what it is worth is what the hold of that sum in a sandbox is worth. -/
noncomputable def Try.pinned : Pinned := { name := "ytbbdjoahdbjljaa", sum := "204ab13249d0026ad4fb891a51f728260555b6b21013c93f67468b79fac14e8f", checked := Try.checked }
namespace Rows
def none {H : Type} : Left H := { results := [], args := [] }

/-- 'laws.FnExactIsColours': WHATEVER THE INPUT: true; the input reads as it did. -/
def fnExactIsColoursSpec : ChangeSpec := { name := "fnExactIsColours", fn := fun _ => fun
  | [d1, d2, d3] => { results := [.lit (.bool true)], args := [d1, d2, d3] }
  | _ => none }
def fnExactIsColoursRow : OpenClaim := { program := "ytbbdjoahdbjljaa", sum := "204ab13249d0026ad4fb891a51f728260555b6b21013c93f67468b79fac14e8f", func := "loop.example/g01146/laws.FnExactIsColours", spec := "fnExactIsColours", unfollowed := true, recurses := true, apart := false }
def FnExactIsColoursSaid : Prop := fnExactIsColoursRow.holds Try.pinned (OpenSpec.ofChange fnExactIsColoursSpec)

/-- ITS FALSE NEIGHBOUR: 'it returns false'. Refute it at one input. -/
def fnExactIsColoursWrong : ChangeSpec := { name := "fnExactIsColours", fn := fun _ => fun
  | [d1, d2, d3] => { results := [.lit (.bool false)], args := [d1, d2, d3] }
  | _ => none }
def FnExactIsColoursWrongFalsely : Prop := fnExactIsColoursRow.holds Try.pinned (OpenSpec.ofChange fnExactIsColoursWrong)

/-- 'laws.FnExactEffectColours': WHATEVER THE INPUT: true; the input reads as it did. -/
def fnExactEffectColoursSpec : ChangeSpec := { name := "fnExactEffectColours", fn := fun _ => fun
  | [d1, d2, d3] => { results := [.lit (.bool true)], args := [d1, d2, d3] }
  | _ => none }
def fnExactEffectColoursRow : OpenClaim := { program := "ytbbdjoahdbjljaa", sum := "204ab13249d0026ad4fb891a51f728260555b6b21013c93f67468b79fac14e8f", func := "loop.example/g01146/laws.FnExactEffectColours", spec := "fnExactEffectColours", unfollowed := true, recurses := true, apart := false }
def FnExactEffectColoursSaid : Prop := fnExactEffectColoursRow.holds Try.pinned (OpenSpec.ofChange fnExactEffectColoursSpec)

/-- ITS FALSE NEIGHBOUR: 'it returns false'. Refute it at one input. -/
def fnExactEffectColoursWrong : ChangeSpec := { name := "fnExactEffectColours", fn := fun _ => fun
  | [d1, d2, d3] => { results := [.lit (.bool false)], args := [d1, d2, d3] }
  | _ => none }
def FnExactEffectColoursWrongFalsely : Prop := fnExactEffectColoursRow.holds Try.pinned (OpenSpec.ofChange fnExactEffectColoursWrong)

/-- 'laws.FnExactPeriodOf': WHATEVER THE INPUT: true; the input reads as it did. -/
def fnExactPeriodOfSpec : ChangeSpec := { name := "fnExactPeriodOf", fn := fun _ => fun
  | [d1, d2, d3] => { results := [.lit (.bool true)], args := [d1, d2, d3] }
  | _ => none }
def fnExactPeriodOfRow : OpenClaim := { program := "ytbbdjoahdbjljaa", sum := "204ab13249d0026ad4fb891a51f728260555b6b21013c93f67468b79fac14e8f", func := "loop.example/g01146/laws.FnExactPeriodOf", spec := "fnExactPeriodOf", unfollowed := true, recurses := true, apart := false }
def FnExactPeriodOfSaid : Prop := fnExactPeriodOfRow.holds Try.pinned (OpenSpec.ofChange fnExactPeriodOfSpec)

/-- ITS FALSE NEIGHBOUR: 'it returns false'. Refute it at one input. -/
def fnExactPeriodOfWrong : ChangeSpec := { name := "fnExactPeriodOf", fn := fun _ => fun
  | [d1, d2, d3] => { results := [.lit (.bool false)], args := [d1, d2, d3] }
  | _ => none }
def FnExactPeriodOfWrongFalsely : Prop := fnExactPeriodOfRow.holds Try.pinned (OpenSpec.ofChange fnExactPeriodOfWrong)

/-- 'laws.FnExactPressColours': WHATEVER THE INPUT: true; the input reads as it did. -/
def fnExactPressColoursSpec : ChangeSpec := { name := "fnExactPressColours", fn := fun _ => fun
  | [d1, d2, d3, d4] => { results := [.lit (.bool true)], args := [d1, d2, d3, d4] }
  | _ => none }
def fnExactPressColoursRow : OpenClaim := { program := "ytbbdjoahdbjljaa", sum := "204ab13249d0026ad4fb891a51f728260555b6b21013c93f67468b79fac14e8f", func := "loop.example/g01146/laws.FnExactPressColours", spec := "fnExactPressColours", unfollowed := true, recurses := true, apart := false }
def FnExactPressColoursSaid : Prop := fnExactPressColoursRow.holds Try.pinned (OpenSpec.ofChange fnExactPressColoursSpec)

/-- ITS FALSE NEIGHBOUR: 'it returns false'. Refute it at one input. -/
def fnExactPressColoursWrong : ChangeSpec := { name := "fnExactPressColours", fn := fun _ => fun
  | [d1, d2, d3, d4] => { results := [.lit (.bool false)], args := [d1, d2, d3, d4] }
  | _ => none }
def FnExactPressColoursWrongFalsely : Prop := fnExactPressColoursRow.holds Try.pinned (OpenSpec.ofChange fnExactPressColoursWrong)

/-- 'laws.FnExactDeterminantColours': WHATEVER THE INPUT: true; the input reads as it did. -/
def fnExactDeterminantColoursSpec : ChangeSpec := { name := "fnExactDeterminantColours", fn := fun _ => fun
  | [d1, d2] => { results := [.lit (.bool true)], args := [d1, d2] }
  | _ => none }
def fnExactDeterminantColoursRow : OpenClaim := { program := "ytbbdjoahdbjljaa", sum := "204ab13249d0026ad4fb891a51f728260555b6b21013c93f67468b79fac14e8f", func := "loop.example/g01146/laws.FnExactDeterminantColours", spec := "fnExactDeterminantColours", apart := false }
def FnExactDeterminantColoursSaid : Prop := fnExactDeterminantColoursRow.holds Try.pinned (OpenSpec.ofChange fnExactDeterminantColoursSpec)

/-- ITS FALSE NEIGHBOUR: 'it returns false'. Refute it at one input. -/
def fnExactDeterminantColoursWrong : ChangeSpec := { name := "fnExactDeterminantColours", fn := fun _ => fun
  | [d1, d2] => { results := [.lit (.bool false)], args := [d1, d2] }
  | _ => none }
def FnExactDeterminantColoursWrongFalsely : Prop := fnExactDeterminantColoursRow.holds Try.pinned (OpenSpec.ofChange fnExactDeterminantColoursWrong)

/-- 'laws.FnExactRankColours': WHATEVER THE INPUT: true; the input reads as it did. -/
def fnExactRankColoursSpec : ChangeSpec := { name := "fnExactRankColours", fn := fun _ => fun
  | [d1, d2] => { results := [.lit (.bool true)], args := [d1, d2] }
  | _ => none }
def fnExactRankColoursRow : OpenClaim := { program := "ytbbdjoahdbjljaa", sum := "204ab13249d0026ad4fb891a51f728260555b6b21013c93f67468b79fac14e8f", func := "loop.example/g01146/laws.FnExactRankColours", spec := "fnExactRankColours", apart := false }
def FnExactRankColoursSaid : Prop := fnExactRankColoursRow.holds Try.pinned (OpenSpec.ofChange fnExactRankColoursSpec)

/-- ITS FALSE NEIGHBOUR: 'it returns false'. Refute it at one input. -/
def fnExactRankColoursWrong : ChangeSpec := { name := "fnExactRankColours", fn := fun _ => fun
  | [d1, d2] => { results := [.lit (.bool false)], args := [d1, d2] }
  | _ => none }
def FnExactRankColoursWrongFalsely : Prop := fnExactRankColoursRow.holds Try.pinned (OpenSpec.ofChange fnExactRankColoursWrong)

/-- 'laws.FnExactNullityColours': WHATEVER THE INPUT: true; the input reads as it did. -/
def fnExactNullityColoursSpec : ChangeSpec := { name := "fnExactNullityColours", fn := fun _ => fun
  | [d1, d2] => { results := [.lit (.bool true)], args := [d1, d2] }
  | _ => none }
def fnExactNullityColoursRow : OpenClaim := { program := "ytbbdjoahdbjljaa", sum := "204ab13249d0026ad4fb891a51f728260555b6b21013c93f67468b79fac14e8f", func := "loop.example/g01146/laws.FnExactNullityColours", spec := "fnExactNullityColours", apart := false }
def FnExactNullityColoursSaid : Prop := fnExactNullityColoursRow.holds Try.pinned (OpenSpec.ofChange fnExactNullityColoursSpec)

/-- ITS FALSE NEIGHBOUR: 'it returns false'. Refute it at one input. -/
def fnExactNullityColoursWrong : ChangeSpec := { name := "fnExactNullityColours", fn := fun _ => fun
  | [d1, d2] => { results := [.lit (.bool false)], args := [d1, d2] }
  | _ => none }
def FnExactNullityColoursWrongFalsely : Prop := fnExactNullityColoursRow.holds Try.pinned (OpenSpec.ofChange fnExactNullityColoursWrong)

/-- 'laws.FnExactQuietColours': WHATEVER THE INPUT: true; the input reads as it did. -/
def fnExactQuietColoursSpec : ChangeSpec := { name := "fnExactQuietColours", fn := fun _ => fun
  | [d1, d2] => { results := [.lit (.bool true)], args := [d1, d2] }
  | _ => none }
def fnExactQuietColoursRow : OpenClaim := { program := "ytbbdjoahdbjljaa", sum := "204ab13249d0026ad4fb891a51f728260555b6b21013c93f67468b79fac14e8f", func := "loop.example/g01146/laws.FnExactQuietColours", spec := "fnExactQuietColours", apart := false }
def FnExactQuietColoursSaid : Prop := fnExactQuietColoursRow.holds Try.pinned (OpenSpec.ofChange fnExactQuietColoursSpec)

/-- ITS FALSE NEIGHBOUR: 'it returns false'. Refute it at one input. -/
def fnExactQuietColoursWrong : ChangeSpec := { name := "fnExactQuietColours", fn := fun _ => fun
  | [d1, d2] => { results := [.lit (.bool false)], args := [d1, d2] }
  | _ => none }
def FnExactQuietColoursWrongFalsely : Prop := fnExactQuietColoursRow.holds Try.pinned (OpenSpec.ofChange fnExactQuietColoursWrong)

/-- 'laws.FnExactWitnessColours': WHATEVER THE INPUT: true; the input reads as it did. -/
def fnExactWitnessColoursSpec : ChangeSpec := { name := "fnExactWitnessColours", fn := fun _ => fun
  | [d1, d2, d3] => { results := [.lit (.bool true)], args := [d1, d2, d3] }
  | _ => none }
def fnExactWitnessColoursRow : OpenClaim := { program := "ytbbdjoahdbjljaa", sum := "204ab13249d0026ad4fb891a51f728260555b6b21013c93f67468b79fac14e8f", func := "loop.example/g01146/laws.FnExactWitnessColours", spec := "fnExactWitnessColours", unfollowed := true, recurses := true, apart := false }
def FnExactWitnessColoursSaid : Prop := fnExactWitnessColoursRow.holds Try.pinned (OpenSpec.ofChange fnExactWitnessColoursSpec)

/-- ITS FALSE NEIGHBOUR: 'it returns false'. Refute it at one input. -/
def fnExactWitnessColoursWrong : ChangeSpec := { name := "fnExactWitnessColours", fn := fun _ => fun
  | [d1, d2, d3] => { results := [.lit (.bool false)], args := [d1, d2, d3] }
  | _ => none }
def FnExactWitnessColoursWrongFalsely : Prop := fnExactWitnessColoursRow.holds Try.pinned (OpenSpec.ofChange fnExactWitnessColoursWrong)

/-- 'laws.FnExactCountColourSolutions': WHATEVER THE INPUT: true; the input reads as it did. -/
def fnExactCountColourSolutionsSpec : ChangeSpec := { name := "fnExactCountColourSolutions", fn := fun _ => fun
  | [d1, d2, d3] => { results := [.lit (.bool true)], args := [d1, d2, d3] }
  | _ => none }
def fnExactCountColourSolutionsRow : OpenClaim := { program := "ytbbdjoahdbjljaa", sum := "204ab13249d0026ad4fb891a51f728260555b6b21013c93f67468b79fac14e8f", func := "loop.example/g01146/laws.FnExactCountColourSolutions", spec := "fnExactCountColourSolutions", unfollowed := true, recurses := true, apart := false }
def FnExactCountColourSolutionsSaid : Prop := fnExactCountColourSolutionsRow.holds Try.pinned (OpenSpec.ofChange fnExactCountColourSolutionsSpec)

/-- ITS FALSE NEIGHBOUR: 'it returns false'. Refute it at one input. -/
def fnExactCountColourSolutionsWrong : ChangeSpec := { name := "fnExactCountColourSolutions", fn := fun _ => fun
  | [d1, d2, d3] => { results := [.lit (.bool false)], args := [d1, d2, d3] }
  | _ => none }
def FnExactCountColourSolutionsWrongFalsely : Prop := fnExactCountColourSolutionsRow.holds Try.pinned (OpenSpec.ofChange fnExactCountColourSolutionsWrong)

/-- 'laws.FnExactSolveColours': WHATEVER THE INPUT: true; the input reads as it did. -/
def fnExactSolveColoursSpec : ChangeSpec := { name := "fnExactSolveColours", fn := fun _ => fun
  | [d1, d2, d3] => { results := [.lit (.bool true)], args := [d1, d2, d3] }
  | _ => none }
def fnExactSolveColoursRow : OpenClaim := { program := "ytbbdjoahdbjljaa", sum := "204ab13249d0026ad4fb891a51f728260555b6b21013c93f67468b79fac14e8f", func := "loop.example/g01146/laws.FnExactSolveColours", spec := "fnExactSolveColours", unfollowed := true, recurses := true, apart := false }
def FnExactSolveColoursSaid : Prop := fnExactSolveColoursRow.holds Try.pinned (OpenSpec.ofChange fnExactSolveColoursSpec)

/-- ITS FALSE NEIGHBOUR: 'it returns false'. Refute it at one input. -/
def fnExactSolveColoursWrong : ChangeSpec := { name := "fnExactSolveColours", fn := fun _ => fun
  | [d1, d2, d3] => { results := [.lit (.bool false)], args := [d1, d2, d3] }
  | _ => none }
def FnExactSolveColoursWrongFalsely : Prop := fnExactSolveColoursRow.holds Try.pinned (OpenSpec.ofChange fnExactSolveColoursWrong)

/-- 'laws.FnExactAllAtOnce': WHATEVER THE INPUT: true; the input reads as it did. -/
def fnExactAllAtOnceSpec : ChangeSpec := { name := "fnExactAllAtOnce", fn := fun _ => fun
  | [d1, d2] => { results := [.lit (.bool true)], args := [d1, d2] }
  | _ => none }
def fnExactAllAtOnceRow : OpenClaim := { program := "ytbbdjoahdbjljaa", sum := "204ab13249d0026ad4fb891a51f728260555b6b21013c93f67468b79fac14e8f", func := "loop.example/g01146/laws.FnExactAllAtOnce", spec := "fnExactAllAtOnce", unfollowed := true, recurses := true, apart := false }
def FnExactAllAtOnceSaid : Prop := fnExactAllAtOnceRow.holds Try.pinned (OpenSpec.ofChange fnExactAllAtOnceSpec)

/-- ITS FALSE NEIGHBOUR: 'it returns false'. Refute it at one input. -/
def fnExactAllAtOnceWrong : ChangeSpec := { name := "fnExactAllAtOnce", fn := fun _ => fun
  | [d1, d2] => { results := [.lit (.bool false)], args := [d1, d2] }
  | _ => none }
def FnExactAllAtOnceWrongFalsely : Prop := fnExactAllAtOnceRow.holds Try.pinned (OpenSpec.ofChange fnExactAllAtOnceWrong)

/- THE SECOND FORM. 'bulk': how many values and letters a reading holds, each counted each time it is reached (what is shared counts as often as it is met; a slice's spare places count too). A statement '..UptoSaid' is the law's where the arguments, and the package variables that the reading takes, are together of bulk at most 1048576: NARROWER than '..Said'. Prove '..Said' where nothing that the law and all that it calls make is longer than what came in: it says more and counts as full. Else prove '..UptoSaid'. A law counts once. -/
mutual
def uptoBulk {H : Type} : DataW H → Nat
  | .lit (.string bytes) => bytes.length + 1
  | .lit _ => 1
  | .nil => 1
  | .ptr d => uptoBulk d + 1
  | .slice elems spare => uptoBulkAll elems + uptoBulkAll spare + 1
  | .agg parts => uptoBulkAll parts + 1
  | .iface _ d => uptoBulk d + 1
  | .map entries => uptoBulkEntries entries + 1
  | .held _ => 1
def uptoBulkAll {H : Type} : List (DataW H) → Nat
  | [] => 0
  | d :: r => uptoBulk d + uptoBulkAll r
def uptoBulkEntries {H : Type} : List (Lit × DataW H) → Nat
  | [] => 0
  | x :: r => uptoBulkEntry x + uptoBulkEntries r
def uptoBulkEntry {H : Type} : Lit × DataW H → Nat
  | (.string bytes, d) => bytes.length + uptoBulk d + 1
  | (_, d) => uptoBulk d + 1
 end
def uptoSmall : (H : Type) → List (DataW H) → Bool := fun _ ds => decide (uptoBulkAll ds ≤ 1048576)
def OpenSpec.upto (s : _root_.Go.ChangeSpec) : _root_.Go.OpenSpec := { _root_.Go.OpenSpec.ofChange s with cond := some uptoSmall }

/-- 'laws.FnExactIsColours', WHERE WHAT IT READS IS OF BULK AT MOST 1048576: true; the input reads as it did. -/
def fnExactIsColoursUptoRow : OpenClaim := { program := "ytbbdjoahdbjljaa", sum := "204ab13249d0026ad4fb891a51f728260555b6b21013c93f67468b79fac14e8f", func := "loop.example/g01146/laws.FnExactIsColours", spec := "fnExactIsColours", unfollowed := true, recurses := true, apart := false, narrowed := true }
def FnExactIsColoursUptoSaid : Prop := fnExactIsColoursUptoRow.holds Try.pinned (OpenSpec.upto fnExactIsColoursSpec)

/-- 'laws.FnExactEffectColours', WHERE WHAT IT READS IS OF BULK AT MOST 1048576: true; the input reads as it did. -/
def fnExactEffectColoursUptoRow : OpenClaim := { program := "ytbbdjoahdbjljaa", sum := "204ab13249d0026ad4fb891a51f728260555b6b21013c93f67468b79fac14e8f", func := "loop.example/g01146/laws.FnExactEffectColours", spec := "fnExactEffectColours", unfollowed := true, recurses := true, apart := false, narrowed := true }
def FnExactEffectColoursUptoSaid : Prop := fnExactEffectColoursUptoRow.holds Try.pinned (OpenSpec.upto fnExactEffectColoursSpec)

/-- 'laws.FnExactPeriodOf', WHERE WHAT IT READS IS OF BULK AT MOST 1048576: true; the input reads as it did. -/
def fnExactPeriodOfUptoRow : OpenClaim := { program := "ytbbdjoahdbjljaa", sum := "204ab13249d0026ad4fb891a51f728260555b6b21013c93f67468b79fac14e8f", func := "loop.example/g01146/laws.FnExactPeriodOf", spec := "fnExactPeriodOf", unfollowed := true, recurses := true, apart := false, narrowed := true }
def FnExactPeriodOfUptoSaid : Prop := fnExactPeriodOfUptoRow.holds Try.pinned (OpenSpec.upto fnExactPeriodOfSpec)

/-- 'laws.FnExactPressColours', WHERE WHAT IT READS IS OF BULK AT MOST 1048576: true; the input reads as it did. -/
def fnExactPressColoursUptoRow : OpenClaim := { program := "ytbbdjoahdbjljaa", sum := "204ab13249d0026ad4fb891a51f728260555b6b21013c93f67468b79fac14e8f", func := "loop.example/g01146/laws.FnExactPressColours", spec := "fnExactPressColours", unfollowed := true, recurses := true, apart := false, narrowed := true }
def FnExactPressColoursUptoSaid : Prop := fnExactPressColoursUptoRow.holds Try.pinned (OpenSpec.upto fnExactPressColoursSpec)

/-- 'laws.FnExactDeterminantColours', WHERE WHAT IT READS IS OF BULK AT MOST 1048576: true; the input reads as it did. -/
def fnExactDeterminantColoursUptoRow : OpenClaim := { program := "ytbbdjoahdbjljaa", sum := "204ab13249d0026ad4fb891a51f728260555b6b21013c93f67468b79fac14e8f", func := "loop.example/g01146/laws.FnExactDeterminantColours", spec := "fnExactDeterminantColours", apart := false, narrowed := true }
def FnExactDeterminantColoursUptoSaid : Prop := fnExactDeterminantColoursUptoRow.holds Try.pinned (OpenSpec.upto fnExactDeterminantColoursSpec)

/-- 'laws.FnExactRankColours', WHERE WHAT IT READS IS OF BULK AT MOST 1048576: true; the input reads as it did. -/
def fnExactRankColoursUptoRow : OpenClaim := { program := "ytbbdjoahdbjljaa", sum := "204ab13249d0026ad4fb891a51f728260555b6b21013c93f67468b79fac14e8f", func := "loop.example/g01146/laws.FnExactRankColours", spec := "fnExactRankColours", apart := false, narrowed := true }
def FnExactRankColoursUptoSaid : Prop := fnExactRankColoursUptoRow.holds Try.pinned (OpenSpec.upto fnExactRankColoursSpec)

/-- 'laws.FnExactNullityColours', WHERE WHAT IT READS IS OF BULK AT MOST 1048576: true; the input reads as it did. -/
def fnExactNullityColoursUptoRow : OpenClaim := { program := "ytbbdjoahdbjljaa", sum := "204ab13249d0026ad4fb891a51f728260555b6b21013c93f67468b79fac14e8f", func := "loop.example/g01146/laws.FnExactNullityColours", spec := "fnExactNullityColours", apart := false, narrowed := true }
def FnExactNullityColoursUptoSaid : Prop := fnExactNullityColoursUptoRow.holds Try.pinned (OpenSpec.upto fnExactNullityColoursSpec)

/-- 'laws.FnExactQuietColours', WHERE WHAT IT READS IS OF BULK AT MOST 1048576: true; the input reads as it did. -/
def fnExactQuietColoursUptoRow : OpenClaim := { program := "ytbbdjoahdbjljaa", sum := "204ab13249d0026ad4fb891a51f728260555b6b21013c93f67468b79fac14e8f", func := "loop.example/g01146/laws.FnExactQuietColours", spec := "fnExactQuietColours", apart := false, narrowed := true }
def FnExactQuietColoursUptoSaid : Prop := fnExactQuietColoursUptoRow.holds Try.pinned (OpenSpec.upto fnExactQuietColoursSpec)

/-- 'laws.FnExactWitnessColours', WHERE WHAT IT READS IS OF BULK AT MOST 1048576: true; the input reads as it did. -/
def fnExactWitnessColoursUptoRow : OpenClaim := { program := "ytbbdjoahdbjljaa", sum := "204ab13249d0026ad4fb891a51f728260555b6b21013c93f67468b79fac14e8f", func := "loop.example/g01146/laws.FnExactWitnessColours", spec := "fnExactWitnessColours", unfollowed := true, recurses := true, apart := false, narrowed := true }
def FnExactWitnessColoursUptoSaid : Prop := fnExactWitnessColoursUptoRow.holds Try.pinned (OpenSpec.upto fnExactWitnessColoursSpec)

/-- 'laws.FnExactCountColourSolutions', WHERE WHAT IT READS IS OF BULK AT MOST 1048576: true; the input reads as it did. -/
def fnExactCountColourSolutionsUptoRow : OpenClaim := { program := "ytbbdjoahdbjljaa", sum := "204ab13249d0026ad4fb891a51f728260555b6b21013c93f67468b79fac14e8f", func := "loop.example/g01146/laws.FnExactCountColourSolutions", spec := "fnExactCountColourSolutions", unfollowed := true, recurses := true, apart := false, narrowed := true }
def FnExactCountColourSolutionsUptoSaid : Prop := fnExactCountColourSolutionsUptoRow.holds Try.pinned (OpenSpec.upto fnExactCountColourSolutionsSpec)

/-- 'laws.FnExactSolveColours', WHERE WHAT IT READS IS OF BULK AT MOST 1048576: true; the input reads as it did. -/
def fnExactSolveColoursUptoRow : OpenClaim := { program := "ytbbdjoahdbjljaa", sum := "204ab13249d0026ad4fb891a51f728260555b6b21013c93f67468b79fac14e8f", func := "loop.example/g01146/laws.FnExactSolveColours", spec := "fnExactSolveColours", unfollowed := true, recurses := true, apart := false, narrowed := true }
def FnExactSolveColoursUptoSaid : Prop := fnExactSolveColoursUptoRow.holds Try.pinned (OpenSpec.upto fnExactSolveColoursSpec)

/-- 'laws.FnExactAllAtOnce', WHERE WHAT IT READS IS OF BULK AT MOST 1048576: true; the input reads as it did. -/
def fnExactAllAtOnceUptoRow : OpenClaim := { program := "ytbbdjoahdbjljaa", sum := "204ab13249d0026ad4fb891a51f728260555b6b21013c93f67468b79fac14e8f", func := "loop.example/g01146/laws.FnExactAllAtOnce", spec := "fnExactAllAtOnce", unfollowed := true, recurses := true, apart := false, narrowed := true }
def FnExactAllAtOnceUptoSaid : Prop := fnExactAllAtOnceUptoRow.holds Try.pinned (OpenSpec.upto fnExactAllAtOnceSpec)

end Rows
end Go.Proofs.Ytbbdjoahdbjljaa
