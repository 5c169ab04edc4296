/-
  DERIVED. GIVEN WITH THE SEED: THE CARDS: each row of YtigkmdlbijdoaaaGreatDoorRows.lean that lists a variable, with what it lists TIED to the program's text (the seventh form; the later family's looks); each row that meets fmt, with fmt's text TOLD by the authors' own Lean function (tested against real Go, not proved from fmt's source: count such statements apart). THE CARD IS WHAT COUNTS. Prove the row's statement (the work); the ties are given (YtigkmdlbijdoaaaGreatDoorTie.lean); close each card by the builder's one call (the guide's Derived/Test/ToyasCard.lean, 'card_holds'). Laid BY PROGRAM, IN A SANDBOX (cutbox-door.mjs). By AI agents, Wed Nov 11 2026. No macro, syntax, notation, axiom, sorry.
-/
import Derived.Test.YtigkmdlbijdoaaaGreatDoorRows
import GoSem.ClaimSeven
namespace Go.Proofs.YtigkmdlbijdoaaaGreatDoor
namespace Rows

/-- THE TIED CARD OF 'laws.FnPolynomialsDivide'. -/
def fnPolynomialsDivideCard : Claim7 := { stood := { row := fnPolynomialsDivideRow, standIns := [], harness := (true, "b5d396f1b67bc97976791940e3982f45be2a2c513f51f599bb11f79dc67a07e7"), looks := true }, kinds := [], alts := [], laidByText := true, laidKinds := [.data, .data, .data, .data, .sentinel, .sentinel, .pinned], laidTests := true, laidLooks := .later }
def FnPolynomialsDivideCardSaid : Prop := Claim7.holds Tryz.pinned (.plain (OpenSpec.ofChange fnPolynomialsDivideSpec)) fnPolynomialsDivideCard

/-- THE SECOND FORM's CARD OF 'laws.FnPolynomialsDivide'. -/
def fnPolynomialsDivideUptoCard : Claim7 := { stood := { row := fnPolynomialsDivideUptoRow, standIns := [], harness := (true, "b5d396f1b67bc97976791940e3982f45be2a2c513f51f599bb11f79dc67a07e7"), looks := true }, kinds := [], alts := [], laidByText := true, laidKinds := [.data, .data, .data, .data, .sentinel, .sentinel, .pinned], laidTests := true, laidLooks := .later }
def FnPolynomialsDivideUptoCardSaid : Prop := Claim7.holds Tryz.pinned (.plain (OpenSpec.upto fnPolynomialsDivideSpec)) fnPolynomialsDivideUptoCard
end Rows
end Go.Proofs.YtigkmdlbijdoaaaGreatDoor
