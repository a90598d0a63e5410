/-
  DERIVED. GIVEN WITH THE SEED: THE CARDS: each row of YtcjapamldllleaaGreatDoorRows.lean that lists a variable, with what it lists TIED to the program's text (the seventh form; the later family's looks); each row that meets fmt, with fmt's text TOLD by the authors' own Lean function (tested against real Go, not proved from fmt's source: count such statements apart). THE CARD IS WHAT COUNTS. Prove the row's statement (the work); the ties are given (YtcjapamldllleaaGreatDoorTie.lean); close each card by the builder's one call (the guide's Derived/Test/ToyasCard.lean, 'card_holds'). Laid BY PROGRAM, IN A SANDBOX (cutbox-door.mjs). By AI agents, Wed Nov 11 2026. No macro, syntax, notation, axiom, sorry.
-/
import Derived.Test.YtcjapamldllleaaGreatDoorRows
import GoSem.ClaimSeven
namespace Go.Proofs.YtcjapamldllleaaGreatDoor
namespace Rows

/-- THE TIED CARD OF 'privhouselaw15.CheckExpressions'. -/
def checkExpressionsCard : Claim7 := { stood := { row := checkExpressionsRow, standIns := [], harness := (true, "6a65efbec210d46079c3513fa22066c10e61cd00767d90709744c5e3f510f87a"), looks := true }, kinds := [], alts := [], laidByText := true, laidKinds := [.data, .data, .data, .data, .sentinel, .sentinel, .widerDeep, .pinned], laidTests := true, laidLooks := .later }
def CheckExpressionsCardSaid : Prop := Claim7.holds Tryz.pinned (.plain (OpenSpec.ofChange checkExpressionsSpec)) checkExpressionsCard

/-- THE TIED CARD OF 'privhouselaw15.CheckPairs'. -/
def checkPairsCard : Claim7 := { stood := { row := checkPairsRow, standIns := [], harness := (true, "6a65efbec210d46079c3513fa22066c10e61cd00767d90709744c5e3f510f87a"), looks := true }, kinds := [], alts := [], laidByText := true, laidKinds := [.data, .data, .data, .data, .sentinel, .sentinel, .widerDeep, .pinned], laidTests := true, laidLooks := .later }
def CheckPairsCardSaid : Prop := Claim7.holds Tryz.pinned (.plain (OpenSpec.ofChange checkPairsSpec)) checkPairsCard

/-- THE SECOND FORM's CARD OF 'privhouselaw15.CheckExpressions'. -/
def checkExpressionsUptoCard : Claim7 := { stood := { row := checkExpressionsUptoRow, standIns := [], harness := (true, "6a65efbec210d46079c3513fa22066c10e61cd00767d90709744c5e3f510f87a"), looks := true }, kinds := [], alts := [], laidByText := true, laidKinds := [.data, .data, .data, .data, .sentinel, .sentinel, .widerDeep, .pinned], laidTests := true, laidLooks := .later }
def CheckExpressionsUptoCardSaid : Prop := Claim7.holds Tryz.pinned (.plain (OpenSpec.upto checkExpressionsSpec)) checkExpressionsUptoCard

/-- THE SECOND FORM's CARD OF 'privhouselaw15.CheckPairs'. -/
def checkPairsUptoCard : Claim7 := { stood := { row := checkPairsUptoRow, standIns := [], harness := (true, "6a65efbec210d46079c3513fa22066c10e61cd00767d90709744c5e3f510f87a"), looks := true }, kinds := [], alts := [], laidByText := true, laidKinds := [.data, .data, .data, .data, .sentinel, .sentinel, .widerDeep, .pinned], laidTests := true, laidLooks := .later }
def CheckPairsUptoCardSaid : Prop := Claim7.holds Tryz.pinned (.plain (OpenSpec.upto checkPairsSpec)) checkPairsUptoCard
end Rows
end Go.Proofs.YtcjapamldllleaaGreatDoor
