/-
  DERIVED. GIVEN WITH THE SEED: THE CARDS: each row of YtajaampgajieeaaGreatDoorRows.lean that lists a variable, with what it lists TIED to the program's text (the seventh form; the later family's looks); each row that meets fmt, with fmt's text TOLD by the authors' own Lean function (tested against real Go, not proved from fmt's source: count such statements apart). THE CARD IS WHAT COUNTS. Prove the row's statement (the work); the ties are given (YtajaampgajieeaaGreatDoorTie.lean); close each card by the builder's one call (the guide's Derived/Test/ToyasCard.lean, 'card_holds'). Laid BY PROGRAM, IN A SANDBOX (cutbox-door.mjs). By AI agents, Wed Nov 11 2026. No macro, syntax, notation, axiom, sorry.
-/
import Derived.Test.YtajaampgajieeaaGreatDoorRows
import GoSem.ClaimSeven
namespace Go.Proofs.YtajaampgajieeaaGreatDoor
namespace Rows

/-- THE TIED CARD OF 'privhouselaw15.CheckMore'. -/
def checkMoreCard : Claim7 := { stood := { row := checkMoreRow, standIns := [], harness := (true, "f1b4b89f49c5a2fd3b492b1e95e6c9c830d7962972ee0ba656d8736bf8e12b37"), looks := true }, kinds := [], alts := [], laidByText := true, laidKinds := [.data, .data, .data, .data, .sentinel, .sentinel, .widerDeep, .pinned], laidTests := true, laidLooks := .later }
def CheckMoreCardSaid : Prop := Claim7.holds Tryz.pinned (.plain (OpenSpec.ofChange checkMoreSpec)) checkMoreCard

/-- THE TIED CARD OF 'privhouselaw15.CheckQueries'. -/
def checkQueriesCard : Claim7 := { stood := { row := checkQueriesRow, standIns := [], harness := (true, "f1b4b89f49c5a2fd3b492b1e95e6c9c830d7962972ee0ba656d8736bf8e12b37"), looks := true }, kinds := [], alts := [], laidByText := true, laidKinds := [.data, .data, .data, .data, .sentinel, .sentinel, .widerDeep, .pinned], laidTests := true, laidLooks := .later }
def CheckQueriesCardSaid : Prop := Claim7.holds Tryz.pinned (.plain (OpenSpec.ofChange checkQueriesSpec)) checkQueriesCard

/-- THE TIED CARD OF 'privhouselaw19.SensRanks'. -/
def sensRanksCard : Claim7 := { stood := { row := sensRanksRow, standIns := [], harness := (true, "f1b4b89f49c5a2fd3b492b1e95e6c9c830d7962972ee0ba656d8736bf8e12b37"), looks := true }, kinds := [], alts := [], laidByText := true, laidKinds := [.data, .data, .data, .data, .sentinel, .sentinel, .widerDeep, .pinned], laidTests := true, laidLooks := .later }
def SensRanksCardSaid : Prop := Claim7.holds Tryz.pinned (.plain (OpenSpec.ofChange sensRanksSpec)) sensRanksCard

/-- THE TIED CARD OF 'privhouselaw19.SensBounds'. -/
def sensBoundsCard : Claim7 := { stood := { row := sensBoundsRow, standIns := [], harness := (true, "f1b4b89f49c5a2fd3b492b1e95e6c9c830d7962972ee0ba656d8736bf8e12b37"), looks := true }, kinds := [], alts := [], laidByText := true, laidKinds := [.data, .data, .data, .data, .sentinel, .sentinel, .widerDeep, .pinned], laidTests := true, laidLooks := .later }
def SensBoundsCardSaid : Prop := Claim7.holds Tryz.pinned (.plain (OpenSpec.ofChange sensBoundsSpec)) sensBoundsCard

/-- THE TIED CARD OF 'privhouselaw19.SensNumbers'. -/
def sensNumbersCard : Claim7 := { stood := { row := sensNumbersRow, standIns := [], harness := (true, "f1b4b89f49c5a2fd3b492b1e95e6c9c830d7962972ee0ba656d8736bf8e12b37"), looks := true }, kinds := [], alts := [], laidByText := true, laidKinds := [.data, .data, .data, .data, .sentinel, .sentinel, .widerDeep, .pinned], laidTests := true, laidLooks := .later }
def SensNumbersCardSaid : Prop := Claim7.holds Tryz.pinned (.plain (OpenSpec.ofChange sensNumbersSpec)) sensNumbersCard

/-- THE TIED CARD OF 'privhouselaw18.RelViews'. -/
def relViewsCard : Claim7 := { stood := { row := relViewsRow, standIns := [], harness := (true, "f1b4b89f49c5a2fd3b492b1e95e6c9c830d7962972ee0ba656d8736bf8e12b37"), looks := true }, kinds := [], alts := [], laidByText := true, laidKinds := [.data, .data, .data, .data, .sentinel, .sentinel, .widerDeep, .pinned], laidTests := true, laidLooks := .later }
def RelViewsCardSaid : Prop := Claim7.holds Tryz.pinned (.plain (OpenSpec.ofChange relViewsSpec)) relViewsCard

/-- THE TIED CARD OF 'privhouselaw18.RelCells'. -/
def relCellsCard : Claim7 := { stood := { row := relCellsRow, standIns := [], harness := (true, "f1b4b89f49c5a2fd3b492b1e95e6c9c830d7962972ee0ba656d8736bf8e12b37"), looks := true }, kinds := [], alts := [], laidByText := true, laidKinds := [.data, .data, .data, .data, .sentinel, .sentinel, .widerDeep, .pinned], laidTests := true, laidLooks := .later }
def RelCellsCardSaid : Prop := Claim7.holds Tryz.pinned (.plain (OpenSpec.ofChange relCellsSpec)) relCellsCard

/-- THE TIED CARD OF 'privhouselaw18.RelRows'. -/
def relRowsCard : Claim7 := { stood := { row := relRowsRow, standIns := [], harness := (true, "f1b4b89f49c5a2fd3b492b1e95e6c9c830d7962972ee0ba656d8736bf8e12b37"), looks := true }, kinds := [], alts := [], laidByText := true, laidKinds := [.data, .data, .data, .data, .sentinel, .sentinel, .widerDeep, .pinned], laidTests := true, laidLooks := .later }
def RelRowsCardSaid : Prop := Claim7.holds Tryz.pinned (.plain (OpenSpec.ofChange relRowsSpec)) relRowsCard

/-- THE TIED CARD OF 'privhouselaw18.RelAdds'. -/
def relAddsCard : Claim7 := { stood := { row := relAddsRow, standIns := [], harness := (true, "f1b4b89f49c5a2fd3b492b1e95e6c9c830d7962972ee0ba656d8736bf8e12b37"), looks := true }, kinds := [], alts := [], laidByText := true, laidKinds := [.data, .data, .data, .data, .sentinel, .sentinel, .widerDeep, .pinned], laidTests := true, laidLooks := .later }
def RelAddsCardSaid : Prop := Claim7.holds Tryz.pinned (.plain (OpenSpec.ofChange relAddsSpec)) relAddsCard

/-- THE TIED CARD OF 'privhouselaw18.RelOwners'. -/
def relOwnersCard : Claim7 := { stood := { row := relOwnersRow, standIns := [], harness := (true, "f1b4b89f49c5a2fd3b492b1e95e6c9c830d7962972ee0ba656d8736bf8e12b37"), looks := true }, kinds := [], alts := [], laidByText := true, laidKinds := [.data, .data, .data, .data, .sentinel, .sentinel, .widerDeep, .pinned], laidTests := true, laidLooks := .later }
def RelOwnersCardSaid : Prop := Claim7.holds Tryz.pinned (.plain (OpenSpec.ofChange relOwnersSpec)) relOwnersCard

/-- THE TIED CARD OF 'privhouselaw19.SensTrees'. -/
def sensTreesCard : Claim7 := { stood := { row := sensTreesRow, standIns := [], harness := (true, "f1b4b89f49c5a2fd3b492b1e95e6c9c830d7962972ee0ba656d8736bf8e12b37"), looks := true }, kinds := [], alts := [], laidByText := true, laidKinds := [.data, .data, .data, .data, .sentinel, .sentinel, .widerDeep, .pinned], laidTests := true, laidLooks := .later }
def SensTreesCardSaid : Prop := Claim7.holds Tryz.pinned (.plain (OpenSpec.ofChange sensTreesSpec)) sensTreesCard

/-- THE SECOND FORM's CARD OF 'privhouselaw15.CheckMore'. -/
def checkMoreUptoCard : Claim7 := { stood := { row := checkMoreUptoRow, standIns := [], harness := (true, "f1b4b89f49c5a2fd3b492b1e95e6c9c830d7962972ee0ba656d8736bf8e12b37"), looks := true }, kinds := [], alts := [], laidByText := true, laidKinds := [.data, .data, .data, .data, .sentinel, .sentinel, .widerDeep, .pinned], laidTests := true, laidLooks := .later }
def CheckMoreUptoCardSaid : Prop := Claim7.holds Tryz.pinned (.plain (OpenSpec.upto checkMoreSpec)) checkMoreUptoCard

/-- THE SECOND FORM's CARD OF 'privhouselaw15.CheckQueries'. -/
def checkQueriesUptoCard : Claim7 := { stood := { row := checkQueriesUptoRow, standIns := [], harness := (true, "f1b4b89f49c5a2fd3b492b1e95e6c9c830d7962972ee0ba656d8736bf8e12b37"), looks := true }, kinds := [], alts := [], laidByText := true, laidKinds := [.data, .data, .data, .data, .sentinel, .sentinel, .widerDeep, .pinned], laidTests := true, laidLooks := .later }
def CheckQueriesUptoCardSaid : Prop := Claim7.holds Tryz.pinned (.plain (OpenSpec.upto checkQueriesSpec)) checkQueriesUptoCard

/-- THE SECOND FORM's CARD OF 'privhouselaw19.SensRanks'. -/
def sensRanksUptoCard : Claim7 := { stood := { row := sensRanksUptoRow, standIns := [], harness := (true, "f1b4b89f49c5a2fd3b492b1e95e6c9c830d7962972ee0ba656d8736bf8e12b37"), looks := true }, kinds := [], alts := [], laidByText := true, laidKinds := [.data, .data, .data, .data, .sentinel, .sentinel, .widerDeep, .pinned], laidTests := true, laidLooks := .later }
def SensRanksUptoCardSaid : Prop := Claim7.holds Tryz.pinned (.plain (OpenSpec.upto sensRanksSpec)) sensRanksUptoCard

/-- THE SECOND FORM's CARD OF 'privhouselaw19.SensBounds'. -/
def sensBoundsUptoCard : Claim7 := { stood := { row := sensBoundsUptoRow, standIns := [], harness := (true, "f1b4b89f49c5a2fd3b492b1e95e6c9c830d7962972ee0ba656d8736bf8e12b37"), looks := true }, kinds := [], alts := [], laidByText := true, laidKinds := [.data, .data, .data, .data, .sentinel, .sentinel, .widerDeep, .pinned], laidTests := true, laidLooks := .later }
def SensBoundsUptoCardSaid : Prop := Claim7.holds Tryz.pinned (.plain (OpenSpec.upto sensBoundsSpec)) sensBoundsUptoCard

/-- THE SECOND FORM's CARD OF 'privhouselaw19.SensNumbers'. -/
def sensNumbersUptoCard : Claim7 := { stood := { row := sensNumbersUptoRow, standIns := [], harness := (true, "f1b4b89f49c5a2fd3b492b1e95e6c9c830d7962972ee0ba656d8736bf8e12b37"), looks := true }, kinds := [], alts := [], laidByText := true, laidKinds := [.data, .data, .data, .data, .sentinel, .sentinel, .widerDeep, .pinned], laidTests := true, laidLooks := .later }
def SensNumbersUptoCardSaid : Prop := Claim7.holds Tryz.pinned (.plain (OpenSpec.upto sensNumbersSpec)) sensNumbersUptoCard

/-- THE SECOND FORM's CARD OF 'privhouselaw18.RelViews'. -/
def relViewsUptoCard : Claim7 := { stood := { row := relViewsUptoRow, standIns := [], harness := (true, "f1b4b89f49c5a2fd3b492b1e95e6c9c830d7962972ee0ba656d8736bf8e12b37"), looks := true }, kinds := [], alts := [], laidByText := true, laidKinds := [.data, .data, .data, .data, .sentinel, .sentinel, .widerDeep, .pinned], laidTests := true, laidLooks := .later }
def RelViewsUptoCardSaid : Prop := Claim7.holds Tryz.pinned (.plain (OpenSpec.upto relViewsSpec)) relViewsUptoCard

/-- THE SECOND FORM's CARD OF 'privhouselaw18.RelCells'. -/
def relCellsUptoCard : Claim7 := { stood := { row := relCellsUptoRow, standIns := [], harness := (true, "f1b4b89f49c5a2fd3b492b1e95e6c9c830d7962972ee0ba656d8736bf8e12b37"), looks := true }, kinds := [], alts := [], laidByText := true, laidKinds := [.data, .data, .data, .data, .sentinel, .sentinel, .widerDeep, .pinned], laidTests := true, laidLooks := .later }
def RelCellsUptoCardSaid : Prop := Claim7.holds Tryz.pinned (.plain (OpenSpec.upto relCellsSpec)) relCellsUptoCard

/-- THE SECOND FORM's CARD OF 'privhouselaw18.RelRows'. -/
def relRowsUptoCard : Claim7 := { stood := { row := relRowsUptoRow, standIns := [], harness := (true, "f1b4b89f49c5a2fd3b492b1e95e6c9c830d7962972ee0ba656d8736bf8e12b37"), looks := true }, kinds := [], alts := [], laidByText := true, laidKinds := [.data, .data, .data, .data, .sentinel, .sentinel, .widerDeep, .pinned], laidTests := true, laidLooks := .later }
def RelRowsUptoCardSaid : Prop := Claim7.holds Tryz.pinned (.plain (OpenSpec.upto relRowsSpec)) relRowsUptoCard

/-- THE SECOND FORM's CARD OF 'privhouselaw18.RelAdds'. -/
def relAddsUptoCard : Claim7 := { stood := { row := relAddsUptoRow, standIns := [], harness := (true, "f1b4b89f49c5a2fd3b492b1e95e6c9c830d7962972ee0ba656d8736bf8e12b37"), looks := true }, kinds := [], alts := [], laidByText := true, laidKinds := [.data, .data, .data, .data, .sentinel, .sentinel, .widerDeep, .pinned], laidTests := true, laidLooks := .later }
def RelAddsUptoCardSaid : Prop := Claim7.holds Tryz.pinned (.plain (OpenSpec.upto relAddsSpec)) relAddsUptoCard

/-- THE SECOND FORM's CARD OF 'privhouselaw18.RelOwners'. -/
def relOwnersUptoCard : Claim7 := { stood := { row := relOwnersUptoRow, standIns := [], harness := (true, "f1b4b89f49c5a2fd3b492b1e95e6c9c830d7962972ee0ba656d8736bf8e12b37"), looks := true }, kinds := [], alts := [], laidByText := true, laidKinds := [.data, .data, .data, .data, .sentinel, .sentinel, .widerDeep, .pinned], laidTests := true, laidLooks := .later }
def RelOwnersUptoCardSaid : Prop := Claim7.holds Tryz.pinned (.plain (OpenSpec.upto relOwnersSpec)) relOwnersUptoCard

/-- THE SECOND FORM's CARD OF 'privhouselaw19.SensTrees'. -/
def sensTreesUptoCard : Claim7 := { stood := { row := sensTreesUptoRow, standIns := [], harness := (true, "f1b4b89f49c5a2fd3b492b1e95e6c9c830d7962972ee0ba656d8736bf8e12b37"), looks := true }, kinds := [], alts := [], laidByText := true, laidKinds := [.data, .data, .data, .data, .sentinel, .sentinel, .widerDeep, .pinned], laidTests := true, laidLooks := .later }
def SensTreesUptoCardSaid : Prop := Claim7.holds Tryz.pinned (.plain (OpenSpec.upto sensTreesSpec)) sensTreesUptoCard
end Rows
end Go.Proofs.YtajaampgajieeaaGreatDoor
