/-
  DERIVED. GIVEN WITH THE SEED: THE CARDS: each row of YtlefnfhnjoknoaaGreatDoorRows.lean that lists a variable, with what it lists TIED to the program's text (the seventh form; the later family's looks); each row that meets fmt, with fmt's text TOLD by the authors' own Lean function (tested against real Go, not proved from fmt's source: count such statements apart). THE CARD IS WHAT COUNTS. Prove the row's statement (the work); the ties are given (YtlefnfhnjoknoaaGreatDoorTie.lean); close each card by the builder's one call (the guide's Derived/Test/ToyasCard.lean, 'card_holds'). Laid BY PROGRAM, IN A SANDBOX (cutbox-door.mjs). By AI agents, Wed Nov 11 2026. No macro, syntax, notation, axiom, sorry.
-/
import Derived.Test.YtlefnfhnjoknoaaGreatDoorRows
import GoSem.ClaimSeven
namespace Go.Proofs.YtlefnfhnjoknoaaGreatDoor
namespace Rows

/-- THE TIED CARD OF 'privhouselaw15.CheckKnown'. -/
def checkKnownCard : Claim7 := { stood := { row := checkKnownRow, standIns := [], harness := (true, "d2a14a5f1e0043f71864f2d602a8507bf7a8db1dd3b5544d5ed739cfaed4eb7b"), looks := true }, kinds := [], alts := [], laidByText := true, laidKinds := [.data, .data, .data, .data, .sentinel, .sentinel, .widerDeep, .pinned], laidTests := true, laidLooks := .later }
def CheckKnownCardSaid : Prop := Claim7.holds Tryz.pinned (.plain (OpenSpec.ofChange checkKnownSpec)) checkKnownCard

/-- THE TIED CARD OF 'privhouselaw19.SensKnown'. -/
def sensKnownCard : Claim7 := { stood := { row := sensKnownRow, standIns := [], harness := (true, "d2a14a5f1e0043f71864f2d602a8507bf7a8db1dd3b5544d5ed739cfaed4eb7b"), looks := true }, kinds := [], alts := [], laidByText := true, laidKinds := [.data, .data, .data, .data, .sentinel, .sentinel, .widerDeep, .pinned], laidTests := true, laidLooks := .later }
def SensKnownCardSaid : Prop := Claim7.holds Tryz.pinned (.plain (OpenSpec.ofChange sensKnownSpec)) sensKnownCard

/-- THE TIED CARD OF 'privhouselaw18.RelKnown'. -/
def relKnownCard : Claim7 := { stood := { row := relKnownRow, standIns := [], harness := (true, "d2a14a5f1e0043f71864f2d602a8507bf7a8db1dd3b5544d5ed739cfaed4eb7b"), looks := true }, kinds := [], alts := [], laidByText := true, laidKinds := [.data, .data, .data, .data, .sentinel, .sentinel, .widerDeep, .pinned], laidTests := true, laidLooks := .later }
def RelKnownCardSaid : Prop := Claim7.holds Tryz.pinned (.plain (OpenSpec.ofChange relKnownSpec)) relKnownCard

/-- THE TIED CARD OF 'privhouselaw14.ParseKnown'. -/
def parseKnownCard : Claim7 := { stood := { row := parseKnownRow, standIns := [], harness := (true, "d2a14a5f1e0043f71864f2d602a8507bf7a8db1dd3b5544d5ed739cfaed4eb7b"), looks := true }, kinds := [], alts := [], laidByText := true, laidKinds := [.data, .data, .data, .data, .sentinel, .sentinel, .widerDeep, .pinned], laidTests := true, laidLooks := .later }
def ParseKnownCardSaid : Prop := Claim7.holds Tryz.pinned (.plain (OpenSpec.ofChange parseKnownSpec)) parseKnownCard

/-- THE SECOND FORM's CARD OF 'privhouselaw15.CheckKnown'. -/
def checkKnownUptoCard : Claim7 := { stood := { row := checkKnownUptoRow, standIns := [], harness := (true, "d2a14a5f1e0043f71864f2d602a8507bf7a8db1dd3b5544d5ed739cfaed4eb7b"), looks := true }, kinds := [], alts := [], laidByText := true, laidKinds := [.data, .data, .data, .data, .sentinel, .sentinel, .widerDeep, .pinned], laidTests := true, laidLooks := .later }
def CheckKnownUptoCardSaid : Prop := Claim7.holds Tryz.pinned (.plain (OpenSpec.upto checkKnownSpec)) checkKnownUptoCard

/-- THE SECOND FORM's CARD OF 'privhouselaw19.SensKnown'. -/
def sensKnownUptoCard : Claim7 := { stood := { row := sensKnownUptoRow, standIns := [], harness := (true, "d2a14a5f1e0043f71864f2d602a8507bf7a8db1dd3b5544d5ed739cfaed4eb7b"), looks := true }, kinds := [], alts := [], laidByText := true, laidKinds := [.data, .data, .data, .data, .sentinel, .sentinel, .widerDeep, .pinned], laidTests := true, laidLooks := .later }
def SensKnownUptoCardSaid : Prop := Claim7.holds Tryz.pinned (.plain (OpenSpec.upto sensKnownSpec)) sensKnownUptoCard

/-- THE SECOND FORM's CARD OF 'privhouselaw18.RelKnown'. -/
def relKnownUptoCard : Claim7 := { stood := { row := relKnownUptoRow, standIns := [], harness := (true, "d2a14a5f1e0043f71864f2d602a8507bf7a8db1dd3b5544d5ed739cfaed4eb7b"), looks := true }, kinds := [], alts := [], laidByText := true, laidKinds := [.data, .data, .data, .data, .sentinel, .sentinel, .widerDeep, .pinned], laidTests := true, laidLooks := .later }
def RelKnownUptoCardSaid : Prop := Claim7.holds Tryz.pinned (.plain (OpenSpec.upto relKnownSpec)) relKnownUptoCard

/-- THE SECOND FORM's CARD OF 'privhouselaw14.ParseKnown'. -/
def parseKnownUptoCard : Claim7 := { stood := { row := parseKnownUptoRow, standIns := [], harness := (true, "d2a14a5f1e0043f71864f2d602a8507bf7a8db1dd3b5544d5ed739cfaed4eb7b"), looks := true }, kinds := [], alts := [], laidByText := true, laidKinds := [.data, .data, .data, .data, .sentinel, .sentinel, .widerDeep, .pinned], laidTests := true, laidLooks := .later }
def ParseKnownUptoCardSaid : Prop := Claim7.holds Tryz.pinned (.plain (OpenSpec.upto parseKnownSpec)) parseKnownUptoCard
end Rows
end Go.Proofs.YtlefnfhnjoknoaaGreatDoor
