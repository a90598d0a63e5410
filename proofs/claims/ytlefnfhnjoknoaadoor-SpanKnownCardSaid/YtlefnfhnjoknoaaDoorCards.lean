/-
  DERIVED. GIVEN WITH THE SEED: THE CARDS: each row of YtlefnfhnjoknoaaDoorRows.lean that lists a variable, with what it lists TIED to the program's text (the seventh form; the later family's looks); each row that meets fmt, with fmt's text TOLD by the authors' own Lean function (tested against real Go, not proved from fmt's source: count such statements apart). THE CARD IS WHAT COUNTS. Prove the row's statement (the work); the ties are given (YtlefnfhnjoknoaaDoorTie.lean); close each card by the builder's one call (the guide's Derived/Test/ToyasCard.lean, 'card_holds'). Laid BY PROGRAM, IN A SANDBOX (cutbox-door.mjs). By AI agents, Wed Nov 11 2026. No macro, syntax, notation, axiom, sorry.
-/
import Derived.Test.YtlefnfhnjoknoaaDoorRows
import GoSem.ClaimSeven
namespace Go.Proofs.YtlefnfhnjoknoaaDoor
namespace Rows

/-- THE TIED CARD OF 'privhouselaw17.SpanKnown'. -/
def spanKnownCard : Claim7 := { stood := { row := spanKnownRow, standIns := [], harness := (true, "f21947d3b5906b2c000cfdde52f73b607dbae48b9de8669c562a995bd97976b3"), looks := false }, kinds := [], alts := [], laidByText := true, laidKinds := [.widerDeep], laidTests := true, laidLooks := .later }
def SpanKnownCardSaid : Prop := Claim7.holds Tryd.pinned (.plain (OpenSpec.ofChange spanKnownSpec)) spanKnownCard

/-- THE SECOND FORM's CARD OF 'privhouselaw17.SpanKnown'. -/
def spanKnownUptoCard : Claim7 := { stood := { row := spanKnownUptoRow, standIns := [], harness := (true, "f21947d3b5906b2c000cfdde52f73b607dbae48b9de8669c562a995bd97976b3"), looks := false }, kinds := [], alts := [], laidByText := true, laidKinds := [.widerDeep], laidTests := true, laidLooks := .later }
def SpanKnownUptoCardSaid : Prop := Claim7.holds Tryd.pinned (.plain (OpenSpec.upto spanKnownSpec)) spanKnownUptoCard
end Rows
end Go.Proofs.YtlefnfhnjoknoaaDoor
