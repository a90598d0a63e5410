/-
  DERIVED. GIVEN WITH THE SEED: THE CARDS: each row of YtcjapamldllleaaDoorRows.lean that lists a variable, with what it lists TIED to the program's text (the seventh form; the later family's looks); each row that meets fmt, with fmt's text TOLD by the authors' own Lean function (tested against real Go, not proved from fmt's source: count such statements apart). THE CARD IS WHAT COUNTS. Prove the row's statement (the work); the ties are given (YtcjapamldllleaaDoorTie.lean); close each card by the builder's one call (the guide's Derived/Test/ToyasCard.lean, 'card_holds'). Laid BY PROGRAM, IN A SANDBOX (cutbox-door.mjs). By AI agents, Wed Nov 11 2026. No macro, syntax, notation, axiom, sorry.
-/
import Derived.Test.YtcjapamldllleaaDoorRows
import GoSem.ClaimSeven
namespace Go.Proofs.YtcjapamldllleaaDoor
namespace Rows

/-- THE TIED CARD OF 'privhouselaw17.SpanValues'. -/
def spanValuesCard : Claim7 := { stood := { row := spanValuesRow, standIns := [], harness := (true, "cd4e8e920d3a26d25bc4be019b714d75bafcfb3bb21c7e4d0d87607fc5196dd9"), looks := false }, kinds := [], alts := [], laidByText := true, laidKinds := [.widerDeep], laidTests := true, laidLooks := .later }
def SpanValuesCardSaid : Prop := Claim7.holds Tryd.pinned (.plain (OpenSpec.ofChange spanValuesSpec)) spanValuesCard

/-- THE TIED CARD OF 'privhouselaw17.SpanBounds'. -/
def spanBoundsCard : Claim7 := { stood := { row := spanBoundsRow, standIns := [], harness := (true, "cd4e8e920d3a26d25bc4be019b714d75bafcfb3bb21c7e4d0d87607fc5196dd9"), looks := false }, kinds := [], alts := [], laidByText := true, laidKinds := [.widerDeep], laidTests := true, laidLooks := .later }
def SpanBoundsCardSaid : Prop := Claim7.holds Tryd.pinned (.plain (OpenSpec.ofChange spanBoundsSpec)) spanBoundsCard

/-- THE TIED CARD OF 'privhouselaw17.SpanHolds'. -/
def spanHoldsCard : Claim7 := { stood := { row := spanHoldsRow, standIns := [], harness := (true, "cd4e8e920d3a26d25bc4be019b714d75bafcfb3bb21c7e4d0d87607fc5196dd9"), looks := false }, kinds := [], alts := [], laidByText := true, laidKinds := [.widerDeep], laidTests := true, laidLooks := .later }
def SpanHoldsCardSaid : Prop := Claim7.holds Tryd.pinned (.plain (OpenSpec.ofChange spanHoldsSpec)) spanHoldsCard

/-- THE TIED CARD OF 'privhouselaw17.SpanEnds'. -/
def spanEndsCard : Claim7 := { stood := { row := spanEndsRow, standIns := [], harness := (true, "cd4e8e920d3a26d25bc4be019b714d75bafcfb3bb21c7e4d0d87607fc5196dd9"), looks := false }, kinds := [], alts := [], laidByText := true, laidKinds := [.widerDeep], laidTests := true, laidLooks := .later }
def SpanEndsCardSaid : Prop := Claim7.holds Tryd.pinned (.plain (OpenSpec.ofChange spanEndsSpec)) spanEndsCard

/-- THE TIED CARD OF 'privhouselaw17.SpanFewer'. -/
def spanFewerCard : Claim7 := { stood := { row := spanFewerRow, standIns := [], harness := (true, "cd4e8e920d3a26d25bc4be019b714d75bafcfb3bb21c7e4d0d87607fc5196dd9"), looks := false }, kinds := [], alts := [], laidByText := true, laidKinds := [.widerDeep], laidTests := true, laidLooks := .later }
def SpanFewerCardSaid : Prop := Claim7.holds Tryd.pinned (.plain (OpenSpec.ofChange spanFewerSpec)) spanFewerCard

/-- THE SECOND FORM's CARD OF 'privhouselaw17.SpanValues'. -/
def spanValuesUptoCard : Claim7 := { stood := { row := spanValuesUptoRow, standIns := [], harness := (true, "cd4e8e920d3a26d25bc4be019b714d75bafcfb3bb21c7e4d0d87607fc5196dd9"), looks := false }, kinds := [], alts := [], laidByText := true, laidKinds := [.widerDeep], laidTests := true, laidLooks := .later }
def SpanValuesUptoCardSaid : Prop := Claim7.holds Tryd.pinned (.plain (OpenSpec.upto spanValuesSpec)) spanValuesUptoCard

/-- THE SECOND FORM's CARD OF 'privhouselaw17.SpanBounds'. -/
def spanBoundsUptoCard : Claim7 := { stood := { row := spanBoundsUptoRow, standIns := [], harness := (true, "cd4e8e920d3a26d25bc4be019b714d75bafcfb3bb21c7e4d0d87607fc5196dd9"), looks := false }, kinds := [], alts := [], laidByText := true, laidKinds := [.widerDeep], laidTests := true, laidLooks := .later }
def SpanBoundsUptoCardSaid : Prop := Claim7.holds Tryd.pinned (.plain (OpenSpec.upto spanBoundsSpec)) spanBoundsUptoCard

/-- THE SECOND FORM's CARD OF 'privhouselaw17.SpanHolds'. -/
def spanHoldsUptoCard : Claim7 := { stood := { row := spanHoldsUptoRow, standIns := [], harness := (true, "cd4e8e920d3a26d25bc4be019b714d75bafcfb3bb21c7e4d0d87607fc5196dd9"), looks := false }, kinds := [], alts := [], laidByText := true, laidKinds := [.widerDeep], laidTests := true, laidLooks := .later }
def SpanHoldsUptoCardSaid : Prop := Claim7.holds Tryd.pinned (.plain (OpenSpec.upto spanHoldsSpec)) spanHoldsUptoCard

/-- THE SECOND FORM's CARD OF 'privhouselaw17.SpanEnds'. -/
def spanEndsUptoCard : Claim7 := { stood := { row := spanEndsUptoRow, standIns := [], harness := (true, "cd4e8e920d3a26d25bc4be019b714d75bafcfb3bb21c7e4d0d87607fc5196dd9"), looks := false }, kinds := [], alts := [], laidByText := true, laidKinds := [.widerDeep], laidTests := true, laidLooks := .later }
def SpanEndsUptoCardSaid : Prop := Claim7.holds Tryd.pinned (.plain (OpenSpec.upto spanEndsSpec)) spanEndsUptoCard

/-- THE SECOND FORM's CARD OF 'privhouselaw17.SpanFewer'. -/
def spanFewerUptoCard : Claim7 := { stood := { row := spanFewerUptoRow, standIns := [], harness := (true, "cd4e8e920d3a26d25bc4be019b714d75bafcfb3bb21c7e4d0d87607fc5196dd9"), looks := false }, kinds := [], alts := [], laidByText := true, laidKinds := [.widerDeep], laidTests := true, laidLooks := .later }
def SpanFewerUptoCardSaid : Prop := Claim7.holds Tryd.pinned (.plain (OpenSpec.upto spanFewerSpec)) spanFewerUptoCard
end Rows
end Go.Proofs.YtcjapamldllleaaDoor
