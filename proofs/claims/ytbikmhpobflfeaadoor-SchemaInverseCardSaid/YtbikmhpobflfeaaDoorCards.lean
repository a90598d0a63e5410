/-
  DERIVED. GIVEN WITH THE SEED: THE CARDS: each row of YtbikmhpobflfeaaDoorRows.lean that lists a variable, with what it lists TIED to the program's text (the seventh form; the later family's looks); each row that meets fmt, with fmt's text TOLD by the authors' own Lean function (tested against real Go, not proved from fmt's source: count such statements apart). THE CARD IS WHAT COUNTS. Prove the row's statement (the work); the ties are given (YtbikmhpobflfeaaDoorTie.lean); close each card by the builder's one call (the guide's Derived/Test/ToyasCard.lean, 'card_holds'). Laid BY PROGRAM, IN A SANDBOX (cutbox-door.mjs). By AI agents, Wed Nov 11 2026. No macro, syntax, notation, axiom, sorry.
-/
import Derived.Test.YtbikmhpobflfeaaDoorRows
import GoSem.ClaimSeven
namespace Go.Proofs.YtbikmhpobflfeaaDoor
namespace Rows

/-- THE TIED CARD OF 'privhouselaw11.SchemaNames'. -/
def schemaNamesCard : Claim7 := { stood := { row := schemaNamesRow, standIns := [], harness := (true, "e0f4b1d59879622cb668d0dfafa81f56292dc39347da5c5c9d6b7667886420b8"), looks := true }, kinds := [], alts := [], laidByText := true, laidKinds := [.data, .data, .data, .widerDeep], laidTests := true, laidLooks := .later }
def SchemaNamesCardSaid : Prop := Claim7.holds Tryd.pinned (.plain (OpenSpec.ofChange schemaNamesSpec)) schemaNamesCard

/-- THE TIED CARD OF 'privhouselaw11.SchemaChecks'. -/
def schemaChecksCard : Claim7 := { stood := { row := schemaChecksRow, standIns := [], harness := (true, "e0f4b1d59879622cb668d0dfafa81f56292dc39347da5c5c9d6b7667886420b8"), looks := true }, kinds := [], alts := [], laidByText := true, laidKinds := [.data, .data, .data, .widerDeep], laidTests := true, laidLooks := .later }
def SchemaChecksCardSaid : Prop := Claim7.holds Tryd.pinned (.plain (OpenSpec.ofChange schemaChecksSpec)) schemaChecksCard

/-- THE TIED CARD OF 'privhouselaw11.SchemaAll'. -/
def schemaAllCard : Claim7 := { stood := { row := schemaAllRow, standIns := [], harness := (true, "e0f4b1d59879622cb668d0dfafa81f56292dc39347da5c5c9d6b7667886420b8"), looks := true }, kinds := [], alts := [], laidByText := true, laidKinds := [.data, .data, .data, .widerDeep], laidTests := true, laidLooks := .later }
def SchemaAllCardSaid : Prop := Claim7.holds Tryd.pinned (.plain (OpenSpec.ofChange schemaAllSpec)) schemaAllCard

/-- THE TIED CARD OF 'privhouselaw11.SchemaCopies'. -/
def schemaCopiesCard : Claim7 := { stood := { row := schemaCopiesRow, standIns := [], harness := (true, "e0f4b1d59879622cb668d0dfafa81f56292dc39347da5c5c9d6b7667886420b8"), looks := true }, kinds := [], alts := [], laidByText := true, laidKinds := [.data, .data, .data, .widerDeep], laidTests := true, laidLooks := .later }
def SchemaCopiesCardSaid : Prop := Claim7.holds Tryd.pinned (.plain (OpenSpec.ofChange schemaCopiesSpec)) schemaCopiesCard

/-- THE TIED CARD OF 'privhouselaw13.TokenSplits'. -/
def tokenSplitsCard : Claim7 := { stood := { row := tokenSplitsRow, standIns := [], harness := (true, "e0f4b1d59879622cb668d0dfafa81f56292dc39347da5c5c9d6b7667886420b8"), looks := true }, kinds := [], alts := [], laidByText := true, laidKinds := [.data, .data, .data, .sentinel, .sentinel, .widerDeep], laidTests := true, laidLooks := .later }
def TokenSplitsCardSaid : Prop := Claim7.holds Tryd.pinned (.plain (OpenSpec.ofChange tokenSplitsSpec)) tokenSplitsCard

/-- THE TIED CARD OF 'privhouselaw11.SchemaKnown'. -/
def schemaKnownCard : Claim7 := { stood := { row := schemaKnownRow, standIns := [], harness := (true, "e0f4b1d59879622cb668d0dfafa81f56292dc39347da5c5c9d6b7667886420b8"), looks := true }, kinds := [], alts := [], laidByText := true, laidKinds := [.data, .data, .data, .sentinel, .sentinel, .widerDeep], laidTests := true, laidLooks := .later }
def SchemaKnownCardSaid : Prop := Claim7.holds Tryd.pinned (.plain (OpenSpec.ofChange schemaKnownSpec)) schemaKnownCard

/-- THE TIED CARD OF 'privhouselaw11.SchemaInverse'. -/
def schemaInverseCard : Claim7 := { stood := { row := schemaInverseRow, standIns := [], harness := (true, "e0f4b1d59879622cb668d0dfafa81f56292dc39347da5c5c9d6b7667886420b8"), looks := true }, kinds := [], alts := [], laidByText := true, laidKinds := [.data, .data, .data, .sentinel, .sentinel, .widerDeep], laidTests := true, laidLooks := .later }
def SchemaInverseCardSaid : Prop := Claim7.holds Tryd.pinned (.plain (OpenSpec.ofChange schemaInverseSpec)) schemaInverseCard

/-- THE TIED CARD OF 'privhouselaw11.SchemaFewer'. -/
def schemaFewerCard : Claim7 := { stood := { row := schemaFewerRow, standIns := [], harness := (true, "e0f4b1d59879622cb668d0dfafa81f56292dc39347da5c5c9d6b7667886420b8"), looks := true }, kinds := [], alts := [], laidByText := true, laidKinds := [.data, .data, .data, .sentinel, .sentinel, .widerDeep], laidTests := true, laidLooks := .later }
def SchemaFewerCardSaid : Prop := Claim7.holds Tryd.pinned (.plain (OpenSpec.ofChange schemaFewerSpec)) schemaFewerCard

/-- THE TIED CARD OF 'privhouselaw13.TokenJoins'. -/
def tokenJoinsCard : Claim7 := { stood := { row := tokenJoinsRow, standIns := [], harness := (true, "e0f4b1d59879622cb668d0dfafa81f56292dc39347da5c5c9d6b7667886420b8"), looks := true }, kinds := [], alts := [], laidByText := true, laidKinds := [.data, .data, .data, .sentinel, .sentinel, .widerDeep], laidTests := true, laidLooks := .later }
def TokenJoinsCardSaid : Prop := Claim7.holds Tryd.pinned (.plain (OpenSpec.ofChange tokenJoinsSpec)) tokenJoinsCard

/-- THE TIED CARD OF 'privhouselaw13.TokenKnown'. -/
def tokenKnownCard : Claim7 := { stood := { row := tokenKnownRow, standIns := [], harness := (true, "e0f4b1d59879622cb668d0dfafa81f56292dc39347da5c5c9d6b7667886420b8"), looks := true }, kinds := [], alts := [], laidByText := true, laidKinds := [.data, .data, .data, .sentinel, .sentinel, .widerDeep], laidTests := true, laidLooks := .later }
def TokenKnownCardSaid : Prop := Claim7.holds Tryd.pinned (.plain (OpenSpec.ofChange tokenKnownSpec)) tokenKnownCard

/-- THE TIED CARD OF 'privhouselaw13.TokenAgain'. -/
def tokenAgainCard : Claim7 := { stood := { row := tokenAgainRow, standIns := [], harness := (true, "e0f4b1d59879622cb668d0dfafa81f56292dc39347da5c5c9d6b7667886420b8"), looks := true }, kinds := [], alts := [], laidByText := true, laidKinds := [.data, .data, .data, .sentinel, .sentinel, .widerDeep], laidTests := true, laidLooks := .later }
def TokenAgainCardSaid : Prop := Claim7.holds Tryd.pinned (.plain (OpenSpec.ofChange tokenAgainSpec)) tokenAgainCard

/-- THE TIED CARD OF 'privhouselaw13.TokenBlanks'. -/
def tokenBlanksCard : Claim7 := { stood := { row := tokenBlanksRow, standIns := [], harness := (true, "e0f4b1d59879622cb668d0dfafa81f56292dc39347da5c5c9d6b7667886420b8"), looks := true }, kinds := [], alts := [], laidByText := true, laidKinds := [.data, .data, .data, .sentinel, .sentinel, .widerDeep], laidTests := true, laidLooks := .later }
def TokenBlanksCardSaid : Prop := Claim7.holds Tryd.pinned (.plain (OpenSpec.ofChange tokenBlanksSpec)) tokenBlanksCard

/-- THE SECOND FORM's CARD OF 'privhouselaw11.SchemaNames'. -/
def schemaNamesUptoCard : Claim7 := { stood := { row := schemaNamesUptoRow, standIns := [], harness := (true, "e0f4b1d59879622cb668d0dfafa81f56292dc39347da5c5c9d6b7667886420b8"), looks := true }, kinds := [], alts := [], laidByText := true, laidKinds := [.data, .data, .data, .widerDeep], laidTests := true, laidLooks := .later }
def SchemaNamesUptoCardSaid : Prop := Claim7.holds Tryd.pinned (.plain (OpenSpec.upto schemaNamesSpec)) schemaNamesUptoCard

/-- THE SECOND FORM's CARD OF 'privhouselaw11.SchemaChecks'. -/
def schemaChecksUptoCard : Claim7 := { stood := { row := schemaChecksUptoRow, standIns := [], harness := (true, "e0f4b1d59879622cb668d0dfafa81f56292dc39347da5c5c9d6b7667886420b8"), looks := true }, kinds := [], alts := [], laidByText := true, laidKinds := [.data, .data, .data, .widerDeep], laidTests := true, laidLooks := .later }
def SchemaChecksUptoCardSaid : Prop := Claim7.holds Tryd.pinned (.plain (OpenSpec.upto schemaChecksSpec)) schemaChecksUptoCard

/-- THE SECOND FORM's CARD OF 'privhouselaw11.SchemaAll'. -/
def schemaAllUptoCard : Claim7 := { stood := { row := schemaAllUptoRow, standIns := [], harness := (true, "e0f4b1d59879622cb668d0dfafa81f56292dc39347da5c5c9d6b7667886420b8"), looks := true }, kinds := [], alts := [], laidByText := true, laidKinds := [.data, .data, .data, .widerDeep], laidTests := true, laidLooks := .later }
def SchemaAllUptoCardSaid : Prop := Claim7.holds Tryd.pinned (.plain (OpenSpec.upto schemaAllSpec)) schemaAllUptoCard

/-- THE SECOND FORM's CARD OF 'privhouselaw11.SchemaCopies'. -/
def schemaCopiesUptoCard : Claim7 := { stood := { row := schemaCopiesUptoRow, standIns := [], harness := (true, "e0f4b1d59879622cb668d0dfafa81f56292dc39347da5c5c9d6b7667886420b8"), looks := true }, kinds := [], alts := [], laidByText := true, laidKinds := [.data, .data, .data, .widerDeep], laidTests := true, laidLooks := .later }
def SchemaCopiesUptoCardSaid : Prop := Claim7.holds Tryd.pinned (.plain (OpenSpec.upto schemaCopiesSpec)) schemaCopiesUptoCard

/-- THE SECOND FORM's CARD OF 'privhouselaw13.TokenSplits'. -/
def tokenSplitsUptoCard : Claim7 := { stood := { row := tokenSplitsUptoRow, standIns := [], harness := (true, "e0f4b1d59879622cb668d0dfafa81f56292dc39347da5c5c9d6b7667886420b8"), looks := true }, kinds := [], alts := [], laidByText := true, laidKinds := [.data, .data, .data, .sentinel, .sentinel, .widerDeep], laidTests := true, laidLooks := .later }
def TokenSplitsUptoCardSaid : Prop := Claim7.holds Tryd.pinned (.plain (OpenSpec.upto tokenSplitsSpec)) tokenSplitsUptoCard

/-- THE SECOND FORM's CARD OF 'privhouselaw11.SchemaKnown'. -/
def schemaKnownUptoCard : Claim7 := { stood := { row := schemaKnownUptoRow, standIns := [], harness := (true, "e0f4b1d59879622cb668d0dfafa81f56292dc39347da5c5c9d6b7667886420b8"), looks := true }, kinds := [], alts := [], laidByText := true, laidKinds := [.data, .data, .data, .sentinel, .sentinel, .widerDeep], laidTests := true, laidLooks := .later }
def SchemaKnownUptoCardSaid : Prop := Claim7.holds Tryd.pinned (.plain (OpenSpec.upto schemaKnownSpec)) schemaKnownUptoCard

/-- THE SECOND FORM's CARD OF 'privhouselaw11.SchemaInverse'. -/
def schemaInverseUptoCard : Claim7 := { stood := { row := schemaInverseUptoRow, standIns := [], harness := (true, "e0f4b1d59879622cb668d0dfafa81f56292dc39347da5c5c9d6b7667886420b8"), looks := true }, kinds := [], alts := [], laidByText := true, laidKinds := [.data, .data, .data, .sentinel, .sentinel, .widerDeep], laidTests := true, laidLooks := .later }
def SchemaInverseUptoCardSaid : Prop := Claim7.holds Tryd.pinned (.plain (OpenSpec.upto schemaInverseSpec)) schemaInverseUptoCard

/-- THE SECOND FORM's CARD OF 'privhouselaw11.SchemaFewer'. -/
def schemaFewerUptoCard : Claim7 := { stood := { row := schemaFewerUptoRow, standIns := [], harness := (true, "e0f4b1d59879622cb668d0dfafa81f56292dc39347da5c5c9d6b7667886420b8"), looks := true }, kinds := [], alts := [], laidByText := true, laidKinds := [.data, .data, .data, .sentinel, .sentinel, .widerDeep], laidTests := true, laidLooks := .later }
def SchemaFewerUptoCardSaid : Prop := Claim7.holds Tryd.pinned (.plain (OpenSpec.upto schemaFewerSpec)) schemaFewerUptoCard

/-- THE SECOND FORM's CARD OF 'privhouselaw13.TokenJoins'. -/
def tokenJoinsUptoCard : Claim7 := { stood := { row := tokenJoinsUptoRow, standIns := [], harness := (true, "e0f4b1d59879622cb668d0dfafa81f56292dc39347da5c5c9d6b7667886420b8"), looks := true }, kinds := [], alts := [], laidByText := true, laidKinds := [.data, .data, .data, .sentinel, .sentinel, .widerDeep], laidTests := true, laidLooks := .later }
def TokenJoinsUptoCardSaid : Prop := Claim7.holds Tryd.pinned (.plain (OpenSpec.upto tokenJoinsSpec)) tokenJoinsUptoCard

/-- THE SECOND FORM's CARD OF 'privhouselaw13.TokenKnown'. -/
def tokenKnownUptoCard : Claim7 := { stood := { row := tokenKnownUptoRow, standIns := [], harness := (true, "e0f4b1d59879622cb668d0dfafa81f56292dc39347da5c5c9d6b7667886420b8"), looks := true }, kinds := [], alts := [], laidByText := true, laidKinds := [.data, .data, .data, .sentinel, .sentinel, .widerDeep], laidTests := true, laidLooks := .later }
def TokenKnownUptoCardSaid : Prop := Claim7.holds Tryd.pinned (.plain (OpenSpec.upto tokenKnownSpec)) tokenKnownUptoCard

/-- THE SECOND FORM's CARD OF 'privhouselaw13.TokenAgain'. -/
def tokenAgainUptoCard : Claim7 := { stood := { row := tokenAgainUptoRow, standIns := [], harness := (true, "e0f4b1d59879622cb668d0dfafa81f56292dc39347da5c5c9d6b7667886420b8"), looks := true }, kinds := [], alts := [], laidByText := true, laidKinds := [.data, .data, .data, .sentinel, .sentinel, .widerDeep], laidTests := true, laidLooks := .later }
def TokenAgainUptoCardSaid : Prop := Claim7.holds Tryd.pinned (.plain (OpenSpec.upto tokenAgainSpec)) tokenAgainUptoCard

/-- THE SECOND FORM's CARD OF 'privhouselaw13.TokenBlanks'. -/
def tokenBlanksUptoCard : Claim7 := { stood := { row := tokenBlanksUptoRow, standIns := [], harness := (true, "e0f4b1d59879622cb668d0dfafa81f56292dc39347da5c5c9d6b7667886420b8"), looks := true }, kinds := [], alts := [], laidByText := true, laidKinds := [.data, .data, .data, .sentinel, .sentinel, .widerDeep], laidTests := true, laidLooks := .later }
def TokenBlanksUptoCardSaid : Prop := Claim7.holds Tryd.pinned (.plain (OpenSpec.upto tokenBlanksSpec)) tokenBlanksUptoCard
end Rows
end Go.Proofs.YtbikmhpobflfeaaDoor
