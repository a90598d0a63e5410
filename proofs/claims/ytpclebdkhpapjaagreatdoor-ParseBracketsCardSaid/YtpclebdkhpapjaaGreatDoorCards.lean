/-
  DERIVED. GIVEN WITH THE SEED: THE CARDS: each row of YtpclebdkhpapjaaGreatDoorRows.lean that lists a variable, with what it lists TIED to the program's text (the seventh form; the later family's looks); each row that meets fmt, with fmt's text TOLD by the authors' own Lean function (tested against real Go, not proved from fmt's source: count such statements apart). THE CARD IS WHAT COUNTS. Prove the row's statement (the work); the ties are given (YtpclebdkhpapjaaGreatDoorTie.lean); close each card by the builder's one call (the guide's Derived/Test/ToyasCard.lean, 'card_holds'). Laid BY PROGRAM, IN A SANDBOX (cutbox-door.mjs). By AI agents, Wed Nov 11 2026. No macro, syntax, notation, axiom, sorry.
-/
import Derived.Test.YtpclebdkhpapjaaGreatDoorRows
import GoSem.ClaimSeven
namespace Go.Proofs.YtpclebdkhpapjaaGreatDoor
namespace Rows

/-- THE TIED CARD OF 'privhouselaw14.ParseNests'. -/
def parseNestsCard : Claim7 := { stood := { row := parseNestsRow, standIns := [], harness := (true, "12bd6a16cb1de5e125cc6836a152c1fd30665d17a40ea1ac85f79de742346d99"), looks := true }, kinds := [], alts := [], laidByText := true, laidKinds := [.data, .data, .data, .data, .sentinel, .sentinel, .widerDeep, .pinned], laidTests := true, laidLooks := .later }
def ParseNestsCardSaid : Prop := Claim7.holds Tryz.pinned (.plain (OpenSpec.ofChange parseNestsSpec)) parseNestsCard

/-- THE TIED CARD OF 'privhouselaw14.ParseLengths'. -/
def parseLengthsCard : Claim7 := { stood := { row := parseLengthsRow, standIns := [], harness := (true, "12bd6a16cb1de5e125cc6836a152c1fd30665d17a40ea1ac85f79de742346d99"), looks := true }, kinds := [], alts := [], laidByText := true, laidKinds := [.data, .data, .data, .data, .sentinel, .sentinel, .widerDeep, .pinned], laidTests := true, laidLooks := .later }
def ParseLengthsCardSaid : Prop := Claim7.holds Tryz.pinned (.plain (OpenSpec.ofChange parseLengthsSpec)) parseLengthsCard

/-- THE TIED CARD OF 'privhouselaw14.ParseStack'. -/
def parseStackCard : Claim7 := { stood := { row := parseStackRow, standIns := [], harness := (true, "12bd6a16cb1de5e125cc6836a152c1fd30665d17a40ea1ac85f79de742346d99"), looks := true }, kinds := [], alts := [], laidByText := true, laidKinds := [.data, .data, .data, .data, .sentinel, .sentinel, .widerDeep, .pinned], laidTests := true, laidLooks := .later }
def ParseStackCardSaid : Prop := Claim7.holds Tryz.pinned (.plain (OpenSpec.ofChange parseStackSpec)) parseStackCard

/-- THE TIED CARD OF 'privhouselaw14.ParseBrackets'. -/
def parseBracketsCard : Claim7 := { stood := { row := parseBracketsRow, standIns := [], harness := (true, "12bd6a16cb1de5e125cc6836a152c1fd30665d17a40ea1ac85f79de742346d99"), looks := true }, kinds := [], alts := [], laidByText := true, laidKinds := [.data, .data, .data, .data, .sentinel, .sentinel, .widerDeep, .pinned], laidTests := true, laidLooks := .later }
def ParseBracketsCardSaid : Prop := Claim7.holds Tryz.pinned (.plain (OpenSpec.ofChange parseBracketsSpec)) parseBracketsCard

/-- THE TIED CARD OF 'privhouselaw14.ParseBlanks'. -/
def parseBlanksCard : Claim7 := { stood := { row := parseBlanksRow, standIns := [], harness := (true, "12bd6a16cb1de5e125cc6836a152c1fd30665d17a40ea1ac85f79de742346d99"), looks := true }, kinds := [], alts := [], laidByText := true, laidKinds := [.data, .data, .data, .data, .sentinel, .sentinel, .widerDeep, .pinned], laidTests := true, laidLooks := .later }
def ParseBlanksCardSaid : Prop := Claim7.holds Tryz.pinned (.plain (OpenSpec.ofChange parseBlanksSpec)) parseBlanksCard

/-- THE SECOND FORM's CARD OF 'privhouselaw14.ParseNests'. -/
def parseNestsUptoCard : Claim7 := { stood := { row := parseNestsUptoRow, standIns := [], harness := (true, "12bd6a16cb1de5e125cc6836a152c1fd30665d17a40ea1ac85f79de742346d99"), looks := true }, kinds := [], alts := [], laidByText := true, laidKinds := [.data, .data, .data, .data, .sentinel, .sentinel, .widerDeep, .pinned], laidTests := true, laidLooks := .later }
def ParseNestsUptoCardSaid : Prop := Claim7.holds Tryz.pinned (.plain (OpenSpec.upto parseNestsSpec)) parseNestsUptoCard

/-- THE SECOND FORM's CARD OF 'privhouselaw14.ParseLengths'. -/
def parseLengthsUptoCard : Claim7 := { stood := { row := parseLengthsUptoRow, standIns := [], harness := (true, "12bd6a16cb1de5e125cc6836a152c1fd30665d17a40ea1ac85f79de742346d99"), looks := true }, kinds := [], alts := [], laidByText := true, laidKinds := [.data, .data, .data, .data, .sentinel, .sentinel, .widerDeep, .pinned], laidTests := true, laidLooks := .later }
def ParseLengthsUptoCardSaid : Prop := Claim7.holds Tryz.pinned (.plain (OpenSpec.upto parseLengthsSpec)) parseLengthsUptoCard

/-- THE SECOND FORM's CARD OF 'privhouselaw14.ParseStack'. -/
def parseStackUptoCard : Claim7 := { stood := { row := parseStackUptoRow, standIns := [], harness := (true, "12bd6a16cb1de5e125cc6836a152c1fd30665d17a40ea1ac85f79de742346d99"), looks := true }, kinds := [], alts := [], laidByText := true, laidKinds := [.data, .data, .data, .data, .sentinel, .sentinel, .widerDeep, .pinned], laidTests := true, laidLooks := .later }
def ParseStackUptoCardSaid : Prop := Claim7.holds Tryz.pinned (.plain (OpenSpec.upto parseStackSpec)) parseStackUptoCard

/-- THE SECOND FORM's CARD OF 'privhouselaw14.ParseBrackets'. -/
def parseBracketsUptoCard : Claim7 := { stood := { row := parseBracketsUptoRow, standIns := [], harness := (true, "12bd6a16cb1de5e125cc6836a152c1fd30665d17a40ea1ac85f79de742346d99"), looks := true }, kinds := [], alts := [], laidByText := true, laidKinds := [.data, .data, .data, .data, .sentinel, .sentinel, .widerDeep, .pinned], laidTests := true, laidLooks := .later }
def ParseBracketsUptoCardSaid : Prop := Claim7.holds Tryz.pinned (.plain (OpenSpec.upto parseBracketsSpec)) parseBracketsUptoCard

/-- THE SECOND FORM's CARD OF 'privhouselaw14.ParseBlanks'. -/
def parseBlanksUptoCard : Claim7 := { stood := { row := parseBlanksUptoRow, standIns := [], harness := (true, "12bd6a16cb1de5e125cc6836a152c1fd30665d17a40ea1ac85f79de742346d99"), looks := true }, kinds := [], alts := [], laidByText := true, laidKinds := [.data, .data, .data, .data, .sentinel, .sentinel, .widerDeep, .pinned], laidTests := true, laidLooks := .later }
def ParseBlanksUptoCardSaid : Prop := Claim7.holds Tryz.pinned (.plain (OpenSpec.upto parseBlanksSpec)) parseBlanksUptoCard
end Rows
end Go.Proofs.YtpclebdkhpapjaaGreatDoor
