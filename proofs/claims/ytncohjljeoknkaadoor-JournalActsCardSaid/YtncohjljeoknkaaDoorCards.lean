/-
  DERIVED. GIVEN WITH THE SEED: THE CARDS: each row of YtncohjljeoknkaaDoorRows.lean that lists a variable, with what it lists TIED to the program's text (the seventh form; the later family's looks); each row that meets fmt, with fmt's text TOLD by the authors' own Lean function (tested against real Go, not proved from fmt's source: count such statements apart). THE CARD IS WHAT COUNTS. Prove the row's statement (the work); the ties are given (YtncohjljeoknkaaDoorTie.lean); close each card by the builder's one call (the guide's Derived/Test/ToyasCard.lean, 'card_holds'). Laid BY PROGRAM, IN A SANDBOX (cutbox-door.mjs). By AI agents, Wed Nov 11 2026. No macro, syntax, notation, axiom, sorry.
-/
import Derived.Test.YtncohjljeoknkaaDoorRows
import GoSem.ClaimSeven
namespace Go.Proofs.YtncohjljeoknkaaDoor
namespace Rows

/-- THE TIED CARD OF 'privhouselaw31.DiskKnown'. -/
def diskKnownCard : Claim7 := { stood := { row := diskKnownRow, standIns := [], harness := (true, "32b91174de0ecf04ad0c5063c9b73eb014232344bd708e56e4f5ccb08505c5ed"), looks := true }, kinds := [], alts := [], laidByText := true, laidKinds := [.sentinel], laidTests := true, laidLooks := .later }
def DiskKnownCardSaid : Prop := Claim7.holds Tryd.pinned (.plain (OpenSpec.ofChange diskKnownSpec)) diskKnownCard

/-- THE TIED CARD OF 'privhouselaw31.DiskKeeps'. -/
def diskKeepsCard : Claim7 := { stood := { row := diskKeepsRow, standIns := [], harness := (true, "32b91174de0ecf04ad0c5063c9b73eb014232344bd708e56e4f5ccb08505c5ed"), looks := true }, kinds := [], alts := [], laidByText := true, laidKinds := [.sentinel], laidTests := true, laidLooks := .later }
def DiskKeepsCardSaid : Prop := Claim7.holds Tryd.pinned (.plain (OpenSpec.ofChange diskKeepsSpec)) diskKeepsCard

/-- THE TIED CARD OF 'privhouselaw31.DiskFuses'. -/
def diskFusesCard : Claim7 := { stood := { row := diskFusesRow, standIns := [], harness := (true, "32b91174de0ecf04ad0c5063c9b73eb014232344bd708e56e4f5ccb08505c5ed"), looks := true }, kinds := [], alts := [], laidByText := true, laidKinds := [.sentinel], laidTests := true, laidLooks := .later }
def DiskFusesCardSaid : Prop := Claim7.holds Tryd.pinned (.plain (OpenSpec.ofChange diskFusesSpec)) diskFusesCard

/-- THE TIED CARD OF 'privhouselaw31.DiskActs'. -/
def diskActsCard : Claim7 := { stood := { row := diskActsRow, standIns := [], harness := (true, "32b91174de0ecf04ad0c5063c9b73eb014232344bd708e56e4f5ccb08505c5ed"), looks := true }, kinds := [], alts := [], laidByText := true, laidKinds := [.sentinel], laidTests := true, laidLooks := .later }
def DiskActsCardSaid : Prop := Claim7.holds Tryd.pinned (.plain (OpenSpec.ofChange diskActsSpec)) diskActsCard

/-- THE TIED CARD OF 'privhouselaw31.DiskNone'. -/
def diskNoneCard : Claim7 := { stood := { row := diskNoneRow, standIns := [], harness := (true, "32b91174de0ecf04ad0c5063c9b73eb014232344bd708e56e4f5ccb08505c5ed"), looks := true }, kinds := [], alts := [], laidByText := true, laidKinds := [.sentinel], laidTests := true, laidLooks := .later }
def DiskNoneCardSaid : Prop := Claim7.holds Tryd.pinned (.plain (OpenSpec.ofChange diskNoneSpec)) diskNoneCard

/-- THE TIED CARD OF 'privhouselaw32.JournalKnown'. -/
def journalKnownCard : Claim7 := { stood := { row := journalKnownRow, standIns := [], harness := (true, "32b91174de0ecf04ad0c5063c9b73eb014232344bd708e56e4f5ccb08505c5ed"), looks := true }, kinds := [], alts := [], laidByText := true, laidKinds := [.sentinel], laidTests := true, laidLooks := .later }
def JournalKnownCardSaid : Prop := Claim7.holds Tryd.pinned (.plain (OpenSpec.ofChange journalKnownSpec)) journalKnownCard

/-- THE TIED CARD OF 'privhouselaw32.JournalTorn'. -/
def journalTornCard : Claim7 := { stood := { row := journalTornRow, standIns := [], harness := (true, "32b91174de0ecf04ad0c5063c9b73eb014232344bd708e56e4f5ccb08505c5ed"), looks := true }, kinds := [], alts := [], laidByText := true, laidKinds := [.sentinel], laidTests := true, laidLooks := .later }
def JournalTornCardSaid : Prop := Claim7.holds Tryd.pinned (.plain (OpenSpec.ofChange journalTornSpec)) journalTornCard

/-- THE TIED CARD OF 'privhouselaw32.JournalNone'. -/
def journalNoneCard : Claim7 := { stood := { row := journalNoneRow, standIns := [], harness := (true, "32b91174de0ecf04ad0c5063c9b73eb014232344bd708e56e4f5ccb08505c5ed"), looks := true }, kinds := [], alts := [], laidByText := true, laidKinds := [.sentinel], laidTests := true, laidLooks := .later }
def JournalNoneCardSaid : Prop := Claim7.holds Tryd.pinned (.plain (OpenSpec.ofChange journalNoneSpec)) journalNoneCard

/-- THE TIED CARD OF 'privhouselaw32.JournalActs'. -/
def journalActsCard : Claim7 := { stood := { row := journalActsRow, standIns := [], harness := (true, "32b91174de0ecf04ad0c5063c9b73eb014232344bd708e56e4f5ccb08505c5ed"), looks := true }, kinds := [], alts := [], laidByText := true, laidKinds := [.sentinel], laidTests := true, laidLooks := .later }
def JournalActsCardSaid : Prop := Claim7.holds Tryd.pinned (.plain (OpenSpec.ofChange journalActsSpec)) journalActsCard

/-- THE TIED CARD OF 'privhouselaw32.JournalKeeps'. -/
def journalKeepsCard : Claim7 := { stood := { row := journalKeepsRow, standIns := [], harness := (true, "32b91174de0ecf04ad0c5063c9b73eb014232344bd708e56e4f5ccb08505c5ed"), looks := true }, kinds := [], alts := [], laidByText := true, laidKinds := [.sentinel], laidTests := true, laidLooks := .later }
def JournalKeepsCardSaid : Prop := Claim7.holds Tryd.pinned (.plain (OpenSpec.ofChange journalKeepsSpec)) journalKeepsCard

/-- THE SECOND FORM's CARD OF 'privhouselaw31.DiskKnown'. -/
def diskKnownUptoCard : Claim7 := { stood := { row := diskKnownUptoRow, standIns := [], harness := (true, "32b91174de0ecf04ad0c5063c9b73eb014232344bd708e56e4f5ccb08505c5ed"), looks := true }, kinds := [], alts := [], laidByText := true, laidKinds := [.sentinel], laidTests := true, laidLooks := .later }
def DiskKnownUptoCardSaid : Prop := Claim7.holds Tryd.pinned (.plain (OpenSpec.upto diskKnownSpec)) diskKnownUptoCard

/-- THE SECOND FORM's CARD OF 'privhouselaw31.DiskKeeps'. -/
def diskKeepsUptoCard : Claim7 := { stood := { row := diskKeepsUptoRow, standIns := [], harness := (true, "32b91174de0ecf04ad0c5063c9b73eb014232344bd708e56e4f5ccb08505c5ed"), looks := true }, kinds := [], alts := [], laidByText := true, laidKinds := [.sentinel], laidTests := true, laidLooks := .later }
def DiskKeepsUptoCardSaid : Prop := Claim7.holds Tryd.pinned (.plain (OpenSpec.upto diskKeepsSpec)) diskKeepsUptoCard

/-- THE SECOND FORM's CARD OF 'privhouselaw31.DiskFuses'. -/
def diskFusesUptoCard : Claim7 := { stood := { row := diskFusesUptoRow, standIns := [], harness := (true, "32b91174de0ecf04ad0c5063c9b73eb014232344bd708e56e4f5ccb08505c5ed"), looks := true }, kinds := [], alts := [], laidByText := true, laidKinds := [.sentinel], laidTests := true, laidLooks := .later }
def DiskFusesUptoCardSaid : Prop := Claim7.holds Tryd.pinned (.plain (OpenSpec.upto diskFusesSpec)) diskFusesUptoCard

/-- THE SECOND FORM's CARD OF 'privhouselaw31.DiskActs'. -/
def diskActsUptoCard : Claim7 := { stood := { row := diskActsUptoRow, standIns := [], harness := (true, "32b91174de0ecf04ad0c5063c9b73eb014232344bd708e56e4f5ccb08505c5ed"), looks := true }, kinds := [], alts := [], laidByText := true, laidKinds := [.sentinel], laidTests := true, laidLooks := .later }
def DiskActsUptoCardSaid : Prop := Claim7.holds Tryd.pinned (.plain (OpenSpec.upto diskActsSpec)) diskActsUptoCard

/-- THE SECOND FORM's CARD OF 'privhouselaw31.DiskNone'. -/
def diskNoneUptoCard : Claim7 := { stood := { row := diskNoneUptoRow, standIns := [], harness := (true, "32b91174de0ecf04ad0c5063c9b73eb014232344bd708e56e4f5ccb08505c5ed"), looks := true }, kinds := [], alts := [], laidByText := true, laidKinds := [.sentinel], laidTests := true, laidLooks := .later }
def DiskNoneUptoCardSaid : Prop := Claim7.holds Tryd.pinned (.plain (OpenSpec.upto diskNoneSpec)) diskNoneUptoCard

/-- THE SECOND FORM's CARD OF 'privhouselaw32.JournalKnown'. -/
def journalKnownUptoCard : Claim7 := { stood := { row := journalKnownUptoRow, standIns := [], harness := (true, "32b91174de0ecf04ad0c5063c9b73eb014232344bd708e56e4f5ccb08505c5ed"), looks := true }, kinds := [], alts := [], laidByText := true, laidKinds := [.sentinel], laidTests := true, laidLooks := .later }
def JournalKnownUptoCardSaid : Prop := Claim7.holds Tryd.pinned (.plain (OpenSpec.upto journalKnownSpec)) journalKnownUptoCard

/-- THE SECOND FORM's CARD OF 'privhouselaw32.JournalTorn'. -/
def journalTornUptoCard : Claim7 := { stood := { row := journalTornUptoRow, standIns := [], harness := (true, "32b91174de0ecf04ad0c5063c9b73eb014232344bd708e56e4f5ccb08505c5ed"), looks := true }, kinds := [], alts := [], laidByText := true, laidKinds := [.sentinel], laidTests := true, laidLooks := .later }
def JournalTornUptoCardSaid : Prop := Claim7.holds Tryd.pinned (.plain (OpenSpec.upto journalTornSpec)) journalTornUptoCard

/-- THE SECOND FORM's CARD OF 'privhouselaw32.JournalNone'. -/
def journalNoneUptoCard : Claim7 := { stood := { row := journalNoneUptoRow, standIns := [], harness := (true, "32b91174de0ecf04ad0c5063c9b73eb014232344bd708e56e4f5ccb08505c5ed"), looks := true }, kinds := [], alts := [], laidByText := true, laidKinds := [.sentinel], laidTests := true, laidLooks := .later }
def JournalNoneUptoCardSaid : Prop := Claim7.holds Tryd.pinned (.plain (OpenSpec.upto journalNoneSpec)) journalNoneUptoCard

/-- THE SECOND FORM's CARD OF 'privhouselaw32.JournalActs'. -/
def journalActsUptoCard : Claim7 := { stood := { row := journalActsUptoRow, standIns := [], harness := (true, "32b91174de0ecf04ad0c5063c9b73eb014232344bd708e56e4f5ccb08505c5ed"), looks := true }, kinds := [], alts := [], laidByText := true, laidKinds := [.sentinel], laidTests := true, laidLooks := .later }
def JournalActsUptoCardSaid : Prop := Claim7.holds Tryd.pinned (.plain (OpenSpec.upto journalActsSpec)) journalActsUptoCard

/-- THE SECOND FORM's CARD OF 'privhouselaw32.JournalKeeps'. -/
def journalKeepsUptoCard : Claim7 := { stood := { row := journalKeepsUptoRow, standIns := [], harness := (true, "32b91174de0ecf04ad0c5063c9b73eb014232344bd708e56e4f5ccb08505c5ed"), looks := true }, kinds := [], alts := [], laidByText := true, laidKinds := [.sentinel], laidTests := true, laidLooks := .later }
def JournalKeepsUptoCardSaid : Prop := Claim7.holds Tryd.pinned (.plain (OpenSpec.upto journalKeepsSpec)) journalKeepsUptoCard
end Rows
end Go.Proofs.YtncohjljeoknkaaDoor
