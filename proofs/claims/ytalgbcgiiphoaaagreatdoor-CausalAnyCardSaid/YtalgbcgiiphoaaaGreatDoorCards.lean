/-
  DERIVED. GIVEN WITH THE SEED: THE CARDS: each row of YtalgbcgiiphoaaaGreatDoorRows.lean that lists a variable, with what it lists TIED to the program's text (the seventh form; the later family's looks); each row that meets fmt, with fmt's text TOLD by the authors' own Lean function (tested against real Go, not proved from fmt's source: count such statements apart). THE CARD IS WHAT COUNTS. Prove the row's statement (the work); the ties are given (YtalgbcgiiphoaaaGreatDoorTie.lean); close each card by the builder's one call (the guide's Derived/Test/ToyasCard.lean, 'card_holds'). Laid BY PROGRAM, IN A SANDBOX (cutbox-door.mjs). By AI agents, Wed Nov 11 2026. No macro, syntax, notation, axiom, sorry.
-/
import Derived.Test.YtalgbcgiiphoaaaGreatDoorRows
import GoSem.ClaimSeven
namespace Go.Proofs.YtalgbcgiiphoaaaGreatDoor
namespace Rows

/-- THE TIED CARD OF 'recensionlaw25.JournalAgain'. -/
def journalAgainCard : Claim7 := { stood := { row := journalAgainRow, standIns := [], harness := (true, "215959172ecea5126be745675e84270d1831eae70552bc1654059581da9607bd"), looks := false }, kinds := [], alts := [], laidByText := true, laidKinds := [.data, .pinned], laidTests := true, laidLooks := .later }
def JournalAgainCardSaid : Prop := Claim7.holds Tryz.pinned (.plain (OpenSpec.ofChange journalAgainSpec)) journalAgainCard

/-- THE TIED CARD OF 'recensionlaw21.CausalAny'. -/
def causalAnyCard : Claim7 := { stood := { row := causalAnyRow, standIns := [], harness := (true, "215959172ecea5126be745675e84270d1831eae70552bc1654059581da9607bd"), looks := false }, kinds := [], alts := [], laidByText := true, laidKinds := [.data, .pinned], laidTests := true, laidLooks := .later }
def CausalAnyCardSaid : Prop := Claim7.holds Tryz.pinned (.plain (OpenSpec.ofChange causalAnySpec)) causalAnyCard

/-- THE TIED CARD OF 'recensionlaw25.JournalRecords'. -/
def journalRecordsCard : Claim7 := { stood := { row := journalRecordsRow, standIns := [], harness := (true, "215959172ecea5126be745675e84270d1831eae70552bc1654059581da9607bd"), looks := false }, kinds := [], alts := [], laidByText := true, laidKinds := [.data, .pinned], laidTests := true, laidLooks := .later }
def JournalRecordsCardSaid : Prop := Claim7.holds Tryz.pinned (.plain (OpenSpec.ofChange journalRecordsSpec)) journalRecordsCard

/-- THE SECOND FORM's CARD OF 'recensionlaw25.JournalAgain'. -/
def journalAgainUptoCard : Claim7 := { stood := { row := journalAgainUptoRow, standIns := [], harness := (true, "215959172ecea5126be745675e84270d1831eae70552bc1654059581da9607bd"), looks := false }, kinds := [], alts := [], laidByText := true, laidKinds := [.data, .pinned], laidTests := true, laidLooks := .later }
def JournalAgainUptoCardSaid : Prop := Claim7.holds Tryz.pinned (.plain (OpenSpec.upto journalAgainSpec)) journalAgainUptoCard

/-- THE SECOND FORM's CARD OF 'recensionlaw21.CausalAny'. -/
def causalAnyUptoCard : Claim7 := { stood := { row := causalAnyUptoRow, standIns := [], harness := (true, "215959172ecea5126be745675e84270d1831eae70552bc1654059581da9607bd"), looks := false }, kinds := [], alts := [], laidByText := true, laidKinds := [.data, .pinned], laidTests := true, laidLooks := .later }
def CausalAnyUptoCardSaid : Prop := Claim7.holds Tryz.pinned (.plain (OpenSpec.upto causalAnySpec)) causalAnyUptoCard

/-- THE SECOND FORM's CARD OF 'recensionlaw25.JournalRecords'. -/
def journalRecordsUptoCard : Claim7 := { stood := { row := journalRecordsUptoRow, standIns := [], harness := (true, "215959172ecea5126be745675e84270d1831eae70552bc1654059581da9607bd"), looks := false }, kinds := [], alts := [], laidByText := true, laidKinds := [.data, .pinned], laidTests := true, laidLooks := .later }
def JournalRecordsUptoCardSaid : Prop := Claim7.holds Tryz.pinned (.plain (OpenSpec.upto journalRecordsSpec)) journalRecordsUptoCard
end Rows
end Go.Proofs.YtalgbcgiiphoaaaGreatDoor
