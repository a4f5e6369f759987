/-
  DERIVED. GIVEN WITH THE SEED: THE CARDS: each row of YtbjnhkoofndgeaaGreatDoorRows.lean that lists a variable, with what it lists TIED to the program's text (the seventh form; the later family's looks); each row that meets fmt, with fmt's text TOLD by the authors' own Lean function (tested against real Go, not proved from fmt's source: count such statements apart). THE CARD IS WHAT COUNTS. Prove the row's statement (the work); the ties are given (YtbjnhkoofndgeaaGreatDoorTie.lean); close each card by the builder's one call (the guide's Derived/Test/ToyasCard.lean, 'card_holds'). Laid BY PROGRAM, IN A SANDBOX (cutbox-door.mjs). By AI agents, Wed Nov 11 2026. No macro, syntax, notation, axiom, sorry.
-/
import Derived.Test.YtbjnhkoofndgeaaGreatDoorRows
import GoSem.ClaimSeven
namespace Go.Proofs.YtbjnhkoofndgeaaGreatDoor
namespace Rows

/-- THE TIED CARD OF 'recensionlaw25.JournalAgain'. -/
def journalAgainCard : Claim7 := { stood := { row := journalAgainRow, standIns := [], harness := (true, "ee684e8cf263cef0be5f9b2c7c55e99847c32b19a3e983b43d3bca939bc736bf"), looks := false }, kinds := [], alts := [], laidByText := true, laidKinds := [.data, .pinned], laidTests := true, laidLooks := .later }
def JournalAgainCardSaid : Prop := Claim7.holds Tryz.pinned (.plain (OpenSpec.ofChange journalAgainSpec)) journalAgainCard

/-- THE TIED CARD OF 'recensionlaw21.CausalAny'. -/
def causalAnyCard : Claim7 := { stood := { row := causalAnyRow, standIns := [], harness := (true, "ee684e8cf263cef0be5f9b2c7c55e99847c32b19a3e983b43d3bca939bc736bf"), looks := false }, kinds := [], alts := [], laidByText := true, laidKinds := [.data, .pinned], laidTests := true, laidLooks := .later }
def CausalAnyCardSaid : Prop := Claim7.holds Tryz.pinned (.plain (OpenSpec.ofChange causalAnySpec)) causalAnyCard

/-- THE TIED CARD OF 'recensionlaw08.WireEncodes'. -/
def wireEncodesCard : Claim7 := { stood := { row := wireEncodesRow, standIns := [], harness := (true, "ee684e8cf263cef0be5f9b2c7c55e99847c32b19a3e983b43d3bca939bc736bf"), looks := false }, kinds := [], alts := [], laidByText := true, laidKinds := [.data, .pinned], laidTests := true, laidLooks := .later }
def WireEncodesCardSaid : Prop := Claim7.holds Tryz.pinned (.plain (OpenSpec.ofChange wireEncodesSpec)) wireEncodesCard

/-- THE TIED CARD OF 'recensionlaw08.WireDecodes'. -/
def wireDecodesCard : Claim7 := { stood := { row := wireDecodesRow, standIns := [], harness := (true, "ee684e8cf263cef0be5f9b2c7c55e99847c32b19a3e983b43d3bca939bc736bf"), looks := false }, kinds := [], alts := [], laidByText := true, laidKinds := [.data, .pinned], laidTests := true, laidLooks := .later }
def WireDecodesCardSaid : Prop := Claim7.holds Tryz.pinned (.plain (OpenSpec.ofChange wireDecodesSpec)) wireDecodesCard

/-- THE TIED CARD OF 'recensionlaw23.GossipAsks'. -/
def gossipAsksCard : Claim7 := { stood := { row := gossipAsksRow, standIns := [], harness := (true, "ee684e8cf263cef0be5f9b2c7c55e99847c32b19a3e983b43d3bca939bc736bf"), looks := false }, kinds := [], alts := [], laidByText := true, laidKinds := [.data, .pinned], laidTests := true, laidLooks := .later }
def GossipAsksCardSaid : Prop := Claim7.holds Tryz.pinned (.plain (OpenSpec.ofChange gossipAsksSpec)) gossipAsksCard

/-- THE TIED CARD OF 'recensionlaw23.GossipReads'. -/
def gossipReadsCard : Claim7 := { stood := { row := gossipReadsRow, standIns := [], harness := (true, "ee684e8cf263cef0be5f9b2c7c55e99847c32b19a3e983b43d3bca939bc736bf"), looks := false }, kinds := [], alts := [], laidByText := true, laidKinds := [.data, .pinned], laidTests := true, laidLooks := .later }
def GossipReadsCardSaid : Prop := Claim7.holds Tryz.pinned (.plain (OpenSpec.ofChange gossipReadsSpec)) gossipReadsCard

/-- THE TIED CARD OF 'recensionlaw25.JournalRecords'. -/
def journalRecordsCard : Claim7 := { stood := { row := journalRecordsRow, standIns := [], harness := (true, "ee684e8cf263cef0be5f9b2c7c55e99847c32b19a3e983b43d3bca939bc736bf"), looks := false }, kinds := [], alts := [], laidByText := true, laidKinds := [.data, .pinned], laidTests := true, laidLooks := .later }
def JournalRecordsCardSaid : Prop := Claim7.holds Tryz.pinned (.plain (OpenSpec.ofChange journalRecordsSpec)) journalRecordsCard

/-- THE SECOND FORM's CARD OF 'recensionlaw25.JournalAgain'. -/
def journalAgainUptoCard : Claim7 := { stood := { row := journalAgainUptoRow, standIns := [], harness := (true, "ee684e8cf263cef0be5f9b2c7c55e99847c32b19a3e983b43d3bca939bc736bf"), looks := false }, kinds := [], alts := [], laidByText := true, laidKinds := [.data, .pinned], laidTests := true, laidLooks := .later }
def JournalAgainUptoCardSaid : Prop := Claim7.holds Tryz.pinned (.plain (OpenSpec.upto journalAgainSpec)) journalAgainUptoCard

/-- THE SECOND FORM's CARD OF 'recensionlaw21.CausalAny'. -/
def causalAnyUptoCard : Claim7 := { stood := { row := causalAnyUptoRow, standIns := [], harness := (true, "ee684e8cf263cef0be5f9b2c7c55e99847c32b19a3e983b43d3bca939bc736bf"), looks := false }, kinds := [], alts := [], laidByText := true, laidKinds := [.data, .pinned], laidTests := true, laidLooks := .later }
def CausalAnyUptoCardSaid : Prop := Claim7.holds Tryz.pinned (.plain (OpenSpec.upto causalAnySpec)) causalAnyUptoCard

/-- THE SECOND FORM's CARD OF 'recensionlaw08.WireEncodes'. -/
def wireEncodesUptoCard : Claim7 := { stood := { row := wireEncodesUptoRow, standIns := [], harness := (true, "ee684e8cf263cef0be5f9b2c7c55e99847c32b19a3e983b43d3bca939bc736bf"), looks := false }, kinds := [], alts := [], laidByText := true, laidKinds := [.data, .pinned], laidTests := true, laidLooks := .later }
def WireEncodesUptoCardSaid : Prop := Claim7.holds Tryz.pinned (.plain (OpenSpec.upto wireEncodesSpec)) wireEncodesUptoCard

/-- THE SECOND FORM's CARD OF 'recensionlaw08.WireDecodes'. -/
def wireDecodesUptoCard : Claim7 := { stood := { row := wireDecodesUptoRow, standIns := [], harness := (true, "ee684e8cf263cef0be5f9b2c7c55e99847c32b19a3e983b43d3bca939bc736bf"), looks := false }, kinds := [], alts := [], laidByText := true, laidKinds := [.data, .pinned], laidTests := true, laidLooks := .later }
def WireDecodesUptoCardSaid : Prop := Claim7.holds Tryz.pinned (.plain (OpenSpec.upto wireDecodesSpec)) wireDecodesUptoCard

/-- THE SECOND FORM's CARD OF 'recensionlaw23.GossipAsks'. -/
def gossipAsksUptoCard : Claim7 := { stood := { row := gossipAsksUptoRow, standIns := [], harness := (true, "ee684e8cf263cef0be5f9b2c7c55e99847c32b19a3e983b43d3bca939bc736bf"), looks := false }, kinds := [], alts := [], laidByText := true, laidKinds := [.data, .pinned], laidTests := true, laidLooks := .later }
def GossipAsksUptoCardSaid : Prop := Claim7.holds Tryz.pinned (.plain (OpenSpec.upto gossipAsksSpec)) gossipAsksUptoCard

/-- THE SECOND FORM's CARD OF 'recensionlaw23.GossipReads'. -/
def gossipReadsUptoCard : Claim7 := { stood := { row := gossipReadsUptoRow, standIns := [], harness := (true, "ee684e8cf263cef0be5f9b2c7c55e99847c32b19a3e983b43d3bca939bc736bf"), looks := false }, kinds := [], alts := [], laidByText := true, laidKinds := [.data, .pinned], laidTests := true, laidLooks := .later }
def GossipReadsUptoCardSaid : Prop := Claim7.holds Tryz.pinned (.plain (OpenSpec.upto gossipReadsSpec)) gossipReadsUptoCard

/-- THE SECOND FORM's CARD OF 'recensionlaw25.JournalRecords'. -/
def journalRecordsUptoCard : Claim7 := { stood := { row := journalRecordsUptoRow, standIns := [], harness := (true, "ee684e8cf263cef0be5f9b2c7c55e99847c32b19a3e983b43d3bca939bc736bf"), looks := false }, kinds := [], alts := [], laidByText := true, laidKinds := [.data, .pinned], laidTests := true, laidLooks := .later }
def JournalRecordsUptoCardSaid : Prop := Claim7.holds Tryz.pinned (.plain (OpenSpec.upto journalRecordsSpec)) journalRecordsUptoCard
end Rows
end Go.Proofs.YtbjnhkoofndgeaaGreatDoor
