/-
  DERIVED. GIVEN WITH THE SEED: THE CARDS: each row of YtkhmicndehlneaaGreatDoorRows.lean that lists a variable, with what it lists TIED to the program's text (the seventh form; the later family's looks); each row that meets fmt, with fmt's text TOLD by the authors' own Lean function (tested against real Go, not proved from fmt's source: count such statements apart). THE CARD IS WHAT COUNTS. Prove the row's statement (the work); the ties are given (YtkhmicndehlneaaGreatDoorTie.lean); close each card by the builder's one call (the guide's Derived/Test/ToyasCard.lean, 'card_holds'). Laid BY PROGRAM, IN A SANDBOX (cutbox-door.mjs). By AI agents, Wed Nov 11 2026. No macro, syntax, notation, axiom, sorry.
-/
import Derived.Test.YtkhmicndehlneaaGreatDoorRows
import GoSem.ClaimSeven
namespace Go.Proofs.YtkhmicndehlneaaGreatDoor
namespace Rows

/-- THE TIED CARD OF 'recensionlaw25.JournalBack'. -/
def journalBackCard : Claim7 := { stood := { row := journalBackRow, standIns := [], harness := (true, "7e28be6815fcd29ab05936558ebdd3a7b97dd397adefc3d562c89f13c20b9b39"), looks := false }, kinds := [], alts := [], laidByText := true, laidKinds := [.data, .pinned], laidTests := true, laidLooks := .later }
def JournalBackCardSaid : Prop := Claim7.holds Tryz.pinned (.plain (OpenSpec.ofChange journalBackSpec)) journalBackCard

/-- THE TIED CARD OF 'recensionlaw21.CausalAll'. -/
def causalAllCard : Claim7 := { stood := { row := causalAllRow, standIns := [], harness := (true, "7e28be6815fcd29ab05936558ebdd3a7b97dd397adefc3d562c89f13c20b9b39"), looks := false }, kinds := [], alts := [], laidByText := true, laidKinds := [.data, .pinned], laidTests := true, laidLooks := .later }
def CausalAllCardSaid : Prop := Claim7.holds Tryz.pinned (.plain (OpenSpec.ofChange causalAllSpec)) causalAllCard

/-- THE TIED CARD OF 'recensionlaw21.CausalSmall'. -/
def causalSmallCard : Claim7 := { stood := { row := causalSmallRow, standIns := [], harness := (true, "7e28be6815fcd29ab05936558ebdd3a7b97dd397adefc3d562c89f13c20b9b39"), looks := false }, kinds := [], alts := [], laidByText := true, laidKinds := [.data, .pinned], laidTests := true, laidLooks := .later }
def CausalSmallCardSaid : Prop := Claim7.holds Tryz.pinned (.plain (OpenSpec.ofChange causalSmallSpec)) causalSmallCard

/-- THE TIED CARD OF 'recensionlaw21.CausalTells'. -/
def causalTellsCard : Claim7 := { stood := { row := causalTellsRow, standIns := [], harness := (true, "7e28be6815fcd29ab05936558ebdd3a7b97dd397adefc3d562c89f13c20b9b39"), looks := false }, kinds := [], alts := [], laidByText := true, laidKinds := [.data, .pinned], laidTests := true, laidLooks := .later }
def CausalTellsCardSaid : Prop := Claim7.holds Tryz.pinned (.plain (OpenSpec.ofChange causalTellsSpec)) causalTellsCard

/-- THE TIED CARD OF 'recensionlaw23.GossipAnswers'. -/
def gossipAnswersCard : Claim7 := { stood := { row := gossipAnswersRow, standIns := [], harness := (true, "7e28be6815fcd29ab05936558ebdd3a7b97dd397adefc3d562c89f13c20b9b39"), looks := false }, kinds := [], alts := [], laidByText := true, laidKinds := [.data, .pinned], laidTests := true, laidLooks := .later }
def GossipAnswersCardSaid : Prop := Claim7.holds Tryz.pinned (.plain (OpenSpec.ofChange gossipAnswersSpec)) gossipAnswersCard

/-- THE TIED CARD OF 'recensionlaw23.GossipHeals'. -/
def gossipHealsCard : Claim7 := { stood := { row := gossipHealsRow, standIns := [], harness := (true, "7e28be6815fcd29ab05936558ebdd3a7b97dd397adefc3d562c89f13c20b9b39"), looks := false }, kinds := [], alts := [], laidByText := true, laidKinds := [.data, .pinned], laidTests := true, laidLooks := .later }
def GossipHealsCardSaid : Prop := Claim7.holds Tryz.pinned (.plain (OpenSpec.ofChange gossipHealsSpec)) gossipHealsCard

/-- THE TIED CARD OF 'recensionlaw25.JournalRecovers'. -/
def journalRecoversCard : Claim7 := { stood := { row := journalRecoversRow, standIns := [], harness := (true, "7e28be6815fcd29ab05936558ebdd3a7b97dd397adefc3d562c89f13c20b9b39"), looks := false }, kinds := [], alts := [], laidByText := true, laidKinds := [.data, .pinned], laidTests := true, laidLooks := .later }
def JournalRecoversCardSaid : Prop := Claim7.holds Tryz.pinned (.plain (OpenSpec.ofChange journalRecoversSpec)) journalRecoversCard

/-- THE SECOND FORM's CARD OF 'recensionlaw25.JournalBack'. -/
def journalBackUptoCard : Claim7 := { stood := { row := journalBackUptoRow, standIns := [], harness := (true, "7e28be6815fcd29ab05936558ebdd3a7b97dd397adefc3d562c89f13c20b9b39"), looks := false }, kinds := [], alts := [], laidByText := true, laidKinds := [.data, .pinned], laidTests := true, laidLooks := .later }
def JournalBackUptoCardSaid : Prop := Claim7.holds Tryz.pinned (.plain (OpenSpec.upto journalBackSpec)) journalBackUptoCard

/-- THE SECOND FORM's CARD OF 'recensionlaw21.CausalAll'. -/
def causalAllUptoCard : Claim7 := { stood := { row := causalAllUptoRow, standIns := [], harness := (true, "7e28be6815fcd29ab05936558ebdd3a7b97dd397adefc3d562c89f13c20b9b39"), looks := false }, kinds := [], alts := [], laidByText := true, laidKinds := [.data, .pinned], laidTests := true, laidLooks := .later }
def CausalAllUptoCardSaid : Prop := Claim7.holds Tryz.pinned (.plain (OpenSpec.upto causalAllSpec)) causalAllUptoCard

/-- THE SECOND FORM's CARD OF 'recensionlaw21.CausalSmall'. -/
def causalSmallUptoCard : Claim7 := { stood := { row := causalSmallUptoRow, standIns := [], harness := (true, "7e28be6815fcd29ab05936558ebdd3a7b97dd397adefc3d562c89f13c20b9b39"), looks := false }, kinds := [], alts := [], laidByText := true, laidKinds := [.data, .pinned], laidTests := true, laidLooks := .later }
def CausalSmallUptoCardSaid : Prop := Claim7.holds Tryz.pinned (.plain (OpenSpec.upto causalSmallSpec)) causalSmallUptoCard

/-- THE SECOND FORM's CARD OF 'recensionlaw21.CausalTells'. -/
def causalTellsUptoCard : Claim7 := { stood := { row := causalTellsUptoRow, standIns := [], harness := (true, "7e28be6815fcd29ab05936558ebdd3a7b97dd397adefc3d562c89f13c20b9b39"), looks := false }, kinds := [], alts := [], laidByText := true, laidKinds := [.data, .pinned], laidTests := true, laidLooks := .later }
def CausalTellsUptoCardSaid : Prop := Claim7.holds Tryz.pinned (.plain (OpenSpec.upto causalTellsSpec)) causalTellsUptoCard

/-- THE SECOND FORM's CARD OF 'recensionlaw23.GossipAnswers'. -/
def gossipAnswersUptoCard : Claim7 := { stood := { row := gossipAnswersUptoRow, standIns := [], harness := (true, "7e28be6815fcd29ab05936558ebdd3a7b97dd397adefc3d562c89f13c20b9b39"), looks := false }, kinds := [], alts := [], laidByText := true, laidKinds := [.data, .pinned], laidTests := true, laidLooks := .later }
def GossipAnswersUptoCardSaid : Prop := Claim7.holds Tryz.pinned (.plain (OpenSpec.upto gossipAnswersSpec)) gossipAnswersUptoCard

/-- THE SECOND FORM's CARD OF 'recensionlaw23.GossipHeals'. -/
def gossipHealsUptoCard : Claim7 := { stood := { row := gossipHealsUptoRow, standIns := [], harness := (true, "7e28be6815fcd29ab05936558ebdd3a7b97dd397adefc3d562c89f13c20b9b39"), looks := false }, kinds := [], alts := [], laidByText := true, laidKinds := [.data, .pinned], laidTests := true, laidLooks := .later }
def GossipHealsUptoCardSaid : Prop := Claim7.holds Tryz.pinned (.plain (OpenSpec.upto gossipHealsSpec)) gossipHealsUptoCard

/-- THE SECOND FORM's CARD OF 'recensionlaw25.JournalRecovers'. -/
def journalRecoversUptoCard : Claim7 := { stood := { row := journalRecoversUptoRow, standIns := [], harness := (true, "7e28be6815fcd29ab05936558ebdd3a7b97dd397adefc3d562c89f13c20b9b39"), looks := false }, kinds := [], alts := [], laidByText := true, laidKinds := [.data, .pinned], laidTests := true, laidLooks := .later }
def JournalRecoversUptoCardSaid : Prop := Claim7.holds Tryz.pinned (.plain (OpenSpec.upto journalRecoversSpec)) journalRecoversUptoCard
end Rows
end Go.Proofs.YtkhmicndehlneaaGreatDoor
