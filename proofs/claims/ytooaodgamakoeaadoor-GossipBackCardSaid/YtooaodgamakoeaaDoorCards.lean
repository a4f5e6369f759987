/-
  DERIVED. GIVEN WITH THE SEED: THE CARDS: each row of YtooaodgamakoeaaDoorRows.lean that lists a variable, with what it lists TIED to the program's text (the seventh form; the later family's looks); each row that meets fmt, with fmt's text TOLD by the authors' own Lean function (tested against real Go, not proved from fmt's source: count such statements apart). THE CARD IS WHAT COUNTS. Prove the row's statement (the work); the ties are given (YtooaodgamakoeaaDoorTie.lean); close each card by the builder's one call (the guide's Derived/Test/ToyasCard.lean, 'card_holds'). Laid BY PROGRAM, IN A SANDBOX (cutbox-door.mjs). By AI agents, Wed Nov 11 2026. No macro, syntax, notation, axiom, sorry.
-/
import Derived.Test.YtooaodgamakoeaaDoorRows
import GoSem.ClaimSeven
namespace Go.Proofs.YtooaodgamakoeaaDoor
namespace Rows

/-- THE TIED CARD OF 'recensionlaw21.CausalMany'. -/
def causalManyCard : Claim7 := { stood := { row := causalManyRow, standIns := [], harness := (true, "2befdc9655e27d58909a49b119822a21a2fe8c33bae247ee1ed8ac12290424fc"), looks := false }, kinds := [], alts := [], laidByText := true, laidKinds := [.data, .pinned], laidTests := true, laidLooks := .later }
def CausalManyCardSaid : Prop := Claim7.holds Tryd.pinned (.plain (OpenSpec.ofChange causalManySpec)) causalManyCard

/-- THE TIED CARD OF 'recensionlaw21.CausalAhead'. -/
def causalAheadCard : Claim7 := { stood := { row := causalAheadRow, standIns := [], harness := (true, "2befdc9655e27d58909a49b119822a21a2fe8c33bae247ee1ed8ac12290424fc"), looks := false }, kinds := [], alts := [], laidByText := true, laidKinds := [.data, .pinned], laidTests := true, laidLooks := .later }
def CausalAheadCardSaid : Prop := Claim7.holds Tryd.pinned (.plain (OpenSpec.ofChange causalAheadSpec)) causalAheadCard

/-- THE TIED CARD OF 'recensionlaw08.WireBack'. -/
def wireBackCard : Claim7 := { stood := { row := wireBackRow, standIns := [], harness := (true, "2befdc9655e27d58909a49b119822a21a2fe8c33bae247ee1ed8ac12290424fc"), looks := false }, kinds := [], alts := [], laidByText := true, laidKinds := [.data, .pinned], laidTests := true, laidLooks := .later }
def WireBackCardSaid : Prop := Claim7.holds Tryd.pinned (.plain (OpenSpec.ofChange wireBackSpec)) wireBackCard

/-- THE TIED CARD OF 'recensionlaw08.WireApart'. -/
def wireApartCard : Claim7 := { stood := { row := wireApartRow, standIns := [], harness := (true, "2befdc9655e27d58909a49b119822a21a2fe8c33bae247ee1ed8ac12290424fc"), looks := false }, kinds := [], alts := [], laidByText := true, laidKinds := [.data, .pinned], laidTests := true, laidLooks := .later }
def WireApartCardSaid : Prop := Claim7.holds Tryd.pinned (.plain (OpenSpec.ofChange wireApartSpec)) wireApartCard

/-- THE TIED CARD OF 'recensionlaw08.WireStamps'. -/
def wireStampsCard : Claim7 := { stood := { row := wireStampsRow, standIns := [], harness := (true, "2befdc9655e27d58909a49b119822a21a2fe8c33bae247ee1ed8ac12290424fc"), looks := false }, kinds := [], alts := [], laidByText := true, laidKinds := [.data, .pinned], laidTests := true, laidLooks := .later }
def WireStampsCardSaid : Prop := Claim7.holds Tryd.pinned (.plain (OpenSpec.ofChange wireStampsSpec)) wireStampsCard

/-- THE TIED CARD OF 'recensionlaw23.GossipBack'. -/
def gossipBackCard : Claim7 := { stood := { row := gossipBackRow, standIns := [], harness := (true, "2befdc9655e27d58909a49b119822a21a2fe8c33bae247ee1ed8ac12290424fc"), looks := false }, kinds := [], alts := [], laidByText := true, laidKinds := [.data, .pinned], laidTests := true, laidLooks := .later }
def GossipBackCardSaid : Prop := Claim7.holds Tryd.pinned (.plain (OpenSpec.ofChange gossipBackSpec)) gossipBackCard

/-- THE SECOND FORM's CARD OF 'recensionlaw21.CausalMany'. -/
def causalManyUptoCard : Claim7 := { stood := { row := causalManyUptoRow, standIns := [], harness := (true, "2befdc9655e27d58909a49b119822a21a2fe8c33bae247ee1ed8ac12290424fc"), looks := false }, kinds := [], alts := [], laidByText := true, laidKinds := [.data, .pinned], laidTests := true, laidLooks := .later }
def CausalManyUptoCardSaid : Prop := Claim7.holds Tryd.pinned (.plain (OpenSpec.upto causalManySpec)) causalManyUptoCard

/-- THE SECOND FORM's CARD OF 'recensionlaw21.CausalAhead'. -/
def causalAheadUptoCard : Claim7 := { stood := { row := causalAheadUptoRow, standIns := [], harness := (true, "2befdc9655e27d58909a49b119822a21a2fe8c33bae247ee1ed8ac12290424fc"), looks := false }, kinds := [], alts := [], laidByText := true, laidKinds := [.data, .pinned], laidTests := true, laidLooks := .later }
def CausalAheadUptoCardSaid : Prop := Claim7.holds Tryd.pinned (.plain (OpenSpec.upto causalAheadSpec)) causalAheadUptoCard

/-- THE SECOND FORM's CARD OF 'recensionlaw08.WireBack'. -/
def wireBackUptoCard : Claim7 := { stood := { row := wireBackUptoRow, standIns := [], harness := (true, "2befdc9655e27d58909a49b119822a21a2fe8c33bae247ee1ed8ac12290424fc"), looks := false }, kinds := [], alts := [], laidByText := true, laidKinds := [.data, .pinned], laidTests := true, laidLooks := .later }
def WireBackUptoCardSaid : Prop := Claim7.holds Tryd.pinned (.plain (OpenSpec.upto wireBackSpec)) wireBackUptoCard

/-- THE SECOND FORM's CARD OF 'recensionlaw08.WireApart'. -/
def wireApartUptoCard : Claim7 := { stood := { row := wireApartUptoRow, standIns := [], harness := (true, "2befdc9655e27d58909a49b119822a21a2fe8c33bae247ee1ed8ac12290424fc"), looks := false }, kinds := [], alts := [], laidByText := true, laidKinds := [.data, .pinned], laidTests := true, laidLooks := .later }
def WireApartUptoCardSaid : Prop := Claim7.holds Tryd.pinned (.plain (OpenSpec.upto wireApartSpec)) wireApartUptoCard

/-- THE SECOND FORM's CARD OF 'recensionlaw08.WireStamps'. -/
def wireStampsUptoCard : Claim7 := { stood := { row := wireStampsUptoRow, standIns := [], harness := (true, "2befdc9655e27d58909a49b119822a21a2fe8c33bae247ee1ed8ac12290424fc"), looks := false }, kinds := [], alts := [], laidByText := true, laidKinds := [.data, .pinned], laidTests := true, laidLooks := .later }
def WireStampsUptoCardSaid : Prop := Claim7.holds Tryd.pinned (.plain (OpenSpec.upto wireStampsSpec)) wireStampsUptoCard

/-- THE SECOND FORM's CARD OF 'recensionlaw23.GossipBack'. -/
def gossipBackUptoCard : Claim7 := { stood := { row := gossipBackUptoRow, standIns := [], harness := (true, "2befdc9655e27d58909a49b119822a21a2fe8c33bae247ee1ed8ac12290424fc"), looks := false }, kinds := [], alts := [], laidByText := true, laidKinds := [.data, .pinned], laidTests := true, laidLooks := .later }
def GossipBackUptoCardSaid : Prop := Claim7.holds Tryd.pinned (.plain (OpenSpec.upto gossipBackSpec)) gossipBackUptoCard
end Rows
end Go.Proofs.YtooaodgamakoeaaDoor
