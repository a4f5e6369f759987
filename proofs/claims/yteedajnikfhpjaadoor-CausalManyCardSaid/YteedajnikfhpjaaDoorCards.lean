/-
  DERIVED. GIVEN WITH THE SEED: THE CARDS: each row of YteedajnikfhpjaaDoorRows.lean that lists a variable, with what it lists TIED to the program's text (the seventh form; the later family's looks); each row that meets fmt, with fmt's text TOLD by the authors' own Lean function (tested against real Go, not proved from fmt's source: count such statements apart). THE CARD IS WHAT COUNTS. Prove the row's statement (the work); the ties are given (YteedajnikfhpjaaDoorTie.lean); close each card by the builder's one call (the guide's Derived/Test/ToyasCard.lean, 'card_holds'). Laid BY PROGRAM, IN A SANDBOX (cutbox-door.mjs). By AI agents, Wed Nov 11 2026. No macro, syntax, notation, axiom, sorry.
-/
import Derived.Test.YteedajnikfhpjaaDoorRows
import GoSem.ClaimSeven
namespace Go.Proofs.YteedajnikfhpjaaDoor
namespace Rows

/-- THE TIED CARD OF 'recensionlaw21.CausalMany'. -/
def causalManyCard : Claim7 := { stood := { row := causalManyRow, standIns := [], harness := (true, "d7196e9f5fe2926d70d7c24744ed55ff4b7d8626a20d5fffd0fccc4d7a33e3e7"), looks := false }, kinds := [], alts := [], laidByText := true, laidKinds := [.data, .pinned], laidTests := true, laidLooks := .later }
def CausalManyCardSaid : Prop := Claim7.holds Tryd.pinned (.plain (OpenSpec.ofChange causalManySpec)) causalManyCard

/-- THE TIED CARD OF 'recensionlaw21.CausalAhead'. -/
def causalAheadCard : Claim7 := { stood := { row := causalAheadRow, standIns := [], harness := (true, "d7196e9f5fe2926d70d7c24744ed55ff4b7d8626a20d5fffd0fccc4d7a33e3e7"), looks := false }, kinds := [], alts := [], laidByText := true, laidKinds := [.data, .pinned], laidTests := true, laidLooks := .later }
def CausalAheadCardSaid : Prop := Claim7.holds Tryd.pinned (.plain (OpenSpec.ofChange causalAheadSpec)) causalAheadCard

/-- THE SECOND FORM's CARD OF 'recensionlaw21.CausalMany'. -/
def causalManyUptoCard : Claim7 := { stood := { row := causalManyUptoRow, standIns := [], harness := (true, "d7196e9f5fe2926d70d7c24744ed55ff4b7d8626a20d5fffd0fccc4d7a33e3e7"), looks := false }, kinds := [], alts := [], laidByText := true, laidKinds := [.data, .pinned], laidTests := true, laidLooks := .later }
def CausalManyUptoCardSaid : Prop := Claim7.holds Tryd.pinned (.plain (OpenSpec.upto causalManySpec)) causalManyUptoCard

/-- THE SECOND FORM's CARD OF 'recensionlaw21.CausalAhead'. -/
def causalAheadUptoCard : Claim7 := { stood := { row := causalAheadUptoRow, standIns := [], harness := (true, "d7196e9f5fe2926d70d7c24744ed55ff4b7d8626a20d5fffd0fccc4d7a33e3e7"), looks := false }, kinds := [], alts := [], laidByText := true, laidKinds := [.data, .pinned], laidTests := true, laidLooks := .later }
def CausalAheadUptoCardSaid : Prop := Claim7.holds Tryd.pinned (.plain (OpenSpec.upto causalAheadSpec)) causalAheadUptoCard
end Rows
end Go.Proofs.YteedajnikfhpjaaDoor
