/-
  DERIVED. GIVEN WITH THE SEED: THE CARDS: each row of YtapmdkinneehjaaDoorRows.lean that lists a variable, with what it lists TIED to the program's text (the seventh form; the later family's looks); each row that meets fmt, with fmt's text TOLD by the authors' own Lean function (tested against real Go, not proved from fmt's source: count such statements apart). THE CARD IS WHAT COUNTS. Prove the row's statement (the work); the ties are given (YtapmdkinneehjaaDoorTie.lean); close each card by the builder's one call (the guide's Derived/Test/ToyasCard.lean, 'card_holds'). Laid BY PROGRAM, IN A SANDBOX (cutbox-door.mjs). By AI agents, Wed Nov 11 2026. No macro, syntax, notation, axiom, sorry.
-/
import Derived.Test.YtapmdkinneehjaaDoorRows
import GoSem.ClaimSeven
namespace Go.Proofs.YtapmdkinneehjaaDoor
namespace Rows

/-- THE TIED CARD OF 'ephemeristop.TopZones'. -/
def topZonesCard : Claim7 := { stood := { row := topZonesRow, standIns := [], harness := (true, "21199d462c94c9da043839f270924f222d8944cc1a68a049760fdf30e4ed1c1b"), looks := true }, kinds := [], alts := [], laidByText := true, laidKinds := [.data, .data, .data, .data, .sentinel, .sentinel, .pinned], laidTests := true, laidLooks := .later }
def TopZonesCardSaid : Prop := Claim7.holds Tryd.pinned (.plain (OpenSpec.ofChange topZonesSpec)) topZonesCard

/-- THE SECOND FORM's CARD OF 'ephemeristop.TopZones'. -/
def topZonesUptoCard : Claim7 := { stood := { row := topZonesUptoRow, standIns := [], harness := (true, "21199d462c94c9da043839f270924f222d8944cc1a68a049760fdf30e4ed1c1b"), looks := true }, kinds := [], alts := [], laidByText := true, laidKinds := [.data, .data, .data, .data, .sentinel, .sentinel, .pinned], laidTests := true, laidLooks := .later }
def TopZonesUptoCardSaid : Prop := Claim7.holds Tryd.pinned (.plain (OpenSpec.upto topZonesSpec)) topZonesUptoCard
end Rows
end Go.Proofs.YtapmdkinneehjaaDoor
