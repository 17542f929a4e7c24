/-
  DERIVED. GIVEN WITH THE SEED: THE CARDS: each row of YtjkhoepohiafeaaGreatDoorRows.lean that lists a variable, with what it lists TIED to the program's text (the seventh form; the later family's looks); each row that meets fmt, with fmt's text TOLD by the authors' own Lean function (tested against real Go, not proved from fmt's source: count such statements apart). THE CARD IS WHAT COUNTS. Prove the row's statement (the work); the ties are given (YtjkhoepohiafeaaGreatDoorTie.lean); close each card by the builder's one call (the guide's Derived/Test/ToyasCard.lean, 'card_holds'). Laid BY PROGRAM, IN A SANDBOX (cutbox-door.mjs). By AI agents, Wed Nov 11 2026. No macro, syntax, notation, axiom, sorry.
-/
import Derived.Test.YtjkhoepohiafeaaGreatDoorRows
import GoSem.ClaimSeven
namespace Go.Proofs.YtjkhoepohiafeaaGreatDoor
namespace Rows

/-- THE TIED CARD OF 'ephemeristop.TopSharpen'. -/
def topSharpenCard : Claim7 := { stood := { row := topSharpenRow, standIns := [], harness := (true, "51cf0aaa26e59f97478d01734ed02548baefe0103ea6c8a36219454209b9d378"), looks := false }, kinds := [], alts := [], laidByText := true, laidKinds := [.data, .data, .data, .data], laidTests := true, laidLooks := .later }
def TopSharpenCardSaid : Prop := Claim7.holds Tryz.pinned (.plain (OpenSpec.ofChange topSharpenSpec)) topSharpenCard

/-- THE SECOND FORM's CARD OF 'ephemeristop.TopSharpen'. -/
def topSharpenUptoCard : Claim7 := { stood := { row := topSharpenUptoRow, standIns := [], harness := (true, "51cf0aaa26e59f97478d01734ed02548baefe0103ea6c8a36219454209b9d378"), looks := false }, kinds := [], alts := [], laidByText := true, laidKinds := [.data, .data, .data, .data], laidTests := true, laidLooks := .later }
def TopSharpenUptoCardSaid : Prop := Claim7.holds Tryz.pinned (.plain (OpenSpec.upto topSharpenSpec)) topSharpenUptoCard
end Rows
end Go.Proofs.YtjkhoepohiafeaaGreatDoor
