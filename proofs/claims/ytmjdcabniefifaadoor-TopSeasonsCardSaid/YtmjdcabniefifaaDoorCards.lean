/-
  DERIVED. GIVEN WITH THE SEED: THE CARDS: each row of YtmjdcabniefifaaDoorRows.lean that lists a variable, with what it lists TIED to the program's text (the seventh form; the later family's looks); each row that meets fmt, with fmt's text TOLD by the authors' own Lean function (tested against real Go, not proved from fmt's source: count such statements apart). THE CARD IS WHAT COUNTS. Prove the row's statement (the work); the ties are given (YtmjdcabniefifaaDoorTie.lean); close each card by the builder's one call (the guide's Derived/Test/ToyasCard.lean, 'card_holds'). Laid BY PROGRAM, IN A SANDBOX (cutbox-door.mjs). By AI agents, Wed Nov 11 2026. No macro, syntax, notation, axiom, sorry.
-/
import Derived.Test.YtmjdcabniefifaaDoorRows
import GoSem.ClaimSeven
namespace Go.Proofs.YtmjdcabniefifaaDoor
namespace Rows

/-- THE TIED CARD OF 'ephemerislaw2.PlaceSidereals'. -/
def placeSiderealsCard : Claim7 := { stood := { row := placeSiderealsRow, standIns := [], harness := (true, "d96ff38a852c1f803d9efbf34111018cf655ae4655ff8512e3b38d29d6324246"), looks := false }, kinds := [], alts := [], laidByText := true, laidKinds := [.data, .data, .data], laidTests := true, laidLooks := .later }
def PlaceSiderealsCardSaid : Prop := Claim7.holds Tryd.pinned (.plain (OpenSpec.ofChange placeSiderealsSpec)) placeSiderealsCard

/-- THE TIED CARD OF 'ephemerislaw2.PlaceErrors'. -/
def placeErrorsCard : Claim7 := { stood := { row := placeErrorsRow, standIns := [], harness := (true, "d96ff38a852c1f803d9efbf34111018cf655ae4655ff8512e3b38d29d6324246"), looks := false }, kinds := [], alts := [], laidByText := true, laidKinds := [.data, .data, .data], laidTests := true, laidLooks := .later }
def PlaceErrorsCardSaid : Prop := Claim7.holds Tryd.pinned (.plain (OpenSpec.ofChange placeErrorsSpec)) placeErrorsCard

/-- THE TIED CARD OF 'ephemeristop.TopSeasons'. -/
def topSeasonsCard : Claim7 := { stood := { row := topSeasonsRow, standIns := [], harness := (true, "d96ff38a852c1f803d9efbf34111018cf655ae4655ff8512e3b38d29d6324246"), looks := false }, kinds := [], alts := [], laidByText := true, laidKinds := [.data, .data, .data], laidTests := true, laidLooks := .later }
def TopSeasonsCardSaid : Prop := Claim7.holds Tryd.pinned (.plain (OpenSpec.ofChange topSeasonsSpec)) topSeasonsCard

/-- THE SECOND FORM's CARD OF 'ephemerislaw2.PlaceSidereals'. -/
def placeSiderealsUptoCard : Claim7 := { stood := { row := placeSiderealsUptoRow, standIns := [], harness := (true, "d96ff38a852c1f803d9efbf34111018cf655ae4655ff8512e3b38d29d6324246"), looks := false }, kinds := [], alts := [], laidByText := true, laidKinds := [.data, .data, .data], laidTests := true, laidLooks := .later }
def PlaceSiderealsUptoCardSaid : Prop := Claim7.holds Tryd.pinned (.plain (OpenSpec.upto placeSiderealsSpec)) placeSiderealsUptoCard

/-- THE SECOND FORM's CARD OF 'ephemerislaw2.PlaceErrors'. -/
def placeErrorsUptoCard : Claim7 := { stood := { row := placeErrorsUptoRow, standIns := [], harness := (true, "d96ff38a852c1f803d9efbf34111018cf655ae4655ff8512e3b38d29d6324246"), looks := false }, kinds := [], alts := [], laidByText := true, laidKinds := [.data, .data, .data], laidTests := true, laidLooks := .later }
def PlaceErrorsUptoCardSaid : Prop := Claim7.holds Tryd.pinned (.plain (OpenSpec.upto placeErrorsSpec)) placeErrorsUptoCard

/-- THE SECOND FORM's CARD OF 'ephemeristop.TopSeasons'. -/
def topSeasonsUptoCard : Claim7 := { stood := { row := topSeasonsUptoRow, standIns := [], harness := (true, "d96ff38a852c1f803d9efbf34111018cf655ae4655ff8512e3b38d29d6324246"), looks := false }, kinds := [], alts := [], laidByText := true, laidKinds := [.data, .data, .data], laidTests := true, laidLooks := .later }
def TopSeasonsUptoCardSaid : Prop := Claim7.holds Tryd.pinned (.plain (OpenSpec.upto topSeasonsSpec)) topSeasonsUptoCard
end Rows
end Go.Proofs.YtmjdcabniefifaaDoor
