/-
  DERIVED. GIVEN WITH THE SEED: THE CARDS: each row of YtcgnhnmigmdalaaGreatDoorRows.lean that lists a variable, with what it lists TIED to the program's text (the seventh form; the later family's looks); each row that meets fmt, with fmt's text TOLD by the authors' own Lean function (tested against real Go, not proved from fmt's source: count such statements apart). THE CARD IS WHAT COUNTS. Prove the row's statement (the work); the ties are given (YtcgnhnmigmdalaaGreatDoorTie.lean); close each card by the builder's one call (the guide's Derived/Test/ToyasCard.lean, 'card_holds'). Laid BY PROGRAM, IN A SANDBOX (cutbox-door.mjs). By AI agents, Wed Nov 11 2026. No macro, syntax, notation, axiom, sorry.
-/
import Derived.Test.YtcgnhnmigmdalaaGreatDoorRows
import GoSem.ClaimSeven
namespace Go.Proofs.YtcgnhnmigmdalaaGreatDoor
namespace Rows

/-- THE TIED CARD OF 'ephemerislaw2.PlaceHeights'. -/
def placeHeightsCard : Claim7 := { stood := { row := placeHeightsRow, standIns := [], harness := (true, "f07122353aff2192cfa5439e791c720c5f4f3ee933a7887f4840fe488642eaa4"), looks := false }, kinds := [], alts := [], laidByText := true, laidKinds := [.data, .data, .data], laidTests := true, laidLooks := .later }
def PlaceHeightsCardSaid : Prop := Claim7.holds Tryz.pinned (.plain (OpenSpec.ofChange placeHeightsSpec)) placeHeightsCard

/-- THE TIED CARD OF 'ephemerislaw2.PathCenters'. -/
def pathCentersCard : Claim7 := { stood := { row := pathCentersRow, standIns := [], harness := (true, "f07122353aff2192cfa5439e791c720c5f4f3ee933a7887f4840fe488642eaa4"), looks := false }, kinds := [], alts := [], laidByText := true, laidKinds := [.data, .data, .data], laidTests := true, laidLooks := .later }
def PathCentersCardSaid : Prop := Claim7.holds Tryz.pinned (.plain (OpenSpec.ofChange pathCentersSpec)) pathCentersCard

/-- THE TIED CARD OF 'ephemerislaw2.PathTracks'. -/
def pathTracksCard : Claim7 := { stood := { row := pathTracksRow, standIns := [], harness := (true, "f07122353aff2192cfa5439e791c720c5f4f3ee933a7887f4840fe488642eaa4"), looks := false }, kinds := [], alts := [], laidByText := true, laidKinds := [.data, .data, .data], laidTests := true, laidLooks := .later }
def PathTracksCardSaid : Prop := Claim7.holds Tryz.pinned (.plain (OpenSpec.ofChange pathTracksSpec)) pathTracksCard

/-- THE TIED CARD OF 'ephemeristop.TopRise'. -/
def topRiseCard : Claim7 := { stood := { row := topRiseRow, standIns := [], harness := (true, "f07122353aff2192cfa5439e791c720c5f4f3ee933a7887f4840fe488642eaa4"), looks := false }, kinds := [], alts := [], laidByText := true, laidKinds := [.data, .data, .data, .data], laidTests := true, laidLooks := .later }
def TopRiseCardSaid : Prop := Claim7.holds Tryz.pinned (.plain (OpenSpec.ofChange topRiseSpec)) topRiseCard

/-- THE SECOND FORM's CARD OF 'ephemerislaw2.PlaceHeights'. -/
def placeHeightsUptoCard : Claim7 := { stood := { row := placeHeightsUptoRow, standIns := [], harness := (true, "f07122353aff2192cfa5439e791c720c5f4f3ee933a7887f4840fe488642eaa4"), looks := false }, kinds := [], alts := [], laidByText := true, laidKinds := [.data, .data, .data], laidTests := true, laidLooks := .later }
def PlaceHeightsUptoCardSaid : Prop := Claim7.holds Tryz.pinned (.plain (OpenSpec.upto placeHeightsSpec)) placeHeightsUptoCard

/-- THE SECOND FORM's CARD OF 'ephemerislaw2.PathCenters'. -/
def pathCentersUptoCard : Claim7 := { stood := { row := pathCentersUptoRow, standIns := [], harness := (true, "f07122353aff2192cfa5439e791c720c5f4f3ee933a7887f4840fe488642eaa4"), looks := false }, kinds := [], alts := [], laidByText := true, laidKinds := [.data, .data, .data], laidTests := true, laidLooks := .later }
def PathCentersUptoCardSaid : Prop := Claim7.holds Tryz.pinned (.plain (OpenSpec.upto pathCentersSpec)) pathCentersUptoCard

/-- THE SECOND FORM's CARD OF 'ephemerislaw2.PathTracks'. -/
def pathTracksUptoCard : Claim7 := { stood := { row := pathTracksUptoRow, standIns := [], harness := (true, "f07122353aff2192cfa5439e791c720c5f4f3ee933a7887f4840fe488642eaa4"), looks := false }, kinds := [], alts := [], laidByText := true, laidKinds := [.data, .data, .data], laidTests := true, laidLooks := .later }
def PathTracksUptoCardSaid : Prop := Claim7.holds Tryz.pinned (.plain (OpenSpec.upto pathTracksSpec)) pathTracksUptoCard

/-- THE SECOND FORM's CARD OF 'ephemeristop.TopRise'. -/
def topRiseUptoCard : Claim7 := { stood := { row := topRiseUptoRow, standIns := [], harness := (true, "f07122353aff2192cfa5439e791c720c5f4f3ee933a7887f4840fe488642eaa4"), looks := false }, kinds := [], alts := [], laidByText := true, laidKinds := [.data, .data, .data, .data], laidTests := true, laidLooks := .later }
def TopRiseUptoCardSaid : Prop := Claim7.holds Tryz.pinned (.plain (OpenSpec.upto topRiseSpec)) topRiseUptoCard
end Rows
end Go.Proofs.YtcgnhnmigmdalaaGreatDoor
