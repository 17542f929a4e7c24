/-
  DERIVED. GIVEN WITH THE SEED: THE CARDS: each row of YtcgnhnmigmdalaaDoorRows.lean that lists a variable, with what it lists TIED to the program's text (the seventh form; the later family's looks); each row that meets fmt, with fmt's text TOLD by the authors' own Lean function (tested against real Go, not proved from fmt's source: count such statements apart). THE CARD IS WHAT COUNTS. Prove the row's statement (the work); the ties are given (YtcgnhnmigmdalaaDoorTie.lean); close each card by the builder's one call (the guide's Derived/Test/ToyasCard.lean, 'card_holds'). Laid BY PROGRAM, IN A SANDBOX (cutbox-door.mjs). By AI agents, Wed Nov 11 2026. No macro, syntax, notation, axiom, sorry.
-/
import Derived.Test.YtcgnhnmigmdalaaDoorRows
import GoSem.ClaimSeven
namespace Go.Proofs.YtcgnhnmigmdalaaDoor
namespace Rows

/-- THE TIED CARD OF 'ephemerislaw2.EclipseFinds'. -/
def eclipseFindsCard : Claim7 := { stood := { row := eclipseFindsRow, standIns := [], harness := (true, "8fb7b47adbd881c1e712b1e895d22172ce104978eb6f0eda9da4d673f8f6d63f"), looks := false }, kinds := [], alts := [], laidByText := true, laidKinds := [.data, .data, .data], laidTests := true, laidLooks := .later }
def EclipseFindsCardSaid : Prop := Claim7.holds Tryd.pinned (.plain (OpenSpec.ofChange eclipseFindsSpec)) eclipseFindsCard

/-- THE TIED CARD OF 'ephemerislaw2.EclipseNexts'. -/
def eclipseNextsCard : Claim7 := { stood := { row := eclipseNextsRow, standIns := [], harness := (true, "8fb7b47adbd881c1e712b1e895d22172ce104978eb6f0eda9da4d673f8f6d63f"), looks := false }, kinds := [], alts := [], laidByText := true, laidKinds := [.data, .data, .data], laidTests := true, laidLooks := .later }
def EclipseNextsCardSaid : Prop := Claim7.holds Tryd.pinned (.plain (OpenSpec.ofChange eclipseNextsSpec)) eclipseNextsCard

/-- THE TIED CARD OF 'ephemerislaw2.StarmapMaps'. -/
def starmapMapsCard : Claim7 := { stood := { row := starmapMapsRow, standIns := [], harness := (true, "8fb7b47adbd881c1e712b1e895d22172ce104978eb6f0eda9da4d673f8f6d63f"), looks := false }, kinds := [], alts := [], laidByText := true, laidKinds := [.data, .data, .data, .data], laidTests := true, laidLooks := .later }
def StarmapMapsCardSaid : Prop := Claim7.holds Tryd.pinned (.plain (OpenSpec.ofChange starmapMapsSpec)) starmapMapsCard

/-- THE TIED CARD OF 'ephemerislaw2.StarmapUps'. -/
def starmapUpsCard : Claim7 := { stood := { row := starmapUpsRow, standIns := [], harness := (true, "8fb7b47adbd881c1e712b1e895d22172ce104978eb6f0eda9da4d673f8f6d63f"), looks := false }, kinds := [], alts := [], laidByText := true, laidKinds := [.data, .data, .data, .data], laidTests := true, laidLooks := .later }
def StarmapUpsCardSaid : Prop := Claim7.holds Tryd.pinned (.plain (OpenSpec.ofChange starmapUpsSpec)) starmapUpsCard

/-- THE TIED CARD OF 'ephemeristop.TopTides'. -/
def topTidesCard : Claim7 := { stood := { row := topTidesRow, standIns := [], harness := (true, "8fb7b47adbd881c1e712b1e895d22172ce104978eb6f0eda9da4d673f8f6d63f"), looks := false }, kinds := [], alts := [], laidByText := true, laidKinds := [.data, .data, .data], laidTests := true, laidLooks := .later }
def TopTidesCardSaid : Prop := Claim7.holds Tryd.pinned (.plain (OpenSpec.ofChange topTidesSpec)) topTidesCard

/-- THE SECOND FORM's CARD OF 'ephemerislaw2.EclipseFinds'. -/
def eclipseFindsUptoCard : Claim7 := { stood := { row := eclipseFindsUptoRow, standIns := [], harness := (true, "8fb7b47adbd881c1e712b1e895d22172ce104978eb6f0eda9da4d673f8f6d63f"), looks := false }, kinds := [], alts := [], laidByText := true, laidKinds := [.data, .data, .data], laidTests := true, laidLooks := .later }
def EclipseFindsUptoCardSaid : Prop := Claim7.holds Tryd.pinned (.plain (OpenSpec.upto eclipseFindsSpec)) eclipseFindsUptoCard

/-- THE SECOND FORM's CARD OF 'ephemerislaw2.EclipseNexts'. -/
def eclipseNextsUptoCard : Claim7 := { stood := { row := eclipseNextsUptoRow, standIns := [], harness := (true, "8fb7b47adbd881c1e712b1e895d22172ce104978eb6f0eda9da4d673f8f6d63f"), looks := false }, kinds := [], alts := [], laidByText := true, laidKinds := [.data, .data, .data], laidTests := true, laidLooks := .later }
def EclipseNextsUptoCardSaid : Prop := Claim7.holds Tryd.pinned (.plain (OpenSpec.upto eclipseNextsSpec)) eclipseNextsUptoCard

/-- THE SECOND FORM's CARD OF 'ephemerislaw2.StarmapMaps'. -/
def starmapMapsUptoCard : Claim7 := { stood := { row := starmapMapsUptoRow, standIns := [], harness := (true, "8fb7b47adbd881c1e712b1e895d22172ce104978eb6f0eda9da4d673f8f6d63f"), looks := false }, kinds := [], alts := [], laidByText := true, laidKinds := [.data, .data, .data, .data], laidTests := true, laidLooks := .later }
def StarmapMapsUptoCardSaid : Prop := Claim7.holds Tryd.pinned (.plain (OpenSpec.upto starmapMapsSpec)) starmapMapsUptoCard

/-- THE SECOND FORM's CARD OF 'ephemerislaw2.StarmapUps'. -/
def starmapUpsUptoCard : Claim7 := { stood := { row := starmapUpsUptoRow, standIns := [], harness := (true, "8fb7b47adbd881c1e712b1e895d22172ce104978eb6f0eda9da4d673f8f6d63f"), looks := false }, kinds := [], alts := [], laidByText := true, laidKinds := [.data, .data, .data, .data], laidTests := true, laidLooks := .later }
def StarmapUpsUptoCardSaid : Prop := Claim7.holds Tryd.pinned (.plain (OpenSpec.upto starmapUpsSpec)) starmapUpsUptoCard

/-- THE SECOND FORM's CARD OF 'ephemeristop.TopTides'. -/
def topTidesUptoCard : Claim7 := { stood := { row := topTidesUptoRow, standIns := [], harness := (true, "8fb7b47adbd881c1e712b1e895d22172ce104978eb6f0eda9da4d673f8f6d63f"), looks := false }, kinds := [], alts := [], laidByText := true, laidKinds := [.data, .data, .data], laidTests := true, laidLooks := .later }
def TopTidesUptoCardSaid : Prop := Claim7.holds Tryd.pinned (.plain (OpenSpec.upto topTidesSpec)) topTidesUptoCard
end Rows
end Go.Proofs.YtcgnhnmigmdalaaDoor
