/-
  DERIVED. GIVEN WITH THE SEED: THE CARDS: each row of YtmjdcabniefifaaGreatDoorRows.lean that lists a variable, with what it lists TIED to the program's text (the seventh form; the later family's looks); each row that meets fmt, with fmt's text TOLD by the authors' own Lean function (tested against real Go, not proved from fmt's source: count such statements apart). THE CARD IS WHAT COUNTS. Prove the row's statement (the work); the ties are given (YtmjdcabniefifaaGreatDoorTie.lean); close each card by the builder's one call (the guide's Derived/Test/ToyasCard.lean, 'card_holds'). Laid BY PROGRAM, IN A SANDBOX (cutbox-door.mjs). By AI agents, Wed Nov 11 2026. No macro, syntax, notation, axiom, sorry.
-/
import Derived.Test.YtmjdcabniefifaaGreatDoorRows
import GoSem.ClaimSeven
namespace Go.Proofs.YtmjdcabniefifaaGreatDoor
namespace Rows

/-- THE TIED CARD OF 'ephemerislaw2.PlaceHeights'. -/
def placeHeightsCard : Claim7 := { stood := { row := placeHeightsRow, standIns := [], harness := (true, "57208384e3a9d4bc6baedab9aff0c787507e5b035858e98477cc0d45d1297af2"), looks := false }, kinds := [], alts := [], laidByText := true, laidKinds := [.data, .data, .data], laidTests := true, laidLooks := .later }
def PlaceHeightsCardSaid : Prop := Claim7.holds Tryz.pinned (.plain (OpenSpec.ofChange placeHeightsSpec)) placeHeightsCard

/-- THE TIED CARD OF 'ephemerislaw2.RisesetAboves'. -/
def risesetAbovesCard : Claim7 := { stood := { row := risesetAbovesRow, standIns := [], harness := (true, "57208384e3a9d4bc6baedab9aff0c787507e5b035858e98477cc0d45d1297af2"), looks := false }, kinds := [], alts := [], laidByText := true, laidKinds := [.data, .data, .data, .data], laidTests := true, laidLooks := .later }
def RisesetAbovesCardSaid : Prop := Claim7.holds Tryz.pinned (.plain (OpenSpec.ofChange risesetAbovesSpec)) risesetAbovesCard

/-- THE TIED CARD OF 'ephemerislaw2.RisesetFinds'. -/
def risesetFindsCard : Claim7 := { stood := { row := risesetFindsRow, standIns := [], harness := (true, "57208384e3a9d4bc6baedab9aff0c787507e5b035858e98477cc0d45d1297af2"), looks := false }, kinds := [], alts := [], laidByText := true, laidKinds := [.data, .data, .data, .data], laidTests := true, laidLooks := .later }
def RisesetFindsCardSaid : Prop := Claim7.holds Tryz.pinned (.plain (OpenSpec.ofChange risesetFindsSpec)) risesetFindsCard

/-- THE TIED CARD OF 'ephemerislaw2.RisesetLengths'. -/
def risesetLengthsCard : Claim7 := { stood := { row := risesetLengthsRow, standIns := [], harness := (true, "57208384e3a9d4bc6baedab9aff0c787507e5b035858e98477cc0d45d1297af2"), looks := false }, kinds := [], alts := [], laidByText := true, laidKinds := [.data, .data, .data, .data], laidTests := true, laidLooks := .later }
def RisesetLengthsCardSaid : Prop := Claim7.holds Tryz.pinned (.plain (OpenSpec.ofChange risesetLengthsSpec)) risesetLengthsCard

/-- THE TIED CARD OF 'ephemerislaw2.CrescentSeens'. -/
def crescentSeensCard : Claim7 := { stood := { row := crescentSeensRow, standIns := [], harness := (true, "57208384e3a9d4bc6baedab9aff0c787507e5b035858e98477cc0d45d1297af2"), looks := false }, kinds := [], alts := [], laidByText := true, laidKinds := [.data, .data, .data, .data], laidTests := true, laidLooks := .later }
def CrescentSeensCardSaid : Prop := Claim7.holds Tryz.pinned (.plain (OpenSpec.ofChange crescentSeensSpec)) crescentSeensCard

/-- THE TIED CARD OF 'ephemerislaw2.CrescentFirsts'. -/
def crescentFirstsCard : Claim7 := { stood := { row := crescentFirstsRow, standIns := [], harness := (true, "57208384e3a9d4bc6baedab9aff0c787507e5b035858e98477cc0d45d1297af2"), looks := false }, kinds := [], alts := [], laidByText := true, laidKinds := [.data, .data, .data, .data], laidTests := true, laidLooks := .later }
def CrescentFirstsCardSaid : Prop := Claim7.holds Tryz.pinned (.plain (OpenSpec.ofChange crescentFirstsSpec)) crescentFirstsCard

/-- THE TIED CARD OF 'ephemerislaw2.SharpenRises'. -/
def sharpenRisesCard : Claim7 := { stood := { row := sharpenRisesRow, standIns := [], harness := (true, "57208384e3a9d4bc6baedab9aff0c787507e5b035858e98477cc0d45d1297af2"), looks := false }, kinds := [], alts := [], laidByText := true, laidKinds := [.data, .data, .data, .data], laidTests := true, laidLooks := .later }
def SharpenRisesCardSaid : Prop := Claim7.holds Tryz.pinned (.plain (OpenSpec.ofChange sharpenRisesSpec)) sharpenRisesCard

/-- THE TIED CARD OF 'ephemerislaw2.DialShadows'. -/
def dialShadowsCard : Claim7 := { stood := { row := dialShadowsRow, standIns := [], harness := (true, "57208384e3a9d4bc6baedab9aff0c787507e5b035858e98477cc0d45d1297af2"), looks := false }, kinds := [], alts := [], laidByText := true, laidKinds := [.data, .data, .data], laidTests := true, laidLooks := .later }
def DialShadowsCardSaid : Prop := Claim7.holds Tryz.pinned (.plain (OpenSpec.ofChange dialShadowsSpec)) dialShadowsCard

/-- THE TIED CARD OF 'ephemeristop.TopRise'. -/
def topRiseCard : Claim7 := { stood := { row := topRiseRow, standIns := [], harness := (true, "57208384e3a9d4bc6baedab9aff0c787507e5b035858e98477cc0d45d1297af2"), looks := false }, kinds := [], alts := [], laidByText := true, laidKinds := [.data, .data, .data, .data], laidTests := true, laidLooks := .later }
def TopRiseCardSaid : Prop := Claim7.holds Tryz.pinned (.plain (OpenSpec.ofChange topRiseSpec)) topRiseCard

/-- THE SECOND FORM's CARD OF 'ephemerislaw2.PlaceHeights'. -/
def placeHeightsUptoCard : Claim7 := { stood := { row := placeHeightsUptoRow, standIns := [], harness := (true, "57208384e3a9d4bc6baedab9aff0c787507e5b035858e98477cc0d45d1297af2"), looks := false }, kinds := [], alts := [], laidByText := true, laidKinds := [.data, .data, .data], laidTests := true, laidLooks := .later }
def PlaceHeightsUptoCardSaid : Prop := Claim7.holds Tryz.pinned (.plain (OpenSpec.upto placeHeightsSpec)) placeHeightsUptoCard

/-- THE SECOND FORM's CARD OF 'ephemerislaw2.RisesetAboves'. -/
def risesetAbovesUptoCard : Claim7 := { stood := { row := risesetAbovesUptoRow, standIns := [], harness := (true, "57208384e3a9d4bc6baedab9aff0c787507e5b035858e98477cc0d45d1297af2"), looks := false }, kinds := [], alts := [], laidByText := true, laidKinds := [.data, .data, .data, .data], laidTests := true, laidLooks := .later }
def RisesetAbovesUptoCardSaid : Prop := Claim7.holds Tryz.pinned (.plain (OpenSpec.upto risesetAbovesSpec)) risesetAbovesUptoCard

/-- THE SECOND FORM's CARD OF 'ephemerislaw2.RisesetFinds'. -/
def risesetFindsUptoCard : Claim7 := { stood := { row := risesetFindsUptoRow, standIns := [], harness := (true, "57208384e3a9d4bc6baedab9aff0c787507e5b035858e98477cc0d45d1297af2"), looks := false }, kinds := [], alts := [], laidByText := true, laidKinds := [.data, .data, .data, .data], laidTests := true, laidLooks := .later }
def RisesetFindsUptoCardSaid : Prop := Claim7.holds Tryz.pinned (.plain (OpenSpec.upto risesetFindsSpec)) risesetFindsUptoCard

/-- THE SECOND FORM's CARD OF 'ephemerislaw2.RisesetLengths'. -/
def risesetLengthsUptoCard : Claim7 := { stood := { row := risesetLengthsUptoRow, standIns := [], harness := (true, "57208384e3a9d4bc6baedab9aff0c787507e5b035858e98477cc0d45d1297af2"), looks := false }, kinds := [], alts := [], laidByText := true, laidKinds := [.data, .data, .data, .data], laidTests := true, laidLooks := .later }
def RisesetLengthsUptoCardSaid : Prop := Claim7.holds Tryz.pinned (.plain (OpenSpec.upto risesetLengthsSpec)) risesetLengthsUptoCard

/-- THE SECOND FORM's CARD OF 'ephemerislaw2.CrescentSeens'. -/
def crescentSeensUptoCard : Claim7 := { stood := { row := crescentSeensUptoRow, standIns := [], harness := (true, "57208384e3a9d4bc6baedab9aff0c787507e5b035858e98477cc0d45d1297af2"), looks := false }, kinds := [], alts := [], laidByText := true, laidKinds := [.data, .data, .data, .data], laidTests := true, laidLooks := .later }
def CrescentSeensUptoCardSaid : Prop := Claim7.holds Tryz.pinned (.plain (OpenSpec.upto crescentSeensSpec)) crescentSeensUptoCard

/-- THE SECOND FORM's CARD OF 'ephemerislaw2.CrescentFirsts'. -/
def crescentFirstsUptoCard : Claim7 := { stood := { row := crescentFirstsUptoRow, standIns := [], harness := (true, "57208384e3a9d4bc6baedab9aff0c787507e5b035858e98477cc0d45d1297af2"), looks := false }, kinds := [], alts := [], laidByText := true, laidKinds := [.data, .data, .data, .data], laidTests := true, laidLooks := .later }
def CrescentFirstsUptoCardSaid : Prop := Claim7.holds Tryz.pinned (.plain (OpenSpec.upto crescentFirstsSpec)) crescentFirstsUptoCard

/-- THE SECOND FORM's CARD OF 'ephemerislaw2.SharpenRises'. -/
def sharpenRisesUptoCard : Claim7 := { stood := { row := sharpenRisesUptoRow, standIns := [], harness := (true, "57208384e3a9d4bc6baedab9aff0c787507e5b035858e98477cc0d45d1297af2"), looks := false }, kinds := [], alts := [], laidByText := true, laidKinds := [.data, .data, .data, .data], laidTests := true, laidLooks := .later }
def SharpenRisesUptoCardSaid : Prop := Claim7.holds Tryz.pinned (.plain (OpenSpec.upto sharpenRisesSpec)) sharpenRisesUptoCard

/-- THE SECOND FORM's CARD OF 'ephemerislaw2.DialShadows'. -/
def dialShadowsUptoCard : Claim7 := { stood := { row := dialShadowsUptoRow, standIns := [], harness := (true, "57208384e3a9d4bc6baedab9aff0c787507e5b035858e98477cc0d45d1297af2"), looks := false }, kinds := [], alts := [], laidByText := true, laidKinds := [.data, .data, .data], laidTests := true, laidLooks := .later }
def DialShadowsUptoCardSaid : Prop := Claim7.holds Tryz.pinned (.plain (OpenSpec.upto dialShadowsSpec)) dialShadowsUptoCard

/-- THE SECOND FORM's CARD OF 'ephemeristop.TopRise'. -/
def topRiseUptoCard : Claim7 := { stood := { row := topRiseUptoRow, standIns := [], harness := (true, "57208384e3a9d4bc6baedab9aff0c787507e5b035858e98477cc0d45d1297af2"), looks := false }, kinds := [], alts := [], laidByText := true, laidKinds := [.data, .data, .data, .data], laidTests := true, laidLooks := .later }
def TopRiseUptoCardSaid : Prop := Claim7.holds Tryz.pinned (.plain (OpenSpec.upto topRiseSpec)) topRiseUptoCard
end Rows
end Go.Proofs.YtmjdcabniefifaaGreatDoor
