/-
  DERIVED. GIVEN WITH THE SEED: THE CARDS: each row of YtaaiamcpdicnhaaDoorRows.lean that lists a variable, with what it lists TIED to the program's text (the seventh form; the later family's looks); each row that meets fmt, with fmt's text TOLD by the authors' own Lean function (tested against real Go, not proved from fmt's source: count such statements apart). THE CARD IS WHAT COUNTS. Prove the row's statement (the work); the ties are given (YtaaiamcpdicnhaaDoorTie.lean); close each card by the builder's one call (the guide's Derived/Test/ToyasCard.lean, 'card_holds'). Laid BY PROGRAM, IN A SANDBOX (cutbox-door.mjs). By AI agents, Wed Nov 11 2026. No macro, syntax, notation, axiom, sorry.
-/
import Derived.Test.YtaaiamcpdicnhaaDoorRows
import GoSem.ClaimSeven
namespace Go.Proofs.YtaaiamcpdicnhaaDoor
namespace Rows

/-- THE TIED CARD OF 'ephemerislaw2.MoonElongations'. -/
def moonElongationsCard : Claim7 := { stood := { row := moonElongationsRow, standIns := [], harness := (true, "c5972c36dcd5bd988cca8697e66a4976bcd8fbd1809b1a3379718dfe71421e86"), looks := false }, kinds := [], alts := [], laidByText := true, laidKinds := [.data, .data, .data], laidTests := true, laidLooks := .later }
def MoonElongationsCardSaid : Prop := Claim7.holds Tryd.pinned (.plain (OpenSpec.ofChange moonElongationsSpec)) moonElongationsCard

/-- THE TIED CARD OF 'ephemerislaw2.SunLongitudes'. -/
def sunLongitudesCard : Claim7 := { stood := { row := sunLongitudesRow, standIns := [], harness := (true, "c5972c36dcd5bd988cca8697e66a4976bcd8fbd1809b1a3379718dfe71421e86"), looks := false }, kinds := [], alts := [], laidByText := true, laidKinds := [.data, .data, .data], laidTests := true, laidLooks := .later }
def SunLongitudesCardSaid : Prop := Claim7.holds Tryd.pinned (.plain (OpenSpec.ofChange sunLongitudesSpec)) sunLongitudesCard

/-- THE TIED CARD OF 'ephemerislaw2.SunEquators'. -/
def sunEquatorsCard : Claim7 := { stood := { row := sunEquatorsRow, standIns := [], harness := (true, "c5972c36dcd5bd988cca8697e66a4976bcd8fbd1809b1a3379718dfe71421e86"), looks := false }, kinds := [], alts := [], laidByText := true, laidKinds := [.data, .data, .data], laidTests := true, laidLooks := .later }
def SunEquatorsCardSaid : Prop := Claim7.holds Tryd.pinned (.plain (OpenSpec.ofChange sunEquatorsSpec)) sunEquatorsCard

/-- THE TIED CARD OF 'ephemerislaw2.StarAts'. -/
def starAtsCard : Claim7 := { stood := { row := starAtsRow, standIns := [], harness := (true, "c5972c36dcd5bd988cca8697e66a4976bcd8fbd1809b1a3379718dfe71421e86"), looks := false }, kinds := [], alts := [], laidByText := true, laidKinds := [.data, .data, .data, .data], laidTests := true, laidLooks := .later }
def StarAtsCardSaid : Prop := Claim7.holds Tryd.pinned (.plain (OpenSpec.ofChange starAtsSpec)) starAtsCard

/-- THE TIED CARD OF 'ephemerislaw2.AstrolabeRings'. -/
def astrolabeRingsCard : Claim7 := { stood := { row := astrolabeRingsRow, standIns := [], harness := (true, "c5972c36dcd5bd988cca8697e66a4976bcd8fbd1809b1a3379718dfe71421e86"), looks := false }, kinds := [], alts := [], laidByText := true, laidKinds := [.data, .data, .data], laidTests := true, laidLooks := .later }
def AstrolabeRingsCardSaid : Prop := Claim7.holds Tryd.pinned (.plain (OpenSpec.ofChange astrolabeRingsSpec)) astrolabeRingsCard

/-- THE TIED CARD OF 'ephemerislaw2.AstrolabeAlmucantars'. -/
def astrolabeAlmucantarsCard : Claim7 := { stood := { row := astrolabeAlmucantarsRow, standIns := [], harness := (true, "c5972c36dcd5bd988cca8697e66a4976bcd8fbd1809b1a3379718dfe71421e86"), looks := false }, kinds := [], alts := [], laidByText := true, laidKinds := [.data, .data, .data], laidTests := true, laidLooks := .later }
def AstrolabeAlmucantarsCardSaid : Prop := Claim7.holds Tryd.pinned (.plain (OpenSpec.ofChange astrolabeAlmucantarsSpec)) astrolabeAlmucantarsCard

/-- THE TIED CARD OF 'ephemerislaw2.AstrolabeStars'. -/
def astrolabeStarsCard : Claim7 := { stood := { row := astrolabeStarsRow, standIns := [], harness := (true, "c5972c36dcd5bd988cca8697e66a4976bcd8fbd1809b1a3379718dfe71421e86"), looks := false }, kinds := [], alts := [], laidByText := true, laidKinds := [.data, .data, .data], laidTests := true, laidLooks := .later }
def AstrolabeStarsCardSaid : Prop := Claim7.holds Tryd.pinned (.plain (OpenSpec.ofChange astrolabeStarsSpec)) astrolabeStarsCard

/-- THE TIED CARD OF 'ephemerislaw2.TideHeights'. -/
def tideHeightsCard : Claim7 := { stood := { row := tideHeightsRow, standIns := [], harness := (true, "c5972c36dcd5bd988cca8697e66a4976bcd8fbd1809b1a3379718dfe71421e86"), looks := false }, kinds := [], alts := [], laidByText := true, laidKinds := [.data, .data, .data], laidTests := true, laidLooks := .later }
def TideHeightsCardSaid : Prop := Claim7.holds Tryd.pinned (.plain (OpenSpec.ofChange tideHeightsSpec)) tideHeightsCard

/-- THE TIED CARD OF 'ephemerislaw2.TideEnds'. -/
def tideEndsCard : Claim7 := { stood := { row := tideEndsRow, standIns := [], harness := (true, "c5972c36dcd5bd988cca8697e66a4976bcd8fbd1809b1a3379718dfe71421e86"), looks := false }, kinds := [], alts := [], laidByText := true, laidKinds := [.data, .data, .data], laidTests := true, laidLooks := .later }
def TideEndsCardSaid : Prop := Claim7.holds Tryd.pinned (.plain (OpenSpec.ofChange tideEndsSpec)) tideEndsCard

/-- THE TIED CARD OF 'ephemeristop.TopSums'. -/
def topSumsCard : Claim7 := { stood := { row := topSumsRow, standIns := [], harness := (true, "c5972c36dcd5bd988cca8697e66a4976bcd8fbd1809b1a3379718dfe71421e86"), looks := false }, kinds := [], alts := [], laidByText := true, laidKinds := [.data, .data, .data], laidTests := true, laidLooks := .later }
def TopSumsCardSaid : Prop := Claim7.holds Tryd.pinned (.plain (OpenSpec.ofChange topSumsSpec)) topSumsCard

/-- THE SECOND FORM's CARD OF 'ephemerislaw2.MoonElongations'. -/
def moonElongationsUptoCard : Claim7 := { stood := { row := moonElongationsUptoRow, standIns := [], harness := (true, "c5972c36dcd5bd988cca8697e66a4976bcd8fbd1809b1a3379718dfe71421e86"), looks := false }, kinds := [], alts := [], laidByText := true, laidKinds := [.data, .data, .data], laidTests := true, laidLooks := .later }
def MoonElongationsUptoCardSaid : Prop := Claim7.holds Tryd.pinned (.plain (OpenSpec.upto moonElongationsSpec)) moonElongationsUptoCard

/-- THE SECOND FORM's CARD OF 'ephemerislaw2.SunLongitudes'. -/
def sunLongitudesUptoCard : Claim7 := { stood := { row := sunLongitudesUptoRow, standIns := [], harness := (true, "c5972c36dcd5bd988cca8697e66a4976bcd8fbd1809b1a3379718dfe71421e86"), looks := false }, kinds := [], alts := [], laidByText := true, laidKinds := [.data, .data, .data], laidTests := true, laidLooks := .later }
def SunLongitudesUptoCardSaid : Prop := Claim7.holds Tryd.pinned (.plain (OpenSpec.upto sunLongitudesSpec)) sunLongitudesUptoCard

/-- THE SECOND FORM's CARD OF 'ephemerislaw2.SunEquators'. -/
def sunEquatorsUptoCard : Claim7 := { stood := { row := sunEquatorsUptoRow, standIns := [], harness := (true, "c5972c36dcd5bd988cca8697e66a4976bcd8fbd1809b1a3379718dfe71421e86"), looks := false }, kinds := [], alts := [], laidByText := true, laidKinds := [.data, .data, .data], laidTests := true, laidLooks := .later }
def SunEquatorsUptoCardSaid : Prop := Claim7.holds Tryd.pinned (.plain (OpenSpec.upto sunEquatorsSpec)) sunEquatorsUptoCard

/-- THE SECOND FORM's CARD OF 'ephemerislaw2.StarAts'. -/
def starAtsUptoCard : Claim7 := { stood := { row := starAtsUptoRow, standIns := [], harness := (true, "c5972c36dcd5bd988cca8697e66a4976bcd8fbd1809b1a3379718dfe71421e86"), looks := false }, kinds := [], alts := [], laidByText := true, laidKinds := [.data, .data, .data, .data], laidTests := true, laidLooks := .later }
def StarAtsUptoCardSaid : Prop := Claim7.holds Tryd.pinned (.plain (OpenSpec.upto starAtsSpec)) starAtsUptoCard

/-- THE SECOND FORM's CARD OF 'ephemerislaw2.AstrolabeRings'. -/
def astrolabeRingsUptoCard : Claim7 := { stood := { row := astrolabeRingsUptoRow, standIns := [], harness := (true, "c5972c36dcd5bd988cca8697e66a4976bcd8fbd1809b1a3379718dfe71421e86"), looks := false }, kinds := [], alts := [], laidByText := true, laidKinds := [.data, .data, .data], laidTests := true, laidLooks := .later }
def AstrolabeRingsUptoCardSaid : Prop := Claim7.holds Tryd.pinned (.plain (OpenSpec.upto astrolabeRingsSpec)) astrolabeRingsUptoCard

/-- THE SECOND FORM's CARD OF 'ephemerislaw2.AstrolabeAlmucantars'. -/
def astrolabeAlmucantarsUptoCard : Claim7 := { stood := { row := astrolabeAlmucantarsUptoRow, standIns := [], harness := (true, "c5972c36dcd5bd988cca8697e66a4976bcd8fbd1809b1a3379718dfe71421e86"), looks := false }, kinds := [], alts := [], laidByText := true, laidKinds := [.data, .data, .data], laidTests := true, laidLooks := .later }
def AstrolabeAlmucantarsUptoCardSaid : Prop := Claim7.holds Tryd.pinned (.plain (OpenSpec.upto astrolabeAlmucantarsSpec)) astrolabeAlmucantarsUptoCard

/-- THE SECOND FORM's CARD OF 'ephemerislaw2.AstrolabeStars'. -/
def astrolabeStarsUptoCard : Claim7 := { stood := { row := astrolabeStarsUptoRow, standIns := [], harness := (true, "c5972c36dcd5bd988cca8697e66a4976bcd8fbd1809b1a3379718dfe71421e86"), looks := false }, kinds := [], alts := [], laidByText := true, laidKinds := [.data, .data, .data], laidTests := true, laidLooks := .later }
def AstrolabeStarsUptoCardSaid : Prop := Claim7.holds Tryd.pinned (.plain (OpenSpec.upto astrolabeStarsSpec)) astrolabeStarsUptoCard

/-- THE SECOND FORM's CARD OF 'ephemerislaw2.TideHeights'. -/
def tideHeightsUptoCard : Claim7 := { stood := { row := tideHeightsUptoRow, standIns := [], harness := (true, "c5972c36dcd5bd988cca8697e66a4976bcd8fbd1809b1a3379718dfe71421e86"), looks := false }, kinds := [], alts := [], laidByText := true, laidKinds := [.data, .data, .data], laidTests := true, laidLooks := .later }
def TideHeightsUptoCardSaid : Prop := Claim7.holds Tryd.pinned (.plain (OpenSpec.upto tideHeightsSpec)) tideHeightsUptoCard

/-- THE SECOND FORM's CARD OF 'ephemerislaw2.TideEnds'. -/
def tideEndsUptoCard : Claim7 := { stood := { row := tideEndsUptoRow, standIns := [], harness := (true, "c5972c36dcd5bd988cca8697e66a4976bcd8fbd1809b1a3379718dfe71421e86"), looks := false }, kinds := [], alts := [], laidByText := true, laidKinds := [.data, .data, .data], laidTests := true, laidLooks := .later }
def TideEndsUptoCardSaid : Prop := Claim7.holds Tryd.pinned (.plain (OpenSpec.upto tideEndsSpec)) tideEndsUptoCard

/-- THE SECOND FORM's CARD OF 'ephemeristop.TopSums'. -/
def topSumsUptoCard : Claim7 := { stood := { row := topSumsUptoRow, standIns := [], harness := (true, "c5972c36dcd5bd988cca8697e66a4976bcd8fbd1809b1a3379718dfe71421e86"), looks := false }, kinds := [], alts := [], laidByText := true, laidKinds := [.data, .data, .data], laidTests := true, laidLooks := .later }
def TopSumsUptoCardSaid : Prop := Claim7.holds Tryd.pinned (.plain (OpenSpec.upto topSumsSpec)) topSumsUptoCard
end Rows
end Go.Proofs.YtaaiamcpdicnhaaDoor
