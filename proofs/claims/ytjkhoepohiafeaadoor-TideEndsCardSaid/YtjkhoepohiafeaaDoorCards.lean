/-
  DERIVED. GIVEN WITH THE SEED: THE CARDS: each row of YtjkhoepohiafeaaDoorRows.lean that lists a variable, with what it lists TIED to the program's text (the seventh form; the later family's looks); each row that meets fmt, with fmt's text TOLD by the authors' own Lean function (tested against real Go, not proved from fmt's source: count such statements apart). THE CARD IS WHAT COUNTS. Prove the row's statement (the work); the ties are given (YtjkhoepohiafeaaDoorTie.lean); close each card by the builder's one call (the guide's Derived/Test/ToyasCard.lean, 'card_holds'). Laid BY PROGRAM, IN A SANDBOX (cutbox-door.mjs). By AI agents, Wed Nov 11 2026. No macro, syntax, notation, axiom, sorry.
-/
import Derived.Test.YtjkhoepohiafeaaDoorRows
import GoSem.ClaimSeven
namespace Go.Proofs.YtjkhoepohiafeaaDoor
namespace Rows

/-- THE TIED CARD OF 'ephemerislaw2.DialLines'. -/
def dialLinesCard : Claim7 := { stood := { row := dialLinesRow, standIns := [], harness := (true, "e2c86a7187278b529def7d554d61607a3930485e3427096ea0413d09aeb27d56"), looks := false }, kinds := [], alts := [], laidByText := true, laidKinds := [.data, .data, .data], laidTests := true, laidLooks := .later }
def DialLinesCardSaid : Prop := Claim7.holds Tryd.pinned (.plain (OpenSpec.ofChange dialLinesSpec)) dialLinesCard

/-- THE TIED CARD OF 'ephemerislaw2.PlanetLongitudes'. -/
def planetLongitudesCard : Claim7 := { stood := { row := planetLongitudesRow, standIns := [], harness := (true, "e2c86a7187278b529def7d554d61607a3930485e3427096ea0413d09aeb27d56"), looks := false }, kinds := [], alts := [], laidByText := true, laidKinds := [.data, .data, .data, .data], laidTests := true, laidLooks := .later }
def PlanetLongitudesCardSaid : Prop := Claim7.holds Tryd.pinned (.plain (OpenSpec.ofChange planetLongitudesSpec)) planetLongitudesCard

/-- THE TIED CARD OF 'ephemerislaw2.PlanetElongations'. -/
def planetElongationsCard : Claim7 := { stood := { row := planetElongationsRow, standIns := [], harness := (true, "e2c86a7187278b529def7d554d61607a3930485e3427096ea0413d09aeb27d56"), looks := false }, kinds := [], alts := [], laidByText := true, laidKinds := [.data, .data, .data, .data], laidTests := true, laidLooks := .later }
def PlanetElongationsCardSaid : Prop := Claim7.holds Tryd.pinned (.plain (OpenSpec.ofChange planetElongationsSpec)) planetElongationsCard

/-- THE TIED CARD OF 'ephemerislaw2.AstrolabeRings'. -/
def astrolabeRingsCard : Claim7 := { stood := { row := astrolabeRingsRow, standIns := [], harness := (true, "e2c86a7187278b529def7d554d61607a3930485e3427096ea0413d09aeb27d56"), looks := false }, kinds := [], alts := [], laidByText := true, laidKinds := [.data, .data, .data], laidTests := true, laidLooks := .later }
def AstrolabeRingsCardSaid : Prop := Claim7.holds Tryd.pinned (.plain (OpenSpec.ofChange astrolabeRingsSpec)) astrolabeRingsCard

/-- THE TIED CARD OF 'ephemerislaw2.AstrolabeStars'. -/
def astrolabeStarsCard : Claim7 := { stood := { row := astrolabeStarsRow, standIns := [], harness := (true, "e2c86a7187278b529def7d554d61607a3930485e3427096ea0413d09aeb27d56"), looks := false }, kinds := [], alts := [], laidByText := true, laidKinds := [.data, .data, .data], laidTests := true, laidLooks := .later }
def AstrolabeStarsCardSaid : Prop := Claim7.holds Tryd.pinned (.plain (OpenSpec.ofChange astrolabeStarsSpec)) astrolabeStarsCard

/-- THE TIED CARD OF 'ephemerislaw2.AstrolabeAlmucantars'. -/
def astrolabeAlmucantarsCard : Claim7 := { stood := { row := astrolabeAlmucantarsRow, standIns := [], harness := (true, "e2c86a7187278b529def7d554d61607a3930485e3427096ea0413d09aeb27d56"), looks := false }, kinds := [], alts := [], laidByText := true, laidKinds := [.data, .data, .data], laidTests := true, laidLooks := .later }
def AstrolabeAlmucantarsCardSaid : Prop := Claim7.holds Tryd.pinned (.plain (OpenSpec.ofChange astrolabeAlmucantarsSpec)) astrolabeAlmucantarsCard

/-- THE TIED CARD OF 'ephemerislaw2.TideHeights'. -/
def tideHeightsCard : Claim7 := { stood := { row := tideHeightsRow, standIns := [], harness := (true, "e2c86a7187278b529def7d554d61607a3930485e3427096ea0413d09aeb27d56"), looks := false }, kinds := [], alts := [], laidByText := true, laidKinds := [.data, .data, .data], laidTests := true, laidLooks := .later }
def TideHeightsCardSaid : Prop := Claim7.holds Tryd.pinned (.plain (OpenSpec.ofChange tideHeightsSpec)) tideHeightsCard

/-- THE TIED CARD OF 'ephemerislaw2.TideEnds'. -/
def tideEndsCard : Claim7 := { stood := { row := tideEndsRow, standIns := [], harness := (true, "e2c86a7187278b529def7d554d61607a3930485e3427096ea0413d09aeb27d56"), looks := false }, kinds := [], alts := [], laidByText := true, laidKinds := [.data, .data, .data], laidTests := true, laidLooks := .later }
def TideEndsCardSaid : Prop := Claim7.holds Tryd.pinned (.plain (OpenSpec.ofChange tideEndsSpec)) tideEndsCard

/-- THE SECOND FORM's CARD OF 'ephemerislaw2.DialLines'. -/
def dialLinesUptoCard : Claim7 := { stood := { row := dialLinesUptoRow, standIns := [], harness := (true, "e2c86a7187278b529def7d554d61607a3930485e3427096ea0413d09aeb27d56"), looks := false }, kinds := [], alts := [], laidByText := true, laidKinds := [.data, .data, .data], laidTests := true, laidLooks := .later }
def DialLinesUptoCardSaid : Prop := Claim7.holds Tryd.pinned (.plain (OpenSpec.upto dialLinesSpec)) dialLinesUptoCard

/-- THE SECOND FORM's CARD OF 'ephemerislaw2.PlanetLongitudes'. -/
def planetLongitudesUptoCard : Claim7 := { stood := { row := planetLongitudesUptoRow, standIns := [], harness := (true, "e2c86a7187278b529def7d554d61607a3930485e3427096ea0413d09aeb27d56"), looks := false }, kinds := [], alts := [], laidByText := true, laidKinds := [.data, .data, .data, .data], laidTests := true, laidLooks := .later }
def PlanetLongitudesUptoCardSaid : Prop := Claim7.holds Tryd.pinned (.plain (OpenSpec.upto planetLongitudesSpec)) planetLongitudesUptoCard

/-- THE SECOND FORM's CARD OF 'ephemerislaw2.PlanetElongations'. -/
def planetElongationsUptoCard : Claim7 := { stood := { row := planetElongationsUptoRow, standIns := [], harness := (true, "e2c86a7187278b529def7d554d61607a3930485e3427096ea0413d09aeb27d56"), looks := false }, kinds := [], alts := [], laidByText := true, laidKinds := [.data, .data, .data, .data], laidTests := true, laidLooks := .later }
def PlanetElongationsUptoCardSaid : Prop := Claim7.holds Tryd.pinned (.plain (OpenSpec.upto planetElongationsSpec)) planetElongationsUptoCard

/-- THE SECOND FORM's CARD OF 'ephemerislaw2.AstrolabeRings'. -/
def astrolabeRingsUptoCard : Claim7 := { stood := { row := astrolabeRingsUptoRow, standIns := [], harness := (true, "e2c86a7187278b529def7d554d61607a3930485e3427096ea0413d09aeb27d56"), looks := false }, kinds := [], alts := [], laidByText := true, laidKinds := [.data, .data, .data], laidTests := true, laidLooks := .later }
def AstrolabeRingsUptoCardSaid : Prop := Claim7.holds Tryd.pinned (.plain (OpenSpec.upto astrolabeRingsSpec)) astrolabeRingsUptoCard

/-- THE SECOND FORM's CARD OF 'ephemerislaw2.AstrolabeStars'. -/
def astrolabeStarsUptoCard : Claim7 := { stood := { row := astrolabeStarsUptoRow, standIns := [], harness := (true, "e2c86a7187278b529def7d554d61607a3930485e3427096ea0413d09aeb27d56"), looks := false }, kinds := [], alts := [], laidByText := true, laidKinds := [.data, .data, .data], laidTests := true, laidLooks := .later }
def AstrolabeStarsUptoCardSaid : Prop := Claim7.holds Tryd.pinned (.plain (OpenSpec.upto astrolabeStarsSpec)) astrolabeStarsUptoCard

/-- THE SECOND FORM's CARD OF 'ephemerislaw2.AstrolabeAlmucantars'. -/
def astrolabeAlmucantarsUptoCard : Claim7 := { stood := { row := astrolabeAlmucantarsUptoRow, standIns := [], harness := (true, "e2c86a7187278b529def7d554d61607a3930485e3427096ea0413d09aeb27d56"), looks := false }, kinds := [], alts := [], laidByText := true, laidKinds := [.data, .data, .data], laidTests := true, laidLooks := .later }
def AstrolabeAlmucantarsUptoCardSaid : Prop := Claim7.holds Tryd.pinned (.plain (OpenSpec.upto astrolabeAlmucantarsSpec)) astrolabeAlmucantarsUptoCard

/-- THE SECOND FORM's CARD OF 'ephemerislaw2.TideHeights'. -/
def tideHeightsUptoCard : Claim7 := { stood := { row := tideHeightsUptoRow, standIns := [], harness := (true, "e2c86a7187278b529def7d554d61607a3930485e3427096ea0413d09aeb27d56"), looks := false }, kinds := [], alts := [], laidByText := true, laidKinds := [.data, .data, .data], laidTests := true, laidLooks := .later }
def TideHeightsUptoCardSaid : Prop := Claim7.holds Tryd.pinned (.plain (OpenSpec.upto tideHeightsSpec)) tideHeightsUptoCard

/-- THE SECOND FORM's CARD OF 'ephemerislaw2.TideEnds'. -/
def tideEndsUptoCard : Claim7 := { stood := { row := tideEndsUptoRow, standIns := [], harness := (true, "e2c86a7187278b529def7d554d61607a3930485e3427096ea0413d09aeb27d56"), looks := false }, kinds := [], alts := [], laidByText := true, laidKinds := [.data, .data, .data], laidTests := true, laidLooks := .later }
def TideEndsUptoCardSaid : Prop := Claim7.holds Tryd.pinned (.plain (OpenSpec.upto tideEndsSpec)) tideEndsUptoCard
end Rows
end Go.Proofs.YtjkhoepohiafeaaDoor
