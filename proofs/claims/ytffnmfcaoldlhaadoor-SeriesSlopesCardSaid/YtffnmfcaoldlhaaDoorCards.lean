/-
  DERIVED. GIVEN WITH THE SEED: THE CARDS: each row of YtffnmfcaoldlhaaDoorRows.lean that lists a variable, with what it lists TIED to the program's text (the seventh form; the later family's looks); each row that meets fmt, with fmt's text TOLD by the authors' own Lean function (tested against real Go, not proved from fmt's source: count such statements apart). THE CARD IS WHAT COUNTS. Prove the row's statement (the work); the ties are given (YtffnmfcaoldlhaaDoorTie.lean); close each card by the builder's one call (the guide's Derived/Test/ToyasCard.lean, 'card_holds'). Laid BY PROGRAM, IN A SANDBOX (cutbox-door.mjs). By AI agents, Wed Nov 11 2026. No macro, syntax, notation, axiom, sorry.
-/
import Derived.Test.YtffnmfcaoldlhaaDoorRows
import GoSem.ClaimSeven
namespace Go.Proofs.YtffnmfcaoldlhaaDoor
namespace Rows

/-- THE TIED CARD OF 'ephemerislaw2.TrigSins'. -/
def trigSinsCard : Claim7 := { stood := { row := trigSinsRow, standIns := [], harness := (true, "f1775a5dd0b08d0e1ca3045f96a330eb0a301e042d8b44cdd83b8f5755deb639"), looks := false }, kinds := [], alts := [], laidByText := true, laidKinds := [.data, .data, .data], laidTests := true, laidLooks := .later }
def TrigSinsCardSaid : Prop := Claim7.holds Tryd.pinned (.plain (OpenSpec.ofChange trigSinsSpec)) trigSinsCard

/-- THE TIED CARD OF 'ephemerislaw2.TrigArcs'. -/
def trigArcsCard : Claim7 := { stood := { row := trigArcsRow, standIns := [], harness := (true, "f1775a5dd0b08d0e1ca3045f96a330eb0a301e042d8b44cdd83b8f5755deb639"), looks := false }, kinds := [], alts := [], laidByText := true, laidKinds := [.data, .data, .data], laidTests := true, laidLooks := .later }
def TrigArcsCardSaid : Prop := Claim7.holds Tryd.pinned (.plain (OpenSpec.ofChange trigArcsSpec)) trigArcsCard

/-- THE TIED CARD OF 'ephemerislaw2.TrigRoots'. -/
def trigRootsCard : Claim7 := { stood := { row := trigRootsRow, standIns := [], harness := (true, "f1775a5dd0b08d0e1ca3045f96a330eb0a301e042d8b44cdd83b8f5755deb639"), looks := false }, kinds := [], alts := [], laidByText := true, laidKinds := [.data, .data, .data], laidTests := true, laidLooks := .later }
def TrigRootsCardSaid : Prop := Claim7.holds Tryd.pinned (.plain (OpenSpec.ofChange trigRootsSpec)) trigRootsCard

/-- THE TIED CARD OF 'ephemerislaw2.TrigArcSins'. -/
def trigArcSinsCard : Claim7 := { stood := { row := trigArcSinsRow, standIns := [], harness := (true, "f1775a5dd0b08d0e1ca3045f96a330eb0a301e042d8b44cdd83b8f5755deb639"), looks := false }, kinds := [], alts := [], laidByText := true, laidKinds := [.data, .data, .data], laidTests := true, laidLooks := .later }
def TrigArcSinsCardSaid : Prop := Claim7.holds Tryd.pinned (.plain (OpenSpec.ofChange trigArcSinsSpec)) trigArcSinsCard

/-- THE TIED CARD OF 'ephemerislaw2.TrigOvers'. -/
def trigOversCard : Claim7 := { stood := { row := trigOversRow, standIns := [], harness := (true, "f1775a5dd0b08d0e1ca3045f96a330eb0a301e042d8b44cdd83b8f5755deb639"), looks := false }, kinds := [], alts := [], laidByText := true, laidKinds := [.data, .data, .data], laidTests := true, laidLooks := .later }
def TrigOversCardSaid : Prop := Claim7.holds Tryd.pinned (.plain (OpenSpec.ofChange trigOversSpec)) trigOversCard

/-- THE TIED CARD OF 'ephemerislaw2.SeriesChecks'. -/
def seriesChecksCard : Claim7 := { stood := { row := seriesChecksRow, standIns := [], harness := (true, "f1775a5dd0b08d0e1ca3045f96a330eb0a301e042d8b44cdd83b8f5755deb639"), looks := false }, kinds := [], alts := [], laidByText := true, laidKinds := [.data, .data, .data], laidTests := true, laidLooks := .later }
def SeriesChecksCardSaid : Prop := Claim7.holds Tryd.pinned (.plain (OpenSpec.ofChange seriesChecksSpec)) seriesChecksCard

/-- THE TIED CARD OF 'ephemerislaw2.SeriesValues'. -/
def seriesValuesCard : Claim7 := { stood := { row := seriesValuesRow, standIns := [], harness := (true, "f1775a5dd0b08d0e1ca3045f96a330eb0a301e042d8b44cdd83b8f5755deb639"), looks := false }, kinds := [], alts := [], laidByText := true, laidKinds := [.data, .data, .data], laidTests := true, laidLooks := .later }
def SeriesValuesCardSaid : Prop := Claim7.holds Tryd.pinned (.plain (OpenSpec.ofChange seriesValuesSpec)) seriesValuesCard

/-- THE TIED CARD OF 'ephemerislaw2.SeriesAngles'. -/
def seriesAnglesCard : Claim7 := { stood := { row := seriesAnglesRow, standIns := [], harness := (true, "f1775a5dd0b08d0e1ca3045f96a330eb0a301e042d8b44cdd83b8f5755deb639"), looks := false }, kinds := [], alts := [], laidByText := true, laidKinds := [.data, .data, .data], laidTests := true, laidLooks := .later }
def SeriesAnglesCardSaid : Prop := Claim7.holds Tryd.pinned (.plain (OpenSpec.ofChange seriesAnglesSpec)) seriesAnglesCard

/-- THE TIED CARD OF 'ephemerislaw2.SeriesSlopes'. -/
def seriesSlopesCard : Claim7 := { stood := { row := seriesSlopesRow, standIns := [], harness := (true, "f1775a5dd0b08d0e1ca3045f96a330eb0a301e042d8b44cdd83b8f5755deb639"), looks := false }, kinds := [], alts := [], laidByText := true, laidKinds := [.data, .data, .data], laidTests := true, laidLooks := .later }
def SeriesSlopesCardSaid : Prop := Claim7.holds Tryd.pinned (.plain (OpenSpec.ofChange seriesSlopesSpec)) seriesSlopesCard

/-- THE TIED CARD OF 'ephemerislaw2.SeriesCrosses'. -/
def seriesCrossesCard : Claim7 := { stood := { row := seriesCrossesRow, standIns := [], harness := (true, "f1775a5dd0b08d0e1ca3045f96a330eb0a301e042d8b44cdd83b8f5755deb639"), looks := false }, kinds := [], alts := [], laidByText := true, laidKinds := [.data, .data, .data], laidTests := true, laidLooks := .later }
def SeriesCrossesCardSaid : Prop := Claim7.holds Tryd.pinned (.plain (OpenSpec.ofChange seriesCrossesSpec)) seriesCrossesCard

/-- THE TIED CARD OF 'ephemerislaw2.PlanetHelios'. -/
def planetHeliosCard : Claim7 := { stood := { row := planetHeliosRow, standIns := [], harness := (true, "f1775a5dd0b08d0e1ca3045f96a330eb0a301e042d8b44cdd83b8f5755deb639"), looks := false }, kinds := [], alts := [], laidByText := true, laidKinds := [.data, .data, .data, .data], laidTests := true, laidLooks := .later }
def PlanetHeliosCardSaid : Prop := Claim7.holds Tryd.pinned (.plain (OpenSpec.ofChange planetHeliosSpec)) planetHeliosCard

/-- THE TIED CARD OF 'ephemerislaw2.MoonLongitudes'. -/
def moonLongitudesCard : Claim7 := { stood := { row := moonLongitudesRow, standIns := [], harness := (true, "f1775a5dd0b08d0e1ca3045f96a330eb0a301e042d8b44cdd83b8f5755deb639"), looks := false }, kinds := [], alts := [], laidByText := true, laidKinds := [.data, .data, .data], laidTests := true, laidLooks := .later }
def MoonLongitudesCardSaid : Prop := Claim7.holds Tryd.pinned (.plain (OpenSpec.ofChange moonLongitudesSpec)) moonLongitudesCard

/-- THE SECOND FORM's CARD OF 'ephemerislaw2.TrigSins'. -/
def trigSinsUptoCard : Claim7 := { stood := { row := trigSinsUptoRow, standIns := [], harness := (true, "f1775a5dd0b08d0e1ca3045f96a330eb0a301e042d8b44cdd83b8f5755deb639"), looks := false }, kinds := [], alts := [], laidByText := true, laidKinds := [.data, .data, .data], laidTests := true, laidLooks := .later }
def TrigSinsUptoCardSaid : Prop := Claim7.holds Tryd.pinned (.plain (OpenSpec.upto trigSinsSpec)) trigSinsUptoCard

/-- THE SECOND FORM's CARD OF 'ephemerislaw2.TrigArcs'. -/
def trigArcsUptoCard : Claim7 := { stood := { row := trigArcsUptoRow, standIns := [], harness := (true, "f1775a5dd0b08d0e1ca3045f96a330eb0a301e042d8b44cdd83b8f5755deb639"), looks := false }, kinds := [], alts := [], laidByText := true, laidKinds := [.data, .data, .data], laidTests := true, laidLooks := .later }
def TrigArcsUptoCardSaid : Prop := Claim7.holds Tryd.pinned (.plain (OpenSpec.upto trigArcsSpec)) trigArcsUptoCard

/-- THE SECOND FORM's CARD OF 'ephemerislaw2.TrigRoots'. -/
def trigRootsUptoCard : Claim7 := { stood := { row := trigRootsUptoRow, standIns := [], harness := (true, "f1775a5dd0b08d0e1ca3045f96a330eb0a301e042d8b44cdd83b8f5755deb639"), looks := false }, kinds := [], alts := [], laidByText := true, laidKinds := [.data, .data, .data], laidTests := true, laidLooks := .later }
def TrigRootsUptoCardSaid : Prop := Claim7.holds Tryd.pinned (.plain (OpenSpec.upto trigRootsSpec)) trigRootsUptoCard

/-- THE SECOND FORM's CARD OF 'ephemerislaw2.TrigArcSins'. -/
def trigArcSinsUptoCard : Claim7 := { stood := { row := trigArcSinsUptoRow, standIns := [], harness := (true, "f1775a5dd0b08d0e1ca3045f96a330eb0a301e042d8b44cdd83b8f5755deb639"), looks := false }, kinds := [], alts := [], laidByText := true, laidKinds := [.data, .data, .data], laidTests := true, laidLooks := .later }
def TrigArcSinsUptoCardSaid : Prop := Claim7.holds Tryd.pinned (.plain (OpenSpec.upto trigArcSinsSpec)) trigArcSinsUptoCard

/-- THE SECOND FORM's CARD OF 'ephemerislaw2.TrigOvers'. -/
def trigOversUptoCard : Claim7 := { stood := { row := trigOversUptoRow, standIns := [], harness := (true, "f1775a5dd0b08d0e1ca3045f96a330eb0a301e042d8b44cdd83b8f5755deb639"), looks := false }, kinds := [], alts := [], laidByText := true, laidKinds := [.data, .data, .data], laidTests := true, laidLooks := .later }
def TrigOversUptoCardSaid : Prop := Claim7.holds Tryd.pinned (.plain (OpenSpec.upto trigOversSpec)) trigOversUptoCard

/-- THE SECOND FORM's CARD OF 'ephemerislaw2.SeriesChecks'. -/
def seriesChecksUptoCard : Claim7 := { stood := { row := seriesChecksUptoRow, standIns := [], harness := (true, "f1775a5dd0b08d0e1ca3045f96a330eb0a301e042d8b44cdd83b8f5755deb639"), looks := false }, kinds := [], alts := [], laidByText := true, laidKinds := [.data, .data, .data], laidTests := true, laidLooks := .later }
def SeriesChecksUptoCardSaid : Prop := Claim7.holds Tryd.pinned (.plain (OpenSpec.upto seriesChecksSpec)) seriesChecksUptoCard

/-- THE SECOND FORM's CARD OF 'ephemerislaw2.SeriesValues'. -/
def seriesValuesUptoCard : Claim7 := { stood := { row := seriesValuesUptoRow, standIns := [], harness := (true, "f1775a5dd0b08d0e1ca3045f96a330eb0a301e042d8b44cdd83b8f5755deb639"), looks := false }, kinds := [], alts := [], laidByText := true, laidKinds := [.data, .data, .data], laidTests := true, laidLooks := .later }
def SeriesValuesUptoCardSaid : Prop := Claim7.holds Tryd.pinned (.plain (OpenSpec.upto seriesValuesSpec)) seriesValuesUptoCard

/-- THE SECOND FORM's CARD OF 'ephemerislaw2.SeriesAngles'. -/
def seriesAnglesUptoCard : Claim7 := { stood := { row := seriesAnglesUptoRow, standIns := [], harness := (true, "f1775a5dd0b08d0e1ca3045f96a330eb0a301e042d8b44cdd83b8f5755deb639"), looks := false }, kinds := [], alts := [], laidByText := true, laidKinds := [.data, .data, .data], laidTests := true, laidLooks := .later }
def SeriesAnglesUptoCardSaid : Prop := Claim7.holds Tryd.pinned (.plain (OpenSpec.upto seriesAnglesSpec)) seriesAnglesUptoCard

/-- THE SECOND FORM's CARD OF 'ephemerislaw2.SeriesSlopes'. -/
def seriesSlopesUptoCard : Claim7 := { stood := { row := seriesSlopesUptoRow, standIns := [], harness := (true, "f1775a5dd0b08d0e1ca3045f96a330eb0a301e042d8b44cdd83b8f5755deb639"), looks := false }, kinds := [], alts := [], laidByText := true, laidKinds := [.data, .data, .data], laidTests := true, laidLooks := .later }
def SeriesSlopesUptoCardSaid : Prop := Claim7.holds Tryd.pinned (.plain (OpenSpec.upto seriesSlopesSpec)) seriesSlopesUptoCard

/-- THE SECOND FORM's CARD OF 'ephemerislaw2.SeriesCrosses'. -/
def seriesCrossesUptoCard : Claim7 := { stood := { row := seriesCrossesUptoRow, standIns := [], harness := (true, "f1775a5dd0b08d0e1ca3045f96a330eb0a301e042d8b44cdd83b8f5755deb639"), looks := false }, kinds := [], alts := [], laidByText := true, laidKinds := [.data, .data, .data], laidTests := true, laidLooks := .later }
def SeriesCrossesUptoCardSaid : Prop := Claim7.holds Tryd.pinned (.plain (OpenSpec.upto seriesCrossesSpec)) seriesCrossesUptoCard

/-- THE SECOND FORM's CARD OF 'ephemerislaw2.PlanetHelios'. -/
def planetHeliosUptoCard : Claim7 := { stood := { row := planetHeliosUptoRow, standIns := [], harness := (true, "f1775a5dd0b08d0e1ca3045f96a330eb0a301e042d8b44cdd83b8f5755deb639"), looks := false }, kinds := [], alts := [], laidByText := true, laidKinds := [.data, .data, .data, .data], laidTests := true, laidLooks := .later }
def PlanetHeliosUptoCardSaid : Prop := Claim7.holds Tryd.pinned (.plain (OpenSpec.upto planetHeliosSpec)) planetHeliosUptoCard

/-- THE SECOND FORM's CARD OF 'ephemerislaw2.MoonLongitudes'. -/
def moonLongitudesUptoCard : Claim7 := { stood := { row := moonLongitudesUptoRow, standIns := [], harness := (true, "f1775a5dd0b08d0e1ca3045f96a330eb0a301e042d8b44cdd83b8f5755deb639"), looks := false }, kinds := [], alts := [], laidByText := true, laidKinds := [.data, .data, .data], laidTests := true, laidLooks := .later }
def MoonLongitudesUptoCardSaid : Prop := Claim7.holds Tryd.pinned (.plain (OpenSpec.upto moonLongitudesSpec)) moonLongitudesUptoCard
end Rows
end Go.Proofs.YtffnmfcaoldlhaaDoor
