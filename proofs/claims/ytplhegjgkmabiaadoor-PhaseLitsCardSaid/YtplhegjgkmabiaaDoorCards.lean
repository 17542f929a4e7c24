/-
  DERIVED. GIVEN WITH THE SEED: THE CARDS: each row of YtplhegjgkmabiaaDoorRows.lean that lists a variable, with what it lists TIED to the program's text (the seventh form; the later family's looks); each row that meets fmt, with fmt's text TOLD by the authors' own Lean function (tested against real Go, not proved from fmt's source: count such statements apart). THE CARD IS WHAT COUNTS. Prove the row's statement (the work); the ties are given (YtplhegjgkmabiaaDoorTie.lean); close each card by the builder's one call (the guide's Derived/Test/ToyasCard.lean, 'card_holds'). Laid BY PROGRAM, IN A SANDBOX (cutbox-door.mjs). By AI agents, Wed Nov 11 2026. No macro, syntax, notation, axiom, sorry.
-/
import Derived.Test.YtplhegjgkmabiaaDoorRows
import GoSem.ClaimSeven
namespace Go.Proofs.YtplhegjgkmabiaaDoor
namespace Rows

/-- THE TIED CARD OF 'ephemerislaw2.TideHeights'. -/
def tideHeightsCard : Claim7 := { stood := { row := tideHeightsRow, standIns := [], harness := (true, "ecdceb05b71132be20442fbd8c61b6fba854943becebc5f258beacc215182380"), looks := false }, kinds := [], alts := [], laidByText := true, laidKinds := [.data, .data, .data], laidTests := true, laidLooks := .later }
def TideHeightsCardSaid : Prop := Claim7.holds Tryd.pinned (.plain (OpenSpec.ofChange tideHeightsSpec)) tideHeightsCard

/-- THE TIED CARD OF 'ephemerislaw2.TideEnds'. -/
def tideEndsCard : Claim7 := { stood := { row := tideEndsRow, standIns := [], harness := (true, "ecdceb05b71132be20442fbd8c61b6fba854943becebc5f258beacc215182380"), looks := false }, kinds := [], alts := [], laidByText := true, laidKinds := [.data, .data, .data], laidTests := true, laidLooks := .later }
def TideEndsCardSaid : Prop := Claim7.holds Tryd.pinned (.plain (OpenSpec.ofChange tideEndsSpec)) tideEndsCard

/-- THE TIED CARD OF 'ephemerislaw2.SeasonFinds'. -/
def seasonFindsCard : Claim7 := { stood := { row := seasonFindsRow, standIns := [], harness := (true, "ecdceb05b71132be20442fbd8c61b6fba854943becebc5f258beacc215182380"), looks := false }, kinds := [], alts := [], laidByText := true, laidKinds := [.data, .data, .data], laidTests := true, laidLooks := .later }
def SeasonFindsCardSaid : Prop := Claim7.holds Tryd.pinned (.plain (OpenSpec.ofChange seasonFindsSpec)) seasonFindsCard

/-- THE TIED CARD OF 'ephemerislaw2.SeasonNexts'. -/
def seasonNextsCard : Claim7 := { stood := { row := seasonNextsRow, standIns := [], harness := (true, "ecdceb05b71132be20442fbd8c61b6fba854943becebc5f258beacc215182380"), looks := false }, kinds := [], alts := [], laidByText := true, laidKinds := [.data, .data, .data], laidTests := true, laidLooks := .later }
def SeasonNextsCardSaid : Prop := Claim7.holds Tryd.pinned (.plain (OpenSpec.ofChange seasonNextsSpec)) seasonNextsCard

/-- THE TIED CARD OF 'ephemerislaw2.PhaseFinds'. -/
def phaseFindsCard : Claim7 := { stood := { row := phaseFindsRow, standIns := [], harness := (true, "ecdceb05b71132be20442fbd8c61b6fba854943becebc5f258beacc215182380"), looks := false }, kinds := [], alts := [], laidByText := true, laidKinds := [.data, .data, .data], laidTests := true, laidLooks := .later }
def PhaseFindsCardSaid : Prop := Claim7.holds Tryd.pinned (.plain (OpenSpec.ofChange phaseFindsSpec)) phaseFindsCard

/-- THE TIED CARD OF 'ephemerislaw2.PhaseNumbers'. -/
def phaseNumbersCard : Claim7 := { stood := { row := phaseNumbersRow, standIns := [], harness := (true, "ecdceb05b71132be20442fbd8c61b6fba854943becebc5f258beacc215182380"), looks := false }, kinds := [], alts := [], laidByText := true, laidKinds := [.data, .data, .data], laidTests := true, laidLooks := .later }
def PhaseNumbersCardSaid : Prop := Claim7.holds Tryd.pinned (.plain (OpenSpec.ofChange phaseNumbersSpec)) phaseNumbersCard

/-- THE TIED CARD OF 'ephemerislaw2.PhaseLits'. -/
def phaseLitsCard : Claim7 := { stood := { row := phaseLitsRow, standIns := [], harness := (true, "ecdceb05b71132be20442fbd8c61b6fba854943becebc5f258beacc215182380"), looks := false }, kinds := [], alts := [], laidByText := true, laidKinds := [.data, .data, .data], laidTests := true, laidLooks := .later }
def PhaseLitsCardSaid : Prop := Claim7.holds Tryd.pinned (.plain (OpenSpec.ofChange phaseLitsSpec)) phaseLitsCard

/-- THE TIED CARD OF 'ephemerislaw2.SharpenSeasons'. -/
def sharpenSeasonsCard : Claim7 := { stood := { row := sharpenSeasonsRow, standIns := [], harness := (true, "ecdceb05b71132be20442fbd8c61b6fba854943becebc5f258beacc215182380"), looks := false }, kinds := [], alts := [], laidByText := true, laidKinds := [.data, .data, .data], laidTests := true, laidLooks := .later }
def SharpenSeasonsCardSaid : Prop := Claim7.holds Tryd.pinned (.plain (OpenSpec.ofChange sharpenSeasonsSpec)) sharpenSeasonsCard

/-- THE TIED CARD OF 'ephemerislaw2.SharpenPhases'. -/
def sharpenPhasesCard : Claim7 := { stood := { row := sharpenPhasesRow, standIns := [], harness := (true, "ecdceb05b71132be20442fbd8c61b6fba854943becebc5f258beacc215182380"), looks := false }, kinds := [], alts := [], laidByText := true, laidKinds := [.data, .data, .data], laidTests := true, laidLooks := .later }
def SharpenPhasesCardSaid : Prop := Claim7.holds Tryd.pinned (.plain (OpenSpec.ofChange sharpenPhasesSpec)) sharpenPhasesCard

/-- THE TIED CARD OF 'ephemerislaw2.SharpenEarliers'. -/
def sharpenEarliersCard : Claim7 := { stood := { row := sharpenEarliersRow, standIns := [], harness := (true, "ecdceb05b71132be20442fbd8c61b6fba854943becebc5f258beacc215182380"), looks := false }, kinds := [], alts := [], laidByText := true, laidKinds := [.data, .data, .data], laidTests := true, laidLooks := .later }
def SharpenEarliersCardSaid : Prop := Claim7.holds Tryd.pinned (.plain (OpenSpec.ofChange sharpenEarliersSpec)) sharpenEarliersCard

/-- THE TIED CARD OF 'ephemerislaw2.SharpenDecides'. -/
def sharpenDecidesCard : Claim7 := { stood := { row := sharpenDecidesRow, standIns := [], harness := (true, "ecdceb05b71132be20442fbd8c61b6fba854943becebc5f258beacc215182380"), looks := false }, kinds := [], alts := [], laidByText := true, laidKinds := [.data, .data, .data], laidTests := true, laidLooks := .later }
def SharpenDecidesCardSaid : Prop := Claim7.holds Tryd.pinned (.plain (OpenSpec.ofChange sharpenDecidesSpec)) sharpenDecidesCard

/-- THE TIED CARD OF 'ephemeristop.TopSums'. -/
def topSumsCard : Claim7 := { stood := { row := topSumsRow, standIns := [], harness := (true, "ecdceb05b71132be20442fbd8c61b6fba854943becebc5f258beacc215182380"), looks := false }, kinds := [], alts := [], laidByText := true, laidKinds := [.data, .data, .data], laidTests := true, laidLooks := .later }
def TopSumsCardSaid : Prop := Claim7.holds Tryd.pinned (.plain (OpenSpec.ofChange topSumsSpec)) topSumsCard

/-- THE SECOND FORM's CARD OF 'ephemerislaw2.TideHeights'. -/
def tideHeightsUptoCard : Claim7 := { stood := { row := tideHeightsUptoRow, standIns := [], harness := (true, "ecdceb05b71132be20442fbd8c61b6fba854943becebc5f258beacc215182380"), looks := false }, kinds := [], alts := [], laidByText := true, laidKinds := [.data, .data, .data], laidTests := true, laidLooks := .later }
def TideHeightsUptoCardSaid : Prop := Claim7.holds Tryd.pinned (.plain (OpenSpec.upto tideHeightsSpec)) tideHeightsUptoCard

/-- THE SECOND FORM's CARD OF 'ephemerislaw2.TideEnds'. -/
def tideEndsUptoCard : Claim7 := { stood := { row := tideEndsUptoRow, standIns := [], harness := (true, "ecdceb05b71132be20442fbd8c61b6fba854943becebc5f258beacc215182380"), looks := false }, kinds := [], alts := [], laidByText := true, laidKinds := [.data, .data, .data], laidTests := true, laidLooks := .later }
def TideEndsUptoCardSaid : Prop := Claim7.holds Tryd.pinned (.plain (OpenSpec.upto tideEndsSpec)) tideEndsUptoCard

/-- THE SECOND FORM's CARD OF 'ephemerislaw2.SeasonFinds'. -/
def seasonFindsUptoCard : Claim7 := { stood := { row := seasonFindsUptoRow, standIns := [], harness := (true, "ecdceb05b71132be20442fbd8c61b6fba854943becebc5f258beacc215182380"), looks := false }, kinds := [], alts := [], laidByText := true, laidKinds := [.data, .data, .data], laidTests := true, laidLooks := .later }
def SeasonFindsUptoCardSaid : Prop := Claim7.holds Tryd.pinned (.plain (OpenSpec.upto seasonFindsSpec)) seasonFindsUptoCard

/-- THE SECOND FORM's CARD OF 'ephemerislaw2.SeasonNexts'. -/
def seasonNextsUptoCard : Claim7 := { stood := { row := seasonNextsUptoRow, standIns := [], harness := (true, "ecdceb05b71132be20442fbd8c61b6fba854943becebc5f258beacc215182380"), looks := false }, kinds := [], alts := [], laidByText := true, laidKinds := [.data, .data, .data], laidTests := true, laidLooks := .later }
def SeasonNextsUptoCardSaid : Prop := Claim7.holds Tryd.pinned (.plain (OpenSpec.upto seasonNextsSpec)) seasonNextsUptoCard

/-- THE SECOND FORM's CARD OF 'ephemerislaw2.PhaseFinds'. -/
def phaseFindsUptoCard : Claim7 := { stood := { row := phaseFindsUptoRow, standIns := [], harness := (true, "ecdceb05b71132be20442fbd8c61b6fba854943becebc5f258beacc215182380"), looks := false }, kinds := [], alts := [], laidByText := true, laidKinds := [.data, .data, .data], laidTests := true, laidLooks := .later }
def PhaseFindsUptoCardSaid : Prop := Claim7.holds Tryd.pinned (.plain (OpenSpec.upto phaseFindsSpec)) phaseFindsUptoCard

/-- THE SECOND FORM's CARD OF 'ephemerislaw2.PhaseNumbers'. -/
def phaseNumbersUptoCard : Claim7 := { stood := { row := phaseNumbersUptoRow, standIns := [], harness := (true, "ecdceb05b71132be20442fbd8c61b6fba854943becebc5f258beacc215182380"), looks := false }, kinds := [], alts := [], laidByText := true, laidKinds := [.data, .data, .data], laidTests := true, laidLooks := .later }
def PhaseNumbersUptoCardSaid : Prop := Claim7.holds Tryd.pinned (.plain (OpenSpec.upto phaseNumbersSpec)) phaseNumbersUptoCard

/-- THE SECOND FORM's CARD OF 'ephemerislaw2.PhaseLits'. -/
def phaseLitsUptoCard : Claim7 := { stood := { row := phaseLitsUptoRow, standIns := [], harness := (true, "ecdceb05b71132be20442fbd8c61b6fba854943becebc5f258beacc215182380"), looks := false }, kinds := [], alts := [], laidByText := true, laidKinds := [.data, .data, .data], laidTests := true, laidLooks := .later }
def PhaseLitsUptoCardSaid : Prop := Claim7.holds Tryd.pinned (.plain (OpenSpec.upto phaseLitsSpec)) phaseLitsUptoCard

/-- THE SECOND FORM's CARD OF 'ephemerislaw2.SharpenSeasons'. -/
def sharpenSeasonsUptoCard : Claim7 := { stood := { row := sharpenSeasonsUptoRow, standIns := [], harness := (true, "ecdceb05b71132be20442fbd8c61b6fba854943becebc5f258beacc215182380"), looks := false }, kinds := [], alts := [], laidByText := true, laidKinds := [.data, .data, .data], laidTests := true, laidLooks := .later }
def SharpenSeasonsUptoCardSaid : Prop := Claim7.holds Tryd.pinned (.plain (OpenSpec.upto sharpenSeasonsSpec)) sharpenSeasonsUptoCard

/-- THE SECOND FORM's CARD OF 'ephemerislaw2.SharpenPhases'. -/
def sharpenPhasesUptoCard : Claim7 := { stood := { row := sharpenPhasesUptoRow, standIns := [], harness := (true, "ecdceb05b71132be20442fbd8c61b6fba854943becebc5f258beacc215182380"), looks := false }, kinds := [], alts := [], laidByText := true, laidKinds := [.data, .data, .data], laidTests := true, laidLooks := .later }
def SharpenPhasesUptoCardSaid : Prop := Claim7.holds Tryd.pinned (.plain (OpenSpec.upto sharpenPhasesSpec)) sharpenPhasesUptoCard

/-- THE SECOND FORM's CARD OF 'ephemerislaw2.SharpenEarliers'. -/
def sharpenEarliersUptoCard : Claim7 := { stood := { row := sharpenEarliersUptoRow, standIns := [], harness := (true, "ecdceb05b71132be20442fbd8c61b6fba854943becebc5f258beacc215182380"), looks := false }, kinds := [], alts := [], laidByText := true, laidKinds := [.data, .data, .data], laidTests := true, laidLooks := .later }
def SharpenEarliersUptoCardSaid : Prop := Claim7.holds Tryd.pinned (.plain (OpenSpec.upto sharpenEarliersSpec)) sharpenEarliersUptoCard

/-- THE SECOND FORM's CARD OF 'ephemerislaw2.SharpenDecides'. -/
def sharpenDecidesUptoCard : Claim7 := { stood := { row := sharpenDecidesUptoRow, standIns := [], harness := (true, "ecdceb05b71132be20442fbd8c61b6fba854943becebc5f258beacc215182380"), looks := false }, kinds := [], alts := [], laidByText := true, laidKinds := [.data, .data, .data], laidTests := true, laidLooks := .later }
def SharpenDecidesUptoCardSaid : Prop := Claim7.holds Tryd.pinned (.plain (OpenSpec.upto sharpenDecidesSpec)) sharpenDecidesUptoCard

/-- THE SECOND FORM's CARD OF 'ephemeristop.TopSums'. -/
def topSumsUptoCard : Claim7 := { stood := { row := topSumsUptoRow, standIns := [], harness := (true, "ecdceb05b71132be20442fbd8c61b6fba854943becebc5f258beacc215182380"), looks := false }, kinds := [], alts := [], laidByText := true, laidKinds := [.data, .data, .data], laidTests := true, laidLooks := .later }
def TopSumsUptoCardSaid : Prop := Claim7.holds Tryd.pinned (.plain (OpenSpec.upto topSumsSpec)) topSumsUptoCard
end Rows
end Go.Proofs.YtplhegjgkmabiaaDoor
