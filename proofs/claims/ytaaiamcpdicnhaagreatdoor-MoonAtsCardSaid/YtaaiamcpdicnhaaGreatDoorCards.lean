/-
  DERIVED. GIVEN WITH THE SEED: THE CARDS: each row of YtaaiamcpdicnhaaGreatDoorRows.lean that lists a variable, with what it lists TIED to the program's text (the seventh form; the later family's looks); each row that meets fmt, with fmt's text TOLD by the authors' own Lean function (tested against real Go, not proved from fmt's source: count such statements apart). THE CARD IS WHAT COUNTS. Prove the row's statement (the work); the ties are given (YtaaiamcpdicnhaaGreatDoorTie.lean); close each card by the builder's one call (the guide's Derived/Test/ToyasCard.lean, 'card_holds'). Laid BY PROGRAM, IN A SANDBOX (cutbox-door.mjs). By AI agents, Wed Nov 11 2026. No macro, syntax, notation, axiom, sorry.
-/
import Derived.Test.YtaaiamcpdicnhaaGreatDoorRows
import GoSem.ClaimSeven
namespace Go.Proofs.YtaaiamcpdicnhaaGreatDoor
namespace Rows

/-- THE TIED CARD OF 'ephemerislaw2.SunAts'. -/
def sunAtsCard : Claim7 := { stood := { row := sunAtsRow, standIns := [], harness := (true, "a8596c7a0822d43c4309f02fe85c1b3f7579610b277fd16469b146304ff01b76"), looks := false }, kinds := [], alts := [], laidByText := true, laidKinds := [.data, .data, .data], laidTests := true, laidLooks := .later }
def SunAtsCardSaid : Prop := Claim7.holds Tryz.pinned (.plain (OpenSpec.ofChange sunAtsSpec)) sunAtsCard

/-- THE TIED CARD OF 'ephemerislaw2.MoonAts'. -/
def moonAtsCard : Claim7 := { stood := { row := moonAtsRow, standIns := [], harness := (true, "a8596c7a0822d43c4309f02fe85c1b3f7579610b277fd16469b146304ff01b76"), looks := false }, kinds := [], alts := [], laidByText := true, laidKinds := [.data, .data, .data], laidTests := true, laidLooks := .later }
def MoonAtsCardSaid : Prop := Claim7.holds Tryz.pinned (.plain (OpenSpec.ofChange moonAtsSpec)) moonAtsCard

/-- THE SECOND FORM's CARD OF 'ephemerislaw2.SunAts'. -/
def sunAtsUptoCard : Claim7 := { stood := { row := sunAtsUptoRow, standIns := [], harness := (true, "a8596c7a0822d43c4309f02fe85c1b3f7579610b277fd16469b146304ff01b76"), looks := false }, kinds := [], alts := [], laidByText := true, laidKinds := [.data, .data, .data], laidTests := true, laidLooks := .later }
def SunAtsUptoCardSaid : Prop := Claim7.holds Tryz.pinned (.plain (OpenSpec.upto sunAtsSpec)) sunAtsUptoCard

/-- THE SECOND FORM's CARD OF 'ephemerislaw2.MoonAts'. -/
def moonAtsUptoCard : Claim7 := { stood := { row := moonAtsUptoRow, standIns := [], harness := (true, "a8596c7a0822d43c4309f02fe85c1b3f7579610b277fd16469b146304ff01b76"), looks := false }, kinds := [], alts := [], laidByText := true, laidKinds := [.data, .data, .data], laidTests := true, laidLooks := .later }
def MoonAtsUptoCardSaid : Prop := Claim7.holds Tryz.pinned (.plain (OpenSpec.upto moonAtsSpec)) moonAtsUptoCard
end Rows
end Go.Proofs.YtaaiamcpdicnhaaGreatDoor
