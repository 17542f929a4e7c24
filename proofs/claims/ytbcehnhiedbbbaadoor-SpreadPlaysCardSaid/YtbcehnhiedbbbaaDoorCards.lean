/-
  DERIVED. GIVEN WITH THE SEED: THE CARDS: each row of YtbcehnhiedbbbaaDoorRows.lean that lists a variable, with what it lists TIED to the program's text (the seventh form; the later family's looks); each row that meets fmt, with fmt's text TOLD by the authors' own Lean function (tested against real Go, not proved from fmt's source: count such statements apart). THE CARD IS WHAT COUNTS. Prove the row's statement (the work); the ties are given (YtbcehnhiedbbbaaDoorTie.lean); close each card by the builder's one call (the guide's Derived/Test/ToyasCard.lean, 'card_holds'). Laid BY PROGRAM, IN A SANDBOX (cutbox-door.mjs). By AI agents, Wed Nov 11 2026. No macro, syntax, notation, axiom, sorry.
-/
import Derived.Test.YtbcehnhiedbbbaaDoorRows
import GoSem.ClaimSeven
namespace Go.Proofs.YtbcehnhiedbbbaaDoor
namespace Rows

/-- THE TIED CARD OF 'ephemerislaw2.NoticeSigns'. -/
def noticeSignsCard : Claim7 := { stood := { row := noticeSignsRow, standIns := [], harness := (true, "0e24981b4e80addc1088712296bf11ac354386bd133b17e84d2a1b6c8aaf3c31"), looks := true }, kinds := [], alts := [], laidByText := true, laidKinds := [.data, .data, .data], laidTests := true, laidLooks := .later }
def NoticeSignsCardSaid : Prop := Claim7.holds Tryd.pinned (.plain (OpenSpec.ofChange noticeSignsSpec)) noticeSignsCard

/-- THE TIED CARD OF 'ephemerislaw2.NoticeWrites'. -/
def noticeWritesCard : Claim7 := { stood := { row := noticeWritesRow, standIns := [], harness := (true, "0e24981b4e80addc1088712296bf11ac354386bd133b17e84d2a1b6c8aaf3c31"), looks := true }, kinds := [], alts := [], laidByText := true, laidKinds := [.data, .data, .data, .sentinel, .sentinel], laidTests := true, laidLooks := .later }
def NoticeWritesCardSaid : Prop := Claim7.holds Tryd.pinned (.plain (OpenSpec.ofChange noticeWritesSpec)) noticeWritesCard

/-- THE TIED CARD OF 'ephemerislaw2.NoticeReads'. -/
def noticeReadsCard : Claim7 := { stood := { row := noticeReadsRow, standIns := [], harness := (true, "0e24981b4e80addc1088712296bf11ac354386bd133b17e84d2a1b6c8aaf3c31"), looks := true }, kinds := [], alts := [], laidByText := true, laidKinds := [.data, .data, .data, .sentinel, .sentinel], laidTests := true, laidLooks := .later }
def NoticeReadsCardSaid : Prop := Claim7.holds Tryd.pinned (.plain (OpenSpec.ofChange noticeReadsSpec)) noticeReadsCard

/-- THE TIED CARD OF 'ephemerislaw2.SpreadPlays'. -/
def spreadPlaysCard : Claim7 := { stood := { row := spreadPlaysRow, standIns := [], harness := (true, "0e24981b4e80addc1088712296bf11ac354386bd133b17e84d2a1b6c8aaf3c31"), looks := true }, kinds := [], alts := [], laidByText := true, laidKinds := [.data, .data, .data], laidTests := true, laidLooks := .later }
def SpreadPlaysCardSaid : Prop := Claim7.holds Tryd.pinned (.plain (OpenSpec.ofChange spreadPlaysSpec)) spreadPlaysCard

/-- THE TIED CARD OF 'ephemerislaw2.FigureTexts'. -/
def figureTextsCard : Claim7 := { stood := { row := figureTextsRow, standIns := [], harness := (true, "0e24981b4e80addc1088712296bf11ac354386bd133b17e84d2a1b6c8aaf3c31"), looks := true }, kinds := [], alts := [], laidByText := true, laidKinds := [.data, .data, .data, .data, .sentinel, .sentinel, .pinned], laidTests := true, laidLooks := .later }
def FigureTextsCardSaid : Prop := Claim7.holds Tryd.pinned (.plain (OpenSpec.ofChange figureTextsSpec)) figureTextsCard

/-- THE TIED CARD OF 'ephemerislaw2.FigureReads'. -/
def figureReadsCard : Claim7 := { stood := { row := figureReadsRow, standIns := [], harness := (true, "0e24981b4e80addc1088712296bf11ac354386bd133b17e84d2a1b6c8aaf3c31"), looks := true }, kinds := [], alts := [], laidByText := true, laidKinds := [.data, .data, .data, .data, .sentinel, .sentinel, .pinned], laidTests := true, laidLooks := .later }
def FigureReadsCardSaid : Prop := Claim7.holds Tryd.pinned (.plain (OpenSpec.ofChange figureReadsSpec)) figureReadsCard

/-- THE TIED CARD OF 'ephemerislaw2.FigureBoxes'. -/
def figureBoxesCard : Claim7 := { stood := { row := figureBoxesRow, standIns := [], harness := (true, "0e24981b4e80addc1088712296bf11ac354386bd133b17e84d2a1b6c8aaf3c31"), looks := true }, kinds := [], alts := [], laidByText := true, laidKinds := [.data, .data, .data, .data, .sentinel, .sentinel, .pinned], laidTests := true, laidLooks := .later }
def FigureBoxesCardSaid : Prop := Claim7.holds Tryd.pinned (.plain (OpenSpec.ofChange figureBoxesSpec)) figureBoxesCard

/-- THE TIED CARD OF 'ephemerislaw2.FigureMaps'. -/
def figureMapsCard : Claim7 := { stood := { row := figureMapsRow, standIns := [], harness := (true, "0e24981b4e80addc1088712296bf11ac354386bd133b17e84d2a1b6c8aaf3c31"), looks := true }, kinds := [], alts := [], laidByText := true, laidKinds := [.data, .data, .data, .data, .sentinel, .sentinel, .pinned], laidTests := true, laidLooks := .later }
def FigureMapsCardSaid : Prop := Claim7.holds Tryd.pinned (.plain (OpenSpec.ofChange figureMapsSpec)) figureMapsCard

/-- THE SECOND FORM's CARD OF 'ephemerislaw2.NoticeSigns'. -/
def noticeSignsUptoCard : Claim7 := { stood := { row := noticeSignsUptoRow, standIns := [], harness := (true, "0e24981b4e80addc1088712296bf11ac354386bd133b17e84d2a1b6c8aaf3c31"), looks := true }, kinds := [], alts := [], laidByText := true, laidKinds := [.data, .data, .data], laidTests := true, laidLooks := .later }
def NoticeSignsUptoCardSaid : Prop := Claim7.holds Tryd.pinned (.plain (OpenSpec.upto noticeSignsSpec)) noticeSignsUptoCard

/-- THE SECOND FORM's CARD OF 'ephemerislaw2.NoticeWrites'. -/
def noticeWritesUptoCard : Claim7 := { stood := { row := noticeWritesUptoRow, standIns := [], harness := (true, "0e24981b4e80addc1088712296bf11ac354386bd133b17e84d2a1b6c8aaf3c31"), looks := true }, kinds := [], alts := [], laidByText := true, laidKinds := [.data, .data, .data, .sentinel, .sentinel], laidTests := true, laidLooks := .later }
def NoticeWritesUptoCardSaid : Prop := Claim7.holds Tryd.pinned (.plain (OpenSpec.upto noticeWritesSpec)) noticeWritesUptoCard

/-- THE SECOND FORM's CARD OF 'ephemerislaw2.NoticeReads'. -/
def noticeReadsUptoCard : Claim7 := { stood := { row := noticeReadsUptoRow, standIns := [], harness := (true, "0e24981b4e80addc1088712296bf11ac354386bd133b17e84d2a1b6c8aaf3c31"), looks := true }, kinds := [], alts := [], laidByText := true, laidKinds := [.data, .data, .data, .sentinel, .sentinel], laidTests := true, laidLooks := .later }
def NoticeReadsUptoCardSaid : Prop := Claim7.holds Tryd.pinned (.plain (OpenSpec.upto noticeReadsSpec)) noticeReadsUptoCard

/-- THE SECOND FORM's CARD OF 'ephemerislaw2.SpreadPlays'. -/
def spreadPlaysUptoCard : Claim7 := { stood := { row := spreadPlaysUptoRow, standIns := [], harness := (true, "0e24981b4e80addc1088712296bf11ac354386bd133b17e84d2a1b6c8aaf3c31"), looks := true }, kinds := [], alts := [], laidByText := true, laidKinds := [.data, .data, .data], laidTests := true, laidLooks := .later }
def SpreadPlaysUptoCardSaid : Prop := Claim7.holds Tryd.pinned (.plain (OpenSpec.upto spreadPlaysSpec)) spreadPlaysUptoCard

/-- THE SECOND FORM's CARD OF 'ephemerislaw2.FigureTexts'. -/
def figureTextsUptoCard : Claim7 := { stood := { row := figureTextsUptoRow, standIns := [], harness := (true, "0e24981b4e80addc1088712296bf11ac354386bd133b17e84d2a1b6c8aaf3c31"), looks := true }, kinds := [], alts := [], laidByText := true, laidKinds := [.data, .data, .data, .data, .sentinel, .sentinel, .pinned], laidTests := true, laidLooks := .later }
def FigureTextsUptoCardSaid : Prop := Claim7.holds Tryd.pinned (.plain (OpenSpec.upto figureTextsSpec)) figureTextsUptoCard

/-- THE SECOND FORM's CARD OF 'ephemerislaw2.FigureReads'. -/
def figureReadsUptoCard : Claim7 := { stood := { row := figureReadsUptoRow, standIns := [], harness := (true, "0e24981b4e80addc1088712296bf11ac354386bd133b17e84d2a1b6c8aaf3c31"), looks := true }, kinds := [], alts := [], laidByText := true, laidKinds := [.data, .data, .data, .data, .sentinel, .sentinel, .pinned], laidTests := true, laidLooks := .later }
def FigureReadsUptoCardSaid : Prop := Claim7.holds Tryd.pinned (.plain (OpenSpec.upto figureReadsSpec)) figureReadsUptoCard

/-- THE SECOND FORM's CARD OF 'ephemerislaw2.FigureBoxes'. -/
def figureBoxesUptoCard : Claim7 := { stood := { row := figureBoxesUptoRow, standIns := [], harness := (true, "0e24981b4e80addc1088712296bf11ac354386bd133b17e84d2a1b6c8aaf3c31"), looks := true }, kinds := [], alts := [], laidByText := true, laidKinds := [.data, .data, .data, .data, .sentinel, .sentinel, .pinned], laidTests := true, laidLooks := .later }
def FigureBoxesUptoCardSaid : Prop := Claim7.holds Tryd.pinned (.plain (OpenSpec.upto figureBoxesSpec)) figureBoxesUptoCard

/-- THE SECOND FORM's CARD OF 'ephemerislaw2.FigureMaps'. -/
def figureMapsUptoCard : Claim7 := { stood := { row := figureMapsUptoRow, standIns := [], harness := (true, "0e24981b4e80addc1088712296bf11ac354386bd133b17e84d2a1b6c8aaf3c31"), looks := true }, kinds := [], alts := [], laidByText := true, laidKinds := [.data, .data, .data, .data, .sentinel, .sentinel, .pinned], laidTests := true, laidLooks := .later }
def FigureMapsUptoCardSaid : Prop := Claim7.holds Tryd.pinned (.plain (OpenSpec.upto figureMapsSpec)) figureMapsUptoCard
end Rows
end Go.Proofs.YtbcehnhiedbbbaaDoor
