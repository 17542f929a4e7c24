/-
  No cell of these rows narrows 'for every input' (looked for: loops, veiled, ifaces, maps, wideKeys, modest, calm, conditions, laid).
  DERIVED. THE GIVEN ROWS OF THIS SEAT. 11 by the template 'for every input the law returns true; each argument reads behind the call as it read before'; 0 by the template 'total and deterministic' (their statements: YtdpddidfdifbhaaTotals.lean).
  GIVEN WITH THE SEED: the statements are not yours to turn. If you find one false, say at which input.
  Laid BY PROGRAM, IN A SANDBOX (cutbox-rows.mjs): the forced cells as the released guide's own fill.sh prints them over the translation 242a5731f4355d54… (all of the seat's roots in one cut). By AI agents, Wed Nov 11 2026. No macro, syntax, notation, axiom, sorry.
-/
import Derived.Test.YtdpddidfdifbhaaChecked
import GoSem.Claim
import GoSem.ClaimJoined
import GoSem.ClaimMapViews
import Derived.JoinedTies
import Derived.KernelRfl
namespace Go.Proofs.Ytdpddidfdifbhaa
/- THE CELL 'sum', in the pinned program and in every row, IS THE sha256 OF THE DUMP (.gsa) THAT YtdpddidfdifbhaaProg.lean LOADS. Nothing in Lean hashes anything: it is a label: what it is worth is what the hold of that sum in a sandbox is worth. -/
noncomputable def Try.pinned : Pinned := { name := "ytdpddidfdifbhaa", sum := "242a5731f4355d54abbde65d63b7ac31d066a6831495f4be045818cc4c095ff3", checked := Try.checked }
namespace Rows
def none {H : Type} : Left H := { results := [], args := [] }

/-- 'ephemerislaw2.AgreeMosts': WHATEVER THE INPUT: true; the input reads as it did. -/
def agreeMostsSpec : ChangeSpec := { name := "agreeMosts", fn := fun _ => fun
  | [d] => { results := [.lit (.bool true)], args := [d] }
  | _ => none }
def agreeMostsRow : OpenClaim := { program := "ytdpddidfdifbhaa", sum := "242a5731f4355d54abbde65d63b7ac31d066a6831495f4be045818cc4c095ff3", func := "ephemeris/ephemerislaw2.AgreeMosts", spec := "agreeMosts", apart := false }
def AgreeMostsSaid : Prop := agreeMostsRow.holds Try.pinned (OpenSpec.ofChange agreeMostsSpec)

/-- ITS FALSE NEIGHBOUR: 'it returns false'. Refute it at one input. -/
def agreeMostsWrong : ChangeSpec := { name := "agreeMosts", fn := fun _ => fun
  | [d] => { results := [.lit (.bool false)], args := [d] }
  | _ => none }
def AgreeMostsWrongFalsely : Prop := agreeMostsRow.holds Try.pinned (OpenSpec.ofChange agreeMostsWrong)

/-- 'ephemerislaw2.AgreeWithins': WHATEVER THE INPUT: true; the input reads as it did. -/
def agreeWithinsSpec : ChangeSpec := { name := "agreeWithins", fn := fun _ => fun
  | [d1, d2] => { results := [.lit (.bool true)], args := [d1, d2] }
  | _ => none }
def agreeWithinsRow : OpenClaim := { program := "ytdpddidfdifbhaa", sum := "242a5731f4355d54abbde65d63b7ac31d066a6831495f4be045818cc4c095ff3", func := "ephemeris/ephemerislaw2.AgreeWithins", spec := "agreeWithins", apart := false }
def AgreeWithinsSaid : Prop := agreeWithinsRow.holds Try.pinned (OpenSpec.ofChange agreeWithinsSpec)

/-- ITS FALSE NEIGHBOUR: 'it returns false'. Refute it at one input. -/
def agreeWithinsWrong : ChangeSpec := { name := "agreeWithins", fn := fun _ => fun
  | [d1, d2] => { results := [.lit (.bool false)], args := [d1, d2] }
  | _ => none }
def AgreeWithinsWrongFalsely : Prop := agreeWithinsRow.holds Try.pinned (OpenSpec.ofChange agreeWithinsWrong)

/-- 'ephemerislaw2.AgreeOutsides': WHATEVER THE INPUT: true; the input reads as it did. -/
def agreeOutsidesSpec : ChangeSpec := { name := "agreeOutsides", fn := fun _ => fun
  | [d] => { results := [.lit (.bool true)], args := [d] }
  | _ => none }
def agreeOutsidesRow : OpenClaim := { program := "ytdpddidfdifbhaa", sum := "242a5731f4355d54abbde65d63b7ac31d066a6831495f4be045818cc4c095ff3", func := "ephemeris/ephemerislaw2.AgreeOutsides", spec := "agreeOutsides", apart := false }
def AgreeOutsidesSaid : Prop := agreeOutsidesRow.holds Try.pinned (OpenSpec.ofChange agreeOutsidesSpec)

/-- ITS FALSE NEIGHBOUR: 'it returns false'. Refute it at one input. -/
def agreeOutsidesWrong : ChangeSpec := { name := "agreeOutsides", fn := fun _ => fun
  | [d] => { results := [.lit (.bool false)], args := [d] }
  | _ => none }
def AgreeOutsidesWrongFalsely : Prop := agreeOutsidesRow.holds Try.pinned (OpenSpec.ofChange agreeOutsidesWrong)

/-- 'ephemerislaw2.ChronFits': WHATEVER THE INPUT: true; the input reads as it did. -/
def chronFitsSpec : ChangeSpec := { name := "chronFits", fn := fun _ => fun
  | [d1, d2, d3] => { results := [.lit (.bool true)], args := [d1, d2, d3] }
  | _ => none }
def chronFitsRow : OpenClaim := { program := "ytdpddidfdifbhaa", sum := "242a5731f4355d54abbde65d63b7ac31d066a6831495f4be045818cc4c095ff3", func := "ephemeris/ephemerislaw2.ChronFits", spec := "chronFits", apart := false }
def ChronFitsSaid : Prop := chronFitsRow.holds Try.pinned (OpenSpec.ofChange chronFitsSpec)

/-- ITS FALSE NEIGHBOUR: 'it returns false'. Refute it at one input. -/
def chronFitsWrong : ChangeSpec := { name := "chronFits", fn := fun _ => fun
  | [d1, d2, d3] => { results := [.lit (.bool false)], args := [d1, d2, d3] }
  | _ => none }
def ChronFitsWrongFalsely : Prop := chronFitsRow.holds Try.pinned (OpenSpec.ofChange chronFitsWrong)

/-- 'ephemerislaw2.ChronTightests': WHATEVER THE INPUT: true; the input reads as it did. -/
def chronTightestsSpec : ChangeSpec := { name := "chronTightests", fn := fun _ => fun
  | [d1, d2] => { results := [.lit (.bool true)], args := [d1, d2] }
  | _ => none }
def chronTightestsRow : OpenClaim := { program := "ytdpddidfdifbhaa", sum := "242a5731f4355d54abbde65d63b7ac31d066a6831495f4be045818cc4c095ff3", func := "ephemeris/ephemerislaw2.ChronTightests", spec := "chronTightests", apart := false }
def ChronTightestsSaid : Prop := chronTightestsRow.holds Try.pinned (OpenSpec.ofChange chronTightestsSpec)

/-- ITS FALSE NEIGHBOUR: 'it returns false'. Refute it at one input. -/
def chronTightestsWrong : ChangeSpec := { name := "chronTightests", fn := fun _ => fun
  | [d1, d2] => { results := [.lit (.bool false)], args := [d1, d2] }
  | _ => none }
def ChronTightestsWrongFalsely : Prop := chronTightestsRow.holds Try.pinned (OpenSpec.ofChange chronTightestsWrong)

/-- 'ephemerislaw2.ChronEarlys': WHATEVER THE INPUT: true; the input reads as it did. -/
def chronEarlysSpec : ChangeSpec := { name := "chronEarlys", fn := fun _ => fun
  | [d1, d2, d3, d4] => { results := [.lit (.bool true)], args := [d1, d2, d3, d4] }
  | _ => none }
def chronEarlysRow : OpenClaim := { program := "ytdpddidfdifbhaa", sum := "242a5731f4355d54abbde65d63b7ac31d066a6831495f4be045818cc4c095ff3", func := "ephemeris/ephemerislaw2.ChronEarlys", spec := "chronEarlys", apart := false }
def ChronEarlysSaid : Prop := chronEarlysRow.holds Try.pinned (OpenSpec.ofChange chronEarlysSpec)

/-- ITS FALSE NEIGHBOUR: 'it returns false'. Refute it at one input. -/
def chronEarlysWrong : ChangeSpec := { name := "chronEarlys", fn := fun _ => fun
  | [d1, d2, d3, d4] => { results := [.lit (.bool false)], args := [d1, d2, d3, d4] }
  | _ => none }
def ChronEarlysWrongFalsely : Prop := chronEarlysRow.holds Try.pinned (OpenSpec.ofChange chronEarlysWrong)

/-- 'ephemerislaw2.ContradictLeasts': WHATEVER THE INPUT: true; the input reads as it did. -/
def contradictLeastsSpec : ChangeSpec := { name := "contradictLeasts", fn := fun _ => fun
  | [d1, d2] => { results := [.lit (.bool true)], args := [d1, d2] }
  | _ => none }
def contradictLeastsRow : OpenClaim := { program := "ytdpddidfdifbhaa", sum := "242a5731f4355d54abbde65d63b7ac31d066a6831495f4be045818cc4c095ff3", func := "ephemeris/ephemerislaw2.ContradictLeasts", spec := "contradictLeasts", apart := false }
def ContradictLeastsSaid : Prop := contradictLeastsRow.holds Try.pinned (OpenSpec.ofChange contradictLeastsSpec)

/-- ITS FALSE NEIGHBOUR: 'it returns false'. Refute it at one input. -/
def contradictLeastsWrong : ChangeSpec := { name := "contradictLeasts", fn := fun _ => fun
  | [d1, d2] => { results := [.lit (.bool false)], args := [d1, d2] }
  | _ => none }
def ContradictLeastsWrongFalsely : Prop := contradictLeastsRow.holds Try.pinned (OpenSpec.ofChange contradictLeastsWrong)

/-- 'ephemerislaw2.ContradictImplieds': WHATEVER THE INPUT: true; the input reads as it did. -/
def contradictImpliedsSpec : ChangeSpec := { name := "contradictImplieds", fn := fun _ => fun
  | [d1, d2, d3] => { results := [.lit (.bool true)], args := [d1, d2, d3] }
  | _ => none }
def contradictImpliedsRow : OpenClaim := { program := "ytdpddidfdifbhaa", sum := "242a5731f4355d54abbde65d63b7ac31d066a6831495f4be045818cc4c095ff3", func := "ephemeris/ephemerislaw2.ContradictImplieds", spec := "contradictImplieds", apart := false }
def ContradictImpliedsSaid : Prop := contradictImpliedsRow.holds Try.pinned (OpenSpec.ofChange contradictImpliedsSpec)

/-- ITS FALSE NEIGHBOUR: 'it returns false'. Refute it at one input. -/
def contradictImpliedsWrong : ChangeSpec := { name := "contradictImplieds", fn := fun _ => fun
  | [d1, d2, d3] => { results := [.lit (.bool false)], args := [d1, d2, d3] }
  | _ => none }
def ContradictImpliedsWrongFalsely : Prop := contradictImpliedsRow.holds Try.pinned (OpenSpec.ofChange contradictImpliedsWrong)

/-- 'ephemerislaw2.ContradictChangeds': WHATEVER THE INPUT: true; the input reads as it did. -/
def contradictChangedsSpec : ChangeSpec := { name := "contradictChangeds", fn := fun _ => fun
  | [d1, d2, d3] => { results := [.lit (.bool true)], args := [d1, d2, d3] }
  | _ => none }
def contradictChangedsRow : OpenClaim := { program := "ytdpddidfdifbhaa", sum := "242a5731f4355d54abbde65d63b7ac31d066a6831495f4be045818cc4c095ff3", func := "ephemeris/ephemerislaw2.ContradictChangeds", spec := "contradictChangeds", apart := false }
def ContradictChangedsSaid : Prop := contradictChangedsRow.holds Try.pinned (OpenSpec.ofChange contradictChangedsSpec)

/-- ITS FALSE NEIGHBOUR: 'it returns false'. Refute it at one input. -/
def contradictChangedsWrong : ChangeSpec := { name := "contradictChangeds", fn := fun _ => fun
  | [d1, d2, d3] => { results := [.lit (.bool false)], args := [d1, d2, d3] }
  | _ => none }
def ContradictChangedsWrongFalsely : Prop := contradictChangedsRow.holds Try.pinned (OpenSpec.ofChange contradictChangedsWrong)

/-- 'ephemerislaw2.DisciplinePlays': WHATEVER THE INPUT: true; the input reads as it did. -/
def disciplinePlaysSpec : ChangeSpec := { name := "disciplinePlays", fn := fun _ => fun
  | [d1, d2, d3, d4, d5] => { results := [.lit (.bool true)], args := [d1, d2, d3, d4, d5] }
  | _ => none }
def disciplinePlaysRow : OpenClaim := { program := "ytdpddidfdifbhaa", sum := "242a5731f4355d54abbde65d63b7ac31d066a6831495f4be045818cc4c095ff3", func := "ephemeris/ephemerislaw2.DisciplinePlays", spec := "disciplinePlays", apart := false }
def DisciplinePlaysSaid : Prop := disciplinePlaysRow.holds Try.pinned (OpenSpec.ofChange disciplinePlaysSpec)

/-- ITS FALSE NEIGHBOUR: 'it returns false'. Refute it at one input. -/
def disciplinePlaysWrong : ChangeSpec := { name := "disciplinePlays", fn := fun _ => fun
  | [d1, d2, d3, d4, d5] => { results := [.lit (.bool false)], args := [d1, d2, d3, d4, d5] }
  | _ => none }
def DisciplinePlaysWrongFalsely : Prop := disciplinePlaysRow.holds Try.pinned (OpenSpec.ofChange disciplinePlaysWrong)

/-- 'ephemeristop.TopChron': WHATEVER THE INPUT: true; the input reads as it did. -/
def topChronSpec : ChangeSpec := { name := "topChron", fn := fun _ => fun
  | [d1, d2, d3, d4] => { results := [.lit (.bool true)], args := [d1, d2, d3, d4] }
  | _ => none }
def topChronRow : OpenClaim := { program := "ytdpddidfdifbhaa", sum := "242a5731f4355d54abbde65d63b7ac31d066a6831495f4be045818cc4c095ff3", func := "ephemeris/ephemeristop.TopChron", spec := "topChron", apart := false }
def TopChronSaid : Prop := topChronRow.holds Try.pinned (OpenSpec.ofChange topChronSpec)

/-- ITS FALSE NEIGHBOUR: 'it returns false'. Refute it at one input. -/
def topChronWrong : ChangeSpec := { name := "topChron", fn := fun _ => fun
  | [d1, d2, d3, d4] => { results := [.lit (.bool false)], args := [d1, d2, d3, d4] }
  | _ => none }
def TopChronWrongFalsely : Prop := topChronRow.holds Try.pinned (OpenSpec.ofChange topChronWrong)

/- THE SECOND FORM. 'bulk': how many values and letters a reading holds, each counted each time it is reached (what is shared counts as often as it is met; a slice's spare places count too). A statement '..UptoSaid' is the law's where the arguments, and the package variables that the reading takes, are together of bulk at most 1048576: NARROWER than '..Said'. Prove '..Said' where nothing that the law and all that it calls make is longer than what came in: it says more and counts as full. Else prove '..UptoSaid'. A law counts once. -/
mutual
def uptoBulk {H : Type} : DataW H → Nat
  | .lit (.string bytes) => bytes.length + 1
  | .lit _ => 1
  | .nil => 1
  | .ptr d => uptoBulk d + 1
  | .slice elems spare => uptoBulkAll elems + uptoBulkAll spare + 1
  | .agg parts => uptoBulkAll parts + 1
  | .iface _ d => uptoBulk d + 1
  | .map entries => uptoBulkEntries entries + 1
  | .held _ => 1
def uptoBulkAll {H : Type} : List (DataW H) → Nat
  | [] => 0
  | d :: r => uptoBulk d + uptoBulkAll r
def uptoBulkEntries {H : Type} : List (Lit × DataW H) → Nat
  | [] => 0
  | x :: r => uptoBulkEntry x + uptoBulkEntries r
def uptoBulkEntry {H : Type} : Lit × DataW H → Nat
  | (.string bytes, d) => bytes.length + uptoBulk d + 1
  | (_, d) => uptoBulk d + 1
 end
def uptoSmall : (H : Type) → List (DataW H) → Bool := fun _ ds => decide (uptoBulkAll ds ≤ 1048576)
def OpenSpec.upto (s : _root_.Go.ChangeSpec) : _root_.Go.OpenSpec := { _root_.Go.OpenSpec.ofChange s with cond := some uptoSmall }

/-- 'ephemerislaw2.AgreeMosts', WHERE WHAT IT READS IS OF BULK AT MOST 1048576: true; the input reads as it did. -/
def agreeMostsUptoRow : OpenClaim := { program := "ytdpddidfdifbhaa", sum := "242a5731f4355d54abbde65d63b7ac31d066a6831495f4be045818cc4c095ff3", func := "ephemeris/ephemerislaw2.AgreeMosts", spec := "agreeMosts", apart := false, narrowed := true }
def AgreeMostsUptoSaid : Prop := agreeMostsUptoRow.holds Try.pinned (OpenSpec.upto agreeMostsSpec)

/-- 'ephemerislaw2.AgreeWithins', WHERE WHAT IT READS IS OF BULK AT MOST 1048576: true; the input reads as it did. -/
def agreeWithinsUptoRow : OpenClaim := { program := "ytdpddidfdifbhaa", sum := "242a5731f4355d54abbde65d63b7ac31d066a6831495f4be045818cc4c095ff3", func := "ephemeris/ephemerislaw2.AgreeWithins", spec := "agreeWithins", apart := false, narrowed := true }
def AgreeWithinsUptoSaid : Prop := agreeWithinsUptoRow.holds Try.pinned (OpenSpec.upto agreeWithinsSpec)

/-- 'ephemerislaw2.AgreeOutsides', WHERE WHAT IT READS IS OF BULK AT MOST 1048576: true; the input reads as it did. -/
def agreeOutsidesUptoRow : OpenClaim := { program := "ytdpddidfdifbhaa", sum := "242a5731f4355d54abbde65d63b7ac31d066a6831495f4be045818cc4c095ff3", func := "ephemeris/ephemerislaw2.AgreeOutsides", spec := "agreeOutsides", apart := false, narrowed := true }
def AgreeOutsidesUptoSaid : Prop := agreeOutsidesUptoRow.holds Try.pinned (OpenSpec.upto agreeOutsidesSpec)

/-- 'ephemerislaw2.ChronFits', WHERE WHAT IT READS IS OF BULK AT MOST 1048576: true; the input reads as it did. -/
def chronFitsUptoRow : OpenClaim := { program := "ytdpddidfdifbhaa", sum := "242a5731f4355d54abbde65d63b7ac31d066a6831495f4be045818cc4c095ff3", func := "ephemeris/ephemerislaw2.ChronFits", spec := "chronFits", apart := false, narrowed := true }
def ChronFitsUptoSaid : Prop := chronFitsUptoRow.holds Try.pinned (OpenSpec.upto chronFitsSpec)

/-- 'ephemerislaw2.ChronTightests', WHERE WHAT IT READS IS OF BULK AT MOST 1048576: true; the input reads as it did. -/
def chronTightestsUptoRow : OpenClaim := { program := "ytdpddidfdifbhaa", sum := "242a5731f4355d54abbde65d63b7ac31d066a6831495f4be045818cc4c095ff3", func := "ephemeris/ephemerislaw2.ChronTightests", spec := "chronTightests", apart := false, narrowed := true }
def ChronTightestsUptoSaid : Prop := chronTightestsUptoRow.holds Try.pinned (OpenSpec.upto chronTightestsSpec)

/-- 'ephemerislaw2.ChronEarlys', WHERE WHAT IT READS IS OF BULK AT MOST 1048576: true; the input reads as it did. -/
def chronEarlysUptoRow : OpenClaim := { program := "ytdpddidfdifbhaa", sum := "242a5731f4355d54abbde65d63b7ac31d066a6831495f4be045818cc4c095ff3", func := "ephemeris/ephemerislaw2.ChronEarlys", spec := "chronEarlys", apart := false, narrowed := true }
def ChronEarlysUptoSaid : Prop := chronEarlysUptoRow.holds Try.pinned (OpenSpec.upto chronEarlysSpec)

/-- 'ephemerislaw2.ContradictLeasts', WHERE WHAT IT READS IS OF BULK AT MOST 1048576: true; the input reads as it did. -/
def contradictLeastsUptoRow : OpenClaim := { program := "ytdpddidfdifbhaa", sum := "242a5731f4355d54abbde65d63b7ac31d066a6831495f4be045818cc4c095ff3", func := "ephemeris/ephemerislaw2.ContradictLeasts", spec := "contradictLeasts", apart := false, narrowed := true }
def ContradictLeastsUptoSaid : Prop := contradictLeastsUptoRow.holds Try.pinned (OpenSpec.upto contradictLeastsSpec)

/-- 'ephemerislaw2.ContradictImplieds', WHERE WHAT IT READS IS OF BULK AT MOST 1048576: true; the input reads as it did. -/
def contradictImpliedsUptoRow : OpenClaim := { program := "ytdpddidfdifbhaa", sum := "242a5731f4355d54abbde65d63b7ac31d066a6831495f4be045818cc4c095ff3", func := "ephemeris/ephemerislaw2.ContradictImplieds", spec := "contradictImplieds", apart := false, narrowed := true }
def ContradictImpliedsUptoSaid : Prop := contradictImpliedsUptoRow.holds Try.pinned (OpenSpec.upto contradictImpliedsSpec)

/-- 'ephemerislaw2.ContradictChangeds', WHERE WHAT IT READS IS OF BULK AT MOST 1048576: true; the input reads as it did. -/
def contradictChangedsUptoRow : OpenClaim := { program := "ytdpddidfdifbhaa", sum := "242a5731f4355d54abbde65d63b7ac31d066a6831495f4be045818cc4c095ff3", func := "ephemeris/ephemerislaw2.ContradictChangeds", spec := "contradictChangeds", apart := false, narrowed := true }
def ContradictChangedsUptoSaid : Prop := contradictChangedsUptoRow.holds Try.pinned (OpenSpec.upto contradictChangedsSpec)

/-- 'ephemerislaw2.DisciplinePlays', WHERE WHAT IT READS IS OF BULK AT MOST 1048576: true; the input reads as it did. -/
def disciplinePlaysUptoRow : OpenClaim := { program := "ytdpddidfdifbhaa", sum := "242a5731f4355d54abbde65d63b7ac31d066a6831495f4be045818cc4c095ff3", func := "ephemeris/ephemerislaw2.DisciplinePlays", spec := "disciplinePlays", apart := false, narrowed := true }
def DisciplinePlaysUptoSaid : Prop := disciplinePlaysUptoRow.holds Try.pinned (OpenSpec.upto disciplinePlaysSpec)

/-- 'ephemeristop.TopChron', WHERE WHAT IT READS IS OF BULK AT MOST 1048576: true; the input reads as it did. -/
def topChronUptoRow : OpenClaim := { program := "ytdpddidfdifbhaa", sum := "242a5731f4355d54abbde65d63b7ac31d066a6831495f4be045818cc4c095ff3", func := "ephemeris/ephemeristop.TopChron", spec := "topChron", apart := false, narrowed := true }
def TopChronUptoSaid : Prop := topChronUptoRow.holds Try.pinned (OpenSpec.upto topChronSpec)

end Rows
end Go.Proofs.Ytdpddidfdifbhaa
