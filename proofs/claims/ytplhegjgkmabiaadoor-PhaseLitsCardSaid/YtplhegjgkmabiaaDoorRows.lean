/-
  NARROWER THAN 'FOR EVERY INPUT', by the rows' own cells (each row's printed sentence says how): TideHeights: laid · TideEnds: laid · SeasonFinds: laid · SeasonNexts: laid · PhaseFinds: laid · PhaseNumbers: laid · PhaseLits: laid · SharpenSeasons: laid · SharpenPhases: laid · SharpenEarliers: laid · SharpenDecides: laid · TopSums: laid.
  DERIVED. THE GIVEN ROWS OF THIS SEAT. 12 by the template 'for every input the law returns true; each argument reads behind the call as it read before'; 0 by the template 'total and deterministic' (their statements: YtplhegjgkmabiaaDoorTotals.lean).
  GIVEN WITH THE SEED: the statements are not yours to turn. If you find one false, say at which input.
  Laid BY PROGRAM, IN A SANDBOX (cutbox-rows.mjs): the forced cells as the released guide's own fill.sh prints them over the translation f76437393d058933… (all of the seat's roots in one cut). By AI agents, Wed Nov 11 2026. No macro, syntax, notation, axiom, sorry.
-/
import Derived.Test.YtplhegjgkmabiaaDoorChecked
import GoSem.Claim
import GoSem.ClaimJoined
import GoSem.ClaimMapViews
import Derived.JoinedTies
import Derived.KernelRfl
namespace Go.Proofs.YtplhegjgkmabiaaDoor
/- THE CELL 'sum', in the pinned program and in every row, IS THE sha256 OF THE DUMP (.gsa) THAT YtplhegjgkmabiaaDoorProg.lean LOADS. Nothing in Lean hashes anything: it is a label: what it is worth is what the hold of that sum in a sandbox is worth. -/
noncomputable def Tryd.pinned : Pinned := { name := "ytplhegjgkmabiaadoor", sum := "f76437393d058933d6d27528bd7130952297b6bbb4066eff1c268fee765b254d", checked := Tryd.checked }
namespace Rows
def none {H : Type} : Left H := { results := [], args := [] }

/- WHAT THE LISTED PACKAGE-LEVEL VARIABLES READ AS WHEN THE CALL BEGINS. Each datum BY PROGRAM (the guide's laid-datum.mjs) off the statement by which the dump's own 'gosem.cut.vars' lays the variable. In a bare row this is a premise. The card (YtplhegjgkmabiaaDoorCards.lean) ties it to the program's text. -/
def laid_math_sin {H : Type} : DataW H := .agg [.lit (.float .f64 4460209587652500685), .lit (.float .f64 13716528389658582877), .lit (.float .f64 4523617212962785441), .lit (.float .f64 13774824197404483331), .lit (.float .f64 4575957461383575504), .lit (.float .f64 13818544856648471880)]
def laid_math_cos {H : Type} : DataW H := .agg [.lit (.float .f64 13666448263388469915), .lit (.float .f64 4477121864728985349), .lit (.float .f64 13732177093698800582), .lit (.float .f64 4537941361668146421), .lit (.float .f64 13787419979223748497), .lit (.float .f64 4586165620538955083)]
def laid_math_mPi4 {H : Type} : DataW H := .agg [.lit (.int .u64 1), .lit (.int .u64 5040379952546458195), .lit (.int .u64 17892431488136887169), .lit (.int .u64 13169980181085364355), .lit (.int .u64 18204331823439776451), .lit (.int .u64 7946843935494350272), .lit (.int .u64 905889640498799673), .lit (.int .u64 18175356263134875261), .lit (.int .u64 15061281708168349961), .lit (.int .u64 15220161563773041794), .lit (.int .u64 8296664548579374057), .lit (.int .u64 4109744767560208502), .lit (.int .u64 4607516669194743839), .lit (.int .u64 16023283104648321598), .lit (.int .u64 15739233654134936430), .lit (.int .u64 11424645774684705882), .lit (.int .u64 16883842788696515318), .lit (.int .u64 8795094592981902804), .lit (.int .u64 15561835991111744016), .lit (.int .u64 12395701187267450711)]

/-- 'ephemerislaw2.TideHeights': WHATEVER THE INPUT: true; the input reads as it did. -/
def tideHeightsSpec : ChangeSpec := { name := "tideHeights", fn := fun _ => fun
  | [d1, d2] => { results := [.lit (.bool true)], args := [d1, d2] }
  | _ => none }
def tideHeightsRow : OpenClaim := { program := "ytplhegjgkmabiaadoor", sum := "f76437393d058933d6d27528bd7130952297b6bbb4066eff1c268fee765b254d", func := "ephemeris/ephemerislaw2.TideHeights", spec := "tideHeights", inPlace := ["math.Float64bits", "math.Float64frombits", "math/bits.Add64", "math.archFloor", "math.archTrunc", "math.archCeil"], unfollowed := true, recurses := true, named := ["math/bits.divideError", "math/bits.overflowError", "math._cos", "math._sin", "math.mPi4"], apart := false, laid := [("math._sin", laid_math_sin), ("math._cos", laid_math_cos), ("math.mPi4", laid_math_mPi4)] }
def TideHeightsSaid : Prop := tideHeightsRow.holds Tryd.pinned (OpenSpec.ofChange tideHeightsSpec)

/-- ITS FALSE NEIGHBOUR: 'it returns false'. Refute it at one input. -/
def tideHeightsWrong : ChangeSpec := { name := "tideHeights", fn := fun _ => fun
  | [d1, d2] => { results := [.lit (.bool false)], args := [d1, d2] }
  | _ => none }
def TideHeightsWrongFalsely : Prop := tideHeightsRow.holds Tryd.pinned (OpenSpec.ofChange tideHeightsWrong)

/-- 'ephemerislaw2.TideEnds': WHATEVER THE INPUT: true; the input reads as it did. -/
def tideEndsSpec : ChangeSpec := { name := "tideEnds", fn := fun _ => fun
  | [d1, d2, d3] => { results := [.lit (.bool true)], args := [d1, d2, d3] }
  | _ => none }
def tideEndsRow : OpenClaim := { program := "ytplhegjgkmabiaadoor", sum := "f76437393d058933d6d27528bd7130952297b6bbb4066eff1c268fee765b254d", func := "ephemeris/ephemerislaw2.TideEnds", spec := "tideEnds", inPlace := ["math.Float64bits", "math.Float64frombits", "math/bits.Add64", "math.archFloor", "math.archTrunc", "math.archCeil"], unfollowed := true, recurses := true, named := ["math/bits.divideError", "math/bits.overflowError", "math._cos", "math._sin", "math.mPi4"], apart := false, laid := [("math._sin", laid_math_sin), ("math._cos", laid_math_cos), ("math.mPi4", laid_math_mPi4)] }
def TideEndsSaid : Prop := tideEndsRow.holds Tryd.pinned (OpenSpec.ofChange tideEndsSpec)

/-- ITS FALSE NEIGHBOUR: 'it returns false'. Refute it at one input. -/
def tideEndsWrong : ChangeSpec := { name := "tideEnds", fn := fun _ => fun
  | [d1, d2, d3] => { results := [.lit (.bool false)], args := [d1, d2, d3] }
  | _ => none }
def TideEndsWrongFalsely : Prop := tideEndsRow.holds Tryd.pinned (OpenSpec.ofChange tideEndsWrong)

/-- 'ephemerislaw2.SeasonFinds': WHATEVER THE INPUT: true; the input reads as it did. -/
def seasonFindsSpec : ChangeSpec := { name := "seasonFinds", fn := fun _ => fun
  | [d1, d2, d3] => { results := [.lit (.bool true)], args := [d1, d2, d3] }
  | _ => none }
def seasonFindsRow : OpenClaim := { program := "ytplhegjgkmabiaadoor", sum := "f76437393d058933d6d27528bd7130952297b6bbb4066eff1c268fee765b254d", func := "ephemeris/ephemerislaw2.SeasonFinds", spec := "seasonFinds", inPlace := ["math.Float64bits", "math.Float64frombits", "math/bits.Add64", "math.archFloor", "math.archTrunc", "math.archCeil"], unfollowed := true, recurses := true, named := ["math/bits.divideError", "math/bits.overflowError", "math._cos", "math._sin", "math.mPi4"], apart := false, laid := [("math._sin", laid_math_sin), ("math._cos", laid_math_cos), ("math.mPi4", laid_math_mPi4)] }
def SeasonFindsSaid : Prop := seasonFindsRow.holds Tryd.pinned (OpenSpec.ofChange seasonFindsSpec)

/-- ITS FALSE NEIGHBOUR: 'it returns false'. Refute it at one input. -/
def seasonFindsWrong : ChangeSpec := { name := "seasonFinds", fn := fun _ => fun
  | [d1, d2, d3] => { results := [.lit (.bool false)], args := [d1, d2, d3] }
  | _ => none }
def SeasonFindsWrongFalsely : Prop := seasonFindsRow.holds Tryd.pinned (OpenSpec.ofChange seasonFindsWrong)

/-- 'ephemerislaw2.SeasonNexts': WHATEVER THE INPUT: true; the input reads as it did. -/
def seasonNextsSpec : ChangeSpec := { name := "seasonNexts", fn := fun _ => fun
  | [d1, d2, d3] => { results := [.lit (.bool true)], args := [d1, d2, d3] }
  | _ => none }
def seasonNextsRow : OpenClaim := { program := "ytplhegjgkmabiaadoor", sum := "f76437393d058933d6d27528bd7130952297b6bbb4066eff1c268fee765b254d", func := "ephemeris/ephemerislaw2.SeasonNexts", spec := "seasonNexts", inPlace := ["math.Float64bits", "math.Float64frombits", "math/bits.Add64", "math.archFloor", "math.archTrunc", "math.archCeil"], unfollowed := true, recurses := true, named := ["math/bits.divideError", "math/bits.overflowError", "math._cos", "math._sin", "math.mPi4"], apart := false, laid := [("math._sin", laid_math_sin), ("math._cos", laid_math_cos), ("math.mPi4", laid_math_mPi4)] }
def SeasonNextsSaid : Prop := seasonNextsRow.holds Tryd.pinned (OpenSpec.ofChange seasonNextsSpec)

/-- ITS FALSE NEIGHBOUR: 'it returns false'. Refute it at one input. -/
def seasonNextsWrong : ChangeSpec := { name := "seasonNexts", fn := fun _ => fun
  | [d1, d2, d3] => { results := [.lit (.bool false)], args := [d1, d2, d3] }
  | _ => none }
def SeasonNextsWrongFalsely : Prop := seasonNextsRow.holds Tryd.pinned (OpenSpec.ofChange seasonNextsWrong)

/-- 'ephemerislaw2.PhaseFinds': WHATEVER THE INPUT: true; the input reads as it did. -/
def phaseFindsSpec : ChangeSpec := { name := "phaseFinds", fn := fun _ => fun
  | [d1, d2, d3, d4] => { results := [.lit (.bool true)], args := [d1, d2, d3, d4] }
  | _ => none }
def phaseFindsRow : OpenClaim := { program := "ytplhegjgkmabiaadoor", sum := "f76437393d058933d6d27528bd7130952297b6bbb4066eff1c268fee765b254d", func := "ephemeris/ephemerislaw2.PhaseFinds", spec := "phaseFinds", inPlace := ["math.Float64bits", "math.Float64frombits", "math/bits.Add64", "math.archFloor", "math.archTrunc", "math.archCeil"], unfollowed := true, recurses := true, named := ["math/bits.divideError", "math/bits.overflowError", "math._cos", "math._sin", "math.mPi4"], apart := false, laid := [("math._sin", laid_math_sin), ("math._cos", laid_math_cos), ("math.mPi4", laid_math_mPi4)] }
def PhaseFindsSaid : Prop := phaseFindsRow.holds Tryd.pinned (OpenSpec.ofChange phaseFindsSpec)

/-- ITS FALSE NEIGHBOUR: 'it returns false'. Refute it at one input. -/
def phaseFindsWrong : ChangeSpec := { name := "phaseFinds", fn := fun _ => fun
  | [d1, d2, d3, d4] => { results := [.lit (.bool false)], args := [d1, d2, d3, d4] }
  | _ => none }
def PhaseFindsWrongFalsely : Prop := phaseFindsRow.holds Tryd.pinned (OpenSpec.ofChange phaseFindsWrong)

/-- 'ephemerislaw2.PhaseNumbers': WHATEVER THE INPUT: true; the input reads as it did. -/
def phaseNumbersSpec : ChangeSpec := { name := "phaseNumbers", fn := fun _ => fun
  | [d] => { results := [.lit (.bool true)], args := [d] }
  | _ => none }
def phaseNumbersRow : OpenClaim := { program := "ytplhegjgkmabiaadoor", sum := "f76437393d058933d6d27528bd7130952297b6bbb4066eff1c268fee765b254d", func := "ephemeris/ephemerislaw2.PhaseNumbers", spec := "phaseNumbers", inPlace := ["math.Float64bits", "math.Float64frombits", "math/bits.Add64", "math.archFloor", "math.archTrunc", "math.archCeil"], unfollowed := true, recurses := true, named := ["math/bits.divideError", "math/bits.overflowError", "math._cos", "math._sin", "math.mPi4"], apart := false, laid := [("math._sin", laid_math_sin), ("math._cos", laid_math_cos), ("math.mPi4", laid_math_mPi4)] }
def PhaseNumbersSaid : Prop := phaseNumbersRow.holds Tryd.pinned (OpenSpec.ofChange phaseNumbersSpec)

/-- ITS FALSE NEIGHBOUR: 'it returns false'. Refute it at one input. -/
def phaseNumbersWrong : ChangeSpec := { name := "phaseNumbers", fn := fun _ => fun
  | [d] => { results := [.lit (.bool false)], args := [d] }
  | _ => none }
def PhaseNumbersWrongFalsely : Prop := phaseNumbersRow.holds Tryd.pinned (OpenSpec.ofChange phaseNumbersWrong)

/-- 'ephemerislaw2.PhaseLits': WHATEVER THE INPUT: true; the input reads as it did. -/
def phaseLitsSpec : ChangeSpec := { name := "phaseLits", fn := fun _ => fun
  | [d1, d2, d3] => { results := [.lit (.bool true)], args := [d1, d2, d3] }
  | _ => none }
def phaseLitsRow : OpenClaim := { program := "ytplhegjgkmabiaadoor", sum := "f76437393d058933d6d27528bd7130952297b6bbb4066eff1c268fee765b254d", func := "ephemeris/ephemerislaw2.PhaseLits", spec := "phaseLits", inPlace := ["math.Float64bits", "math.Float64frombits", "math/bits.Add64", "math.archFloor", "math.archTrunc", "math.archCeil"], unfollowed := true, recurses := true, named := ["math/bits.divideError", "math/bits.overflowError", "math._cos", "math._sin", "math.mPi4"], apart := false, laid := [("math._sin", laid_math_sin), ("math._cos", laid_math_cos), ("math.mPi4", laid_math_mPi4)] }
def PhaseLitsSaid : Prop := phaseLitsRow.holds Tryd.pinned (OpenSpec.ofChange phaseLitsSpec)

/-- ITS FALSE NEIGHBOUR: 'it returns false'. Refute it at one input. -/
def phaseLitsWrong : ChangeSpec := { name := "phaseLits", fn := fun _ => fun
  | [d1, d2, d3] => { results := [.lit (.bool false)], args := [d1, d2, d3] }
  | _ => none }
def PhaseLitsWrongFalsely : Prop := phaseLitsRow.holds Tryd.pinned (OpenSpec.ofChange phaseLitsWrong)

/-- 'ephemerislaw2.SharpenSeasons': WHATEVER THE INPUT: true; the input reads as it did. -/
def sharpenSeasonsSpec : ChangeSpec := { name := "sharpenSeasons", fn := fun _ => fun
  | [d1, d2, d3, d4] => { results := [.lit (.bool true)], args := [d1, d2, d3, d4] }
  | _ => none }
def sharpenSeasonsRow : OpenClaim := { program := "ytplhegjgkmabiaadoor", sum := "f76437393d058933d6d27528bd7130952297b6bbb4066eff1c268fee765b254d", func := "ephemeris/ephemerislaw2.SharpenSeasons", spec := "sharpenSeasons", inPlace := ["math.Float64bits", "math.Float64frombits", "math/bits.Add64", "math.archFloor", "math.archTrunc", "math.archCeil"], unfollowed := true, recurses := true, named := ["math/bits.divideError", "math/bits.overflowError", "math._cos", "math._sin", "math.mPi4"], apart := false, laid := [("math._sin", laid_math_sin), ("math._cos", laid_math_cos), ("math.mPi4", laid_math_mPi4)] }
def SharpenSeasonsSaid : Prop := sharpenSeasonsRow.holds Tryd.pinned (OpenSpec.ofChange sharpenSeasonsSpec)

/-- ITS FALSE NEIGHBOUR: 'it returns false'. Refute it at one input. -/
def sharpenSeasonsWrong : ChangeSpec := { name := "sharpenSeasons", fn := fun _ => fun
  | [d1, d2, d3, d4] => { results := [.lit (.bool false)], args := [d1, d2, d3, d4] }
  | _ => none }
def SharpenSeasonsWrongFalsely : Prop := sharpenSeasonsRow.holds Tryd.pinned (OpenSpec.ofChange sharpenSeasonsWrong)

/-- 'ephemerislaw2.SharpenPhases': WHATEVER THE INPUT: true; the input reads as it did. -/
def sharpenPhasesSpec : ChangeSpec := { name := "sharpenPhases", fn := fun _ => fun
  | [d1, d2, d3, d4, d5] => { results := [.lit (.bool true)], args := [d1, d2, d3, d4, d5] }
  | _ => none }
def sharpenPhasesRow : OpenClaim := { program := "ytplhegjgkmabiaadoor", sum := "f76437393d058933d6d27528bd7130952297b6bbb4066eff1c268fee765b254d", func := "ephemeris/ephemerislaw2.SharpenPhases", spec := "sharpenPhases", inPlace := ["math.Float64bits", "math.Float64frombits", "math/bits.Add64", "math.archFloor", "math.archTrunc", "math.archCeil"], unfollowed := true, recurses := true, named := ["math/bits.divideError", "math/bits.overflowError", "math._cos", "math._sin", "math.mPi4"], apart := false, laid := [("math._sin", laid_math_sin), ("math._cos", laid_math_cos), ("math.mPi4", laid_math_mPi4)] }
def SharpenPhasesSaid : Prop := sharpenPhasesRow.holds Tryd.pinned (OpenSpec.ofChange sharpenPhasesSpec)

/-- ITS FALSE NEIGHBOUR: 'it returns false'. Refute it at one input. -/
def sharpenPhasesWrong : ChangeSpec := { name := "sharpenPhases", fn := fun _ => fun
  | [d1, d2, d3, d4, d5] => { results := [.lit (.bool false)], args := [d1, d2, d3, d4, d5] }
  | _ => none }
def SharpenPhasesWrongFalsely : Prop := sharpenPhasesRow.holds Tryd.pinned (OpenSpec.ofChange sharpenPhasesWrong)

/-- 'ephemerislaw2.SharpenEarliers': WHATEVER THE INPUT: true; the input reads as it did. -/
def sharpenEarliersSpec : ChangeSpec := { name := "sharpenEarliers", fn := fun _ => fun
  | [d1, d2] => { results := [.lit (.bool true)], args := [d1, d2] }
  | _ => none }
def sharpenEarliersRow : OpenClaim := { program := "ytplhegjgkmabiaadoor", sum := "f76437393d058933d6d27528bd7130952297b6bbb4066eff1c268fee765b254d", func := "ephemeris/ephemerislaw2.SharpenEarliers", spec := "sharpenEarliers", inPlace := ["math.Float64bits", "math.Float64frombits", "math/bits.Add64", "math.archFloor", "math.archTrunc", "math.archCeil"], unfollowed := true, recurses := true, named := ["math/bits.divideError", "math/bits.overflowError", "math._cos", "math._sin", "math.mPi4"], apart := false, laid := [("math._sin", laid_math_sin), ("math._cos", laid_math_cos), ("math.mPi4", laid_math_mPi4)] }
def SharpenEarliersSaid : Prop := sharpenEarliersRow.holds Tryd.pinned (OpenSpec.ofChange sharpenEarliersSpec)

/-- ITS FALSE NEIGHBOUR: 'it returns false'. Refute it at one input. -/
def sharpenEarliersWrong : ChangeSpec := { name := "sharpenEarliers", fn := fun _ => fun
  | [d1, d2] => { results := [.lit (.bool false)], args := [d1, d2] }
  | _ => none }
def SharpenEarliersWrongFalsely : Prop := sharpenEarliersRow.holds Tryd.pinned (OpenSpec.ofChange sharpenEarliersWrong)

/-- 'ephemerislaw2.SharpenDecides': WHATEVER THE INPUT: true; the input reads as it did. -/
def sharpenDecidesSpec : ChangeSpec := { name := "sharpenDecides", fn := fun _ => fun
  | [d1, d2, d3, d4] => { results := [.lit (.bool true)], args := [d1, d2, d3, d4] }
  | _ => none }
def sharpenDecidesRow : OpenClaim := { program := "ytplhegjgkmabiaadoor", sum := "f76437393d058933d6d27528bd7130952297b6bbb4066eff1c268fee765b254d", func := "ephemeris/ephemerislaw2.SharpenDecides", spec := "sharpenDecides", inPlace := ["math.Float64bits", "math.Float64frombits", "math/bits.Add64", "math.archFloor", "math.archTrunc", "math.archCeil"], unfollowed := true, recurses := true, named := ["math/bits.divideError", "math/bits.overflowError", "math._cos", "math._sin", "math.mPi4"], apart := false, laid := [("math._sin", laid_math_sin), ("math._cos", laid_math_cos), ("math.mPi4", laid_math_mPi4)] }
def SharpenDecidesSaid : Prop := sharpenDecidesRow.holds Tryd.pinned (OpenSpec.ofChange sharpenDecidesSpec)

/-- ITS FALSE NEIGHBOUR: 'it returns false'. Refute it at one input. -/
def sharpenDecidesWrong : ChangeSpec := { name := "sharpenDecides", fn := fun _ => fun
  | [d1, d2, d3, d4] => { results := [.lit (.bool false)], args := [d1, d2, d3, d4] }
  | _ => none }
def SharpenDecidesWrongFalsely : Prop := sharpenDecidesRow.holds Tryd.pinned (OpenSpec.ofChange sharpenDecidesWrong)

/-- 'ephemeristop.TopSums': WHATEVER THE INPUT: true; the input reads as it did. -/
def topSumsSpec : ChangeSpec := { name := "topSums", fn := fun _ => fun
  | [d1, d2] => { results := [.lit (.bool true)], args := [d1, d2] }
  | _ => none }
def topSumsRow : OpenClaim := { program := "ytplhegjgkmabiaadoor", sum := "f76437393d058933d6d27528bd7130952297b6bbb4066eff1c268fee765b254d", func := "ephemeris/ephemeristop.TopSums", spec := "topSums", inPlace := ["math.Float64bits", "math.Float64frombits", "math/bits.Add64", "math.archFloor", "math.archTrunc", "math.archCeil"], unfollowed := true, recurses := true, named := ["math/bits.divideError", "math/bits.overflowError", "math._cos", "math._sin", "math.mPi4"], apart := false, laid := [("math._sin", laid_math_sin), ("math._cos", laid_math_cos), ("math.mPi4", laid_math_mPi4)] }
def TopSumsSaid : Prop := topSumsRow.holds Tryd.pinned (OpenSpec.ofChange topSumsSpec)

/-- ITS FALSE NEIGHBOUR: 'it returns false'. Refute it at one input. -/
def topSumsWrong : ChangeSpec := { name := "topSums", fn := fun _ => fun
  | [d1, d2] => { results := [.lit (.bool false)], args := [d1, d2] }
  | _ => none }
def TopSumsWrongFalsely : Prop := topSumsRow.holds Tryd.pinned (OpenSpec.ofChange topSumsWrong)

/- THE SECOND FORM. 'bulk': how many values and letters a reading holds, each counted each time it is reached (what is shared counts as often as it is met; a slice's spare places count too). A statement '..UptoSaid' is the law's where the arguments, and the package variables that the reading takes, are together of bulk at most 1048576: NARROWER than '..Said'. Prove '..Said' where nothing that the law and all that it calls make is longer than what came in: it says more and counts as full. Else prove '..UptoSaid'. A law counts once. -/
mutual
def uptoBulk {H : Type} : DataW H → Nat
  | .lit (.string bytes) => bytes.length + 1
  | .lit _ => 1
  | .nil => 1
  | .ptr d => uptoBulk d + 1
  | .slice elems spare => uptoBulkAll elems + uptoBulkAll spare + 1
  | .agg parts => uptoBulkAll parts + 1
  | .iface _ d => uptoBulk d + 1
  | .map entries => uptoBulkEntries entries + 1
  | .held _ => 1
def uptoBulkAll {H : Type} : List (DataW H) → Nat
  | [] => 0
  | d :: r => uptoBulk d + uptoBulkAll r
def uptoBulkEntries {H : Type} : List (Lit × DataW H) → Nat
  | [] => 0
  | x :: r => uptoBulkEntry x + uptoBulkEntries r
def uptoBulkEntry {H : Type} : Lit × DataW H → Nat
  | (.string bytes, d) => bytes.length + uptoBulk d + 1
  | (_, d) => uptoBulk d + 1
 end
def uptoSmall : (H : Type) → List (DataW H) → Bool := fun _ ds => decide (uptoBulkAll ds ≤ 1048576)
def OpenSpec.upto (s : _root_.Go.ChangeSpec) : _root_.Go.OpenSpec := { _root_.Go.OpenSpec.ofChange s with cond := some uptoSmall }

/-- 'ephemerislaw2.TideHeights', WHERE WHAT IT READS IS OF BULK AT MOST 1048576: true; the input reads as it did. -/
def tideHeightsUptoRow : OpenClaim := { program := "ytplhegjgkmabiaadoor", sum := "f76437393d058933d6d27528bd7130952297b6bbb4066eff1c268fee765b254d", func := "ephemeris/ephemerislaw2.TideHeights", spec := "tideHeights", inPlace := ["math.Float64bits", "math.Float64frombits", "math/bits.Add64", "math.archFloor", "math.archTrunc", "math.archCeil"], unfollowed := true, recurses := true, named := ["math/bits.divideError", "math/bits.overflowError", "math._cos", "math._sin", "math.mPi4"], apart := false, laid := [("math._sin", laid_math_sin), ("math._cos", laid_math_cos), ("math.mPi4", laid_math_mPi4)], narrowed := true }
def TideHeightsUptoSaid : Prop := tideHeightsUptoRow.holds Tryd.pinned (OpenSpec.upto tideHeightsSpec)

/-- 'ephemerislaw2.TideEnds', WHERE WHAT IT READS IS OF BULK AT MOST 1048576: true; the input reads as it did. -/
def tideEndsUptoRow : OpenClaim := { program := "ytplhegjgkmabiaadoor", sum := "f76437393d058933d6d27528bd7130952297b6bbb4066eff1c268fee765b254d", func := "ephemeris/ephemerislaw2.TideEnds", spec := "tideEnds", inPlace := ["math.Float64bits", "math.Float64frombits", "math/bits.Add64", "math.archFloor", "math.archTrunc", "math.archCeil"], unfollowed := true, recurses := true, named := ["math/bits.divideError", "math/bits.overflowError", "math._cos", "math._sin", "math.mPi4"], apart := false, laid := [("math._sin", laid_math_sin), ("math._cos", laid_math_cos), ("math.mPi4", laid_math_mPi4)], narrowed := true }
def TideEndsUptoSaid : Prop := tideEndsUptoRow.holds Tryd.pinned (OpenSpec.upto tideEndsSpec)

/-- 'ephemerislaw2.SeasonFinds', WHERE WHAT IT READS IS OF BULK AT MOST 1048576: true; the input reads as it did. -/
def seasonFindsUptoRow : OpenClaim := { program := "ytplhegjgkmabiaadoor", sum := "f76437393d058933d6d27528bd7130952297b6bbb4066eff1c268fee765b254d", func := "ephemeris/ephemerislaw2.SeasonFinds", spec := "seasonFinds", inPlace := ["math.Float64bits", "math.Float64frombits", "math/bits.Add64", "math.archFloor", "math.archTrunc", "math.archCeil"], unfollowed := true, recurses := true, named := ["math/bits.divideError", "math/bits.overflowError", "math._cos", "math._sin", "math.mPi4"], apart := false, laid := [("math._sin", laid_math_sin), ("math._cos", laid_math_cos), ("math.mPi4", laid_math_mPi4)], narrowed := true }
def SeasonFindsUptoSaid : Prop := seasonFindsUptoRow.holds Tryd.pinned (OpenSpec.upto seasonFindsSpec)

/-- 'ephemerislaw2.SeasonNexts', WHERE WHAT IT READS IS OF BULK AT MOST 1048576: true; the input reads as it did. -/
def seasonNextsUptoRow : OpenClaim := { program := "ytplhegjgkmabiaadoor", sum := "f76437393d058933d6d27528bd7130952297b6bbb4066eff1c268fee765b254d", func := "ephemeris/ephemerislaw2.SeasonNexts", spec := "seasonNexts", inPlace := ["math.Float64bits", "math.Float64frombits", "math/bits.Add64", "math.archFloor", "math.archTrunc", "math.archCeil"], unfollowed := true, recurses := true, named := ["math/bits.divideError", "math/bits.overflowError", "math._cos", "math._sin", "math.mPi4"], apart := false, laid := [("math._sin", laid_math_sin), ("math._cos", laid_math_cos), ("math.mPi4", laid_math_mPi4)], narrowed := true }
def SeasonNextsUptoSaid : Prop := seasonNextsUptoRow.holds Tryd.pinned (OpenSpec.upto seasonNextsSpec)

/-- 'ephemerislaw2.PhaseFinds', WHERE WHAT IT READS IS OF BULK AT MOST 1048576: true; the input reads as it did. -/
def phaseFindsUptoRow : OpenClaim := { program := "ytplhegjgkmabiaadoor", sum := "f76437393d058933d6d27528bd7130952297b6bbb4066eff1c268fee765b254d", func := "ephemeris/ephemerislaw2.PhaseFinds", spec := "phaseFinds", inPlace := ["math.Float64bits", "math.Float64frombits", "math/bits.Add64", "math.archFloor", "math.archTrunc", "math.archCeil"], unfollowed := true, recurses := true, named := ["math/bits.divideError", "math/bits.overflowError", "math._cos", "math._sin", "math.mPi4"], apart := false, laid := [("math._sin", laid_math_sin), ("math._cos", laid_math_cos), ("math.mPi4", laid_math_mPi4)], narrowed := true }
def PhaseFindsUptoSaid : Prop := phaseFindsUptoRow.holds Tryd.pinned (OpenSpec.upto phaseFindsSpec)

/-- 'ephemerislaw2.PhaseNumbers', WHERE WHAT IT READS IS OF BULK AT MOST 1048576: true; the input reads as it did. -/
def phaseNumbersUptoRow : OpenClaim := { program := "ytplhegjgkmabiaadoor", sum := "f76437393d058933d6d27528bd7130952297b6bbb4066eff1c268fee765b254d", func := "ephemeris/ephemerislaw2.PhaseNumbers", spec := "phaseNumbers", inPlace := ["math.Float64bits", "math.Float64frombits", "math/bits.Add64", "math.archFloor", "math.archTrunc", "math.archCeil"], unfollowed := true, recurses := true, named := ["math/bits.divideError", "math/bits.overflowError", "math._cos", "math._sin", "math.mPi4"], apart := false, laid := [("math._sin", laid_math_sin), ("math._cos", laid_math_cos), ("math.mPi4", laid_math_mPi4)], narrowed := true }
def PhaseNumbersUptoSaid : Prop := phaseNumbersUptoRow.holds Tryd.pinned (OpenSpec.upto phaseNumbersSpec)

/-- 'ephemerislaw2.PhaseLits', WHERE WHAT IT READS IS OF BULK AT MOST 1048576: true; the input reads as it did. -/
def phaseLitsUptoRow : OpenClaim := { program := "ytplhegjgkmabiaadoor", sum := "f76437393d058933d6d27528bd7130952297b6bbb4066eff1c268fee765b254d", func := "ephemeris/ephemerislaw2.PhaseLits", spec := "phaseLits", inPlace := ["math.Float64bits", "math.Float64frombits", "math/bits.Add64", "math.archFloor", "math.archTrunc", "math.archCeil"], unfollowed := true, recurses := true, named := ["math/bits.divideError", "math/bits.overflowError", "math._cos", "math._sin", "math.mPi4"], apart := false, laid := [("math._sin", laid_math_sin), ("math._cos", laid_math_cos), ("math.mPi4", laid_math_mPi4)], narrowed := true }
def PhaseLitsUptoSaid : Prop := phaseLitsUptoRow.holds Tryd.pinned (OpenSpec.upto phaseLitsSpec)

/-- 'ephemerislaw2.SharpenSeasons', WHERE WHAT IT READS IS OF BULK AT MOST 1048576: true; the input reads as it did. -/
def sharpenSeasonsUptoRow : OpenClaim := { program := "ytplhegjgkmabiaadoor", sum := "f76437393d058933d6d27528bd7130952297b6bbb4066eff1c268fee765b254d", func := "ephemeris/ephemerislaw2.SharpenSeasons", spec := "sharpenSeasons", inPlace := ["math.Float64bits", "math.Float64frombits", "math/bits.Add64", "math.archFloor", "math.archTrunc", "math.archCeil"], unfollowed := true, recurses := true, named := ["math/bits.divideError", "math/bits.overflowError", "math._cos", "math._sin", "math.mPi4"], apart := false, laid := [("math._sin", laid_math_sin), ("math._cos", laid_math_cos), ("math.mPi4", laid_math_mPi4)], narrowed := true }
def SharpenSeasonsUptoSaid : Prop := sharpenSeasonsUptoRow.holds Tryd.pinned (OpenSpec.upto sharpenSeasonsSpec)

/-- 'ephemerislaw2.SharpenPhases', WHERE WHAT IT READS IS OF BULK AT MOST 1048576: true; the input reads as it did. -/
def sharpenPhasesUptoRow : OpenClaim := { program := "ytplhegjgkmabiaadoor", sum := "f76437393d058933d6d27528bd7130952297b6bbb4066eff1c268fee765b254d", func := "ephemeris/ephemerislaw2.SharpenPhases", spec := "sharpenPhases", inPlace := ["math.Float64bits", "math.Float64frombits", "math/bits.Add64", "math.archFloor", "math.archTrunc", "math.archCeil"], unfollowed := true, recurses := true, named := ["math/bits.divideError", "math/bits.overflowError", "math._cos", "math._sin", "math.mPi4"], apart := false, laid := [("math._sin", laid_math_sin), ("math._cos", laid_math_cos), ("math.mPi4", laid_math_mPi4)], narrowed := true }
def SharpenPhasesUptoSaid : Prop := sharpenPhasesUptoRow.holds Tryd.pinned (OpenSpec.upto sharpenPhasesSpec)

/-- 'ephemerislaw2.SharpenEarliers', WHERE WHAT IT READS IS OF BULK AT MOST 1048576: true; the input reads as it did. -/
def sharpenEarliersUptoRow : OpenClaim := { program := "ytplhegjgkmabiaadoor", sum := "f76437393d058933d6d27528bd7130952297b6bbb4066eff1c268fee765b254d", func := "ephemeris/ephemerislaw2.SharpenEarliers", spec := "sharpenEarliers", inPlace := ["math.Float64bits", "math.Float64frombits", "math/bits.Add64", "math.archFloor", "math.archTrunc", "math.archCeil"], unfollowed := true, recurses := true, named := ["math/bits.divideError", "math/bits.overflowError", "math._cos", "math._sin", "math.mPi4"], apart := false, laid := [("math._sin", laid_math_sin), ("math._cos", laid_math_cos), ("math.mPi4", laid_math_mPi4)], narrowed := true }
def SharpenEarliersUptoSaid : Prop := sharpenEarliersUptoRow.holds Tryd.pinned (OpenSpec.upto sharpenEarliersSpec)

/-- 'ephemerislaw2.SharpenDecides', WHERE WHAT IT READS IS OF BULK AT MOST 1048576: true; the input reads as it did. -/
def sharpenDecidesUptoRow : OpenClaim := { program := "ytplhegjgkmabiaadoor", sum := "f76437393d058933d6d27528bd7130952297b6bbb4066eff1c268fee765b254d", func := "ephemeris/ephemerislaw2.SharpenDecides", spec := "sharpenDecides", inPlace := ["math.Float64bits", "math.Float64frombits", "math/bits.Add64", "math.archFloor", "math.archTrunc", "math.archCeil"], unfollowed := true, recurses := true, named := ["math/bits.divideError", "math/bits.overflowError", "math._cos", "math._sin", "math.mPi4"], apart := false, laid := [("math._sin", laid_math_sin), ("math._cos", laid_math_cos), ("math.mPi4", laid_math_mPi4)], narrowed := true }
def SharpenDecidesUptoSaid : Prop := sharpenDecidesUptoRow.holds Tryd.pinned (OpenSpec.upto sharpenDecidesSpec)

/-- 'ephemeristop.TopSums', WHERE WHAT IT READS IS OF BULK AT MOST 1048576: true; the input reads as it did. -/
def topSumsUptoRow : OpenClaim := { program := "ytplhegjgkmabiaadoor", sum := "f76437393d058933d6d27528bd7130952297b6bbb4066eff1c268fee765b254d", func := "ephemeris/ephemeristop.TopSums", spec := "topSums", inPlace := ["math.Float64bits", "math.Float64frombits", "math/bits.Add64", "math.archFloor", "math.archTrunc", "math.archCeil"], unfollowed := true, recurses := true, named := ["math/bits.divideError", "math/bits.overflowError", "math._cos", "math._sin", "math.mPi4"], apart := false, laid := [("math._sin", laid_math_sin), ("math._cos", laid_math_cos), ("math.mPi4", laid_math_mPi4)], narrowed := true }
def TopSumsUptoSaid : Prop := topSumsUptoRow.holds Tryd.pinned (OpenSpec.upto topSumsSpec)

end Rows
end Go.Proofs.YtplhegjgkmabiaaDoor
