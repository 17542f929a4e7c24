/-
  NARROWER THAN 'FOR EVERY INPUT', by the rows' own cells (each row's printed sentence says how): PlaceHeights: laid · PathCenters: laid · PathTracks: laid · TopRise: laid.
  DERIVED. THE GIVEN ROWS OF THIS SEAT. 4 by the template 'for every input the law returns true; each argument reads behind the call as it read before'; 0 by the template 'total and deterministic' (their statements: YtcgnhnmigmdalaaGreatDoorTotals.lean).
  GIVEN WITH THE SEED: the statements are not yours to turn. If you find one false, say at which input.
  Laid BY PROGRAM, IN A SANDBOX (cutbox-rows.mjs): the forced cells as the released guide's own fill.sh prints them over the translation 74347fa28d89bdab… (all of the seat's roots in one cut). By AI agents, Wed Nov 11 2026. No macro, syntax, notation, axiom, sorry.
-/
import Derived.Test.YtcgnhnmigmdalaaGreatDoorChecked
import GoSem.Claim
import GoSem.ClaimJoined
import GoSem.ClaimMapViews
import Derived.JoinedTies
import Derived.KernelRfl
namespace Go.Proofs.YtcgnhnmigmdalaaGreatDoor
/- THE CELL 'sum', in the pinned program and in every row, IS THE sha256 OF THE DUMP (.gsa) THAT YtcgnhnmigmdalaaGreatDoorProg.lean LOADS. Nothing in Lean hashes anything: it is a label: what it is worth is what the hold of that sum in a sandbox is worth. -/
noncomputable def Tryz.pinned : Pinned := { name := "ytcgnhnmigmdalaagreatdoor", sum := "74347fa28d89bdaba7524e28a7289fa86449d8d17098fb896cf58940a3934040", checked := Tryz.checked }
namespace Rows
def none {H : Type} : Left H := { results := [], args := [] }

/- WHAT THE LISTED PACKAGE-LEVEL VARIABLES READ AS WHEN THE CALL BEGINS. Each datum BY PROGRAM (the guide's laid-datum.mjs) off the statement by which the dump's own 'gosem.cut.vars' lays the variable. In a bare row this is a premise. The card (YtcgnhnmigmdalaaGreatDoorCards.lean) ties it to the program's text. -/
def laid_math_sin {H : Type} : DataW H := .agg [.lit (.float .f64 4460209587652500685), .lit (.float .f64 13716528389658582877), .lit (.float .f64 4523617212962785441), .lit (.float .f64 13774824197404483331), .lit (.float .f64 4575957461383575504), .lit (.float .f64 13818544856648471880)]
def laid_math_cos {H : Type} : DataW H := .agg [.lit (.float .f64 13666448263388469915), .lit (.float .f64 4477121864728985349), .lit (.float .f64 13732177093698800582), .lit (.float .f64 4537941361668146421), .lit (.float .f64 13787419979223748497), .lit (.float .f64 4586165620538955083)]
def laid_math_mPi4 {H : Type} : DataW H := .agg [.lit (.int .u64 1), .lit (.int .u64 5040379952546458195), .lit (.int .u64 17892431488136887169), .lit (.int .u64 13169980181085364355), .lit (.int .u64 18204331823439776451), .lit (.int .u64 7946843935494350272), .lit (.int .u64 905889640498799673), .lit (.int .u64 18175356263134875261), .lit (.int .u64 15061281708168349961), .lit (.int .u64 15220161563773041794), .lit (.int .u64 8296664548579374057), .lit (.int .u64 4109744767560208502), .lit (.int .u64 4607516669194743839), .lit (.int .u64 16023283104648321598), .lit (.int .u64 15739233654134936430), .lit (.int .u64 11424645774684705882), .lit (.int .u64 16883842788696515318), .lit (.int .u64 8795094592981902804), .lit (.int .u64 15561835991111744016), .lit (.int .u64 12395701187267450711)]
def laid_ephemeris_riseset_limits {H : Type} : DataW H := .agg [.lit (.int .i64 (-14543900)), .lit (.int .i64 2182000)]

/-- 'ephemerislaw2.PlaceHeights': WHATEVER THE INPUT: true; the input reads as it did. -/
def placeHeightsSpec : ChangeSpec := { name := "placeHeights", fn := fun _ => fun
  | [d1, d2, d3, d4, d5] => { results := [.lit (.bool true)], args := [d1, d2, d3, d4, d5] }
  | _ => none }
def placeHeightsRow : OpenClaim := { program := "ytcgnhnmigmdalaagreatdoor", sum := "74347fa28d89bdaba7524e28a7289fa86449d8d17098fb896cf58940a3934040", func := "ephemeris/ephemerislaw2.PlaceHeights", spec := "placeHeights", inPlace := ["math.Float64bits", "math.Float64frombits", "math/bits.Add64", "math.archFloor", "math.archTrunc", "math.archCeil", "math.sqrt"], named := ["math/bits.divideError", "math/bits.overflowError", "math._cos", "math._sin", "math.mPi4"], apart := false, laid := [("math._sin", laid_math_sin), ("math._cos", laid_math_cos), ("math.mPi4", laid_math_mPi4)] }
def PlaceHeightsSaid : Prop := placeHeightsRow.holds Tryz.pinned (OpenSpec.ofChange placeHeightsSpec)

/-- ITS FALSE NEIGHBOUR: 'it returns false'. Refute it at one input. -/
def placeHeightsWrong : ChangeSpec := { name := "placeHeights", fn := fun _ => fun
  | [d1, d2, d3, d4, d5] => { results := [.lit (.bool false)], args := [d1, d2, d3, d4, d5] }
  | _ => none }
def PlaceHeightsWrongFalsely : Prop := placeHeightsRow.holds Tryz.pinned (OpenSpec.ofChange placeHeightsWrong)

/-- 'ephemerislaw2.PathCenters': WHATEVER THE INPUT: true; the input reads as it did. -/
def pathCentersSpec : ChangeSpec := { name := "pathCenters", fn := fun _ => fun
  | [d] => { results := [.lit (.bool true)], args := [d] }
  | _ => none }
def pathCentersRow : OpenClaim := { program := "ytcgnhnmigmdalaagreatdoor", sum := "74347fa28d89bdaba7524e28a7289fa86449d8d17098fb896cf58940a3934040", func := "ephemeris/ephemerislaw2.PathCenters", spec := "pathCenters", inPlace := ["math.Float64bits", "math.Float64frombits", "math/bits.Add64", "math.archFloor", "math.archTrunc", "math.archCeil", "math.sqrt"], unfollowed := true, recurses := true, named := ["math/bits.divideError", "math/bits.overflowError", "math._cos", "math._sin", "math.mPi4"], apart := false, laid := [("math._sin", laid_math_sin), ("math._cos", laid_math_cos), ("math.mPi4", laid_math_mPi4)] }
def PathCentersSaid : Prop := pathCentersRow.holds Tryz.pinned (OpenSpec.ofChange pathCentersSpec)

/-- ITS FALSE NEIGHBOUR: 'it returns false'. Refute it at one input. -/
def pathCentersWrong : ChangeSpec := { name := "pathCenters", fn := fun _ => fun
  | [d] => { results := [.lit (.bool false)], args := [d] }
  | _ => none }
def PathCentersWrongFalsely : Prop := pathCentersRow.holds Tryz.pinned (OpenSpec.ofChange pathCentersWrong)

/-- 'ephemerislaw2.PathTracks': WHATEVER THE INPUT: true; the input reads as it did. -/
def pathTracksSpec : ChangeSpec := { name := "pathTracks", fn := fun _ => fun
  | [d] => { results := [.lit (.bool true)], args := [d] }
  | _ => none }
def pathTracksRow : OpenClaim := { program := "ytcgnhnmigmdalaagreatdoor", sum := "74347fa28d89bdaba7524e28a7289fa86449d8d17098fb896cf58940a3934040", func := "ephemeris/ephemerislaw2.PathTracks", spec := "pathTracks", inPlace := ["math.Float64bits", "math.Float64frombits", "math/bits.Add64", "math.archFloor", "math.archTrunc", "math.archCeil", "math.sqrt"], unfollowed := true, recurses := true, named := ["math/bits.divideError", "math/bits.overflowError", "math._cos", "math._sin", "math.mPi4"], apart := false, laid := [("math._sin", laid_math_sin), ("math._cos", laid_math_cos), ("math.mPi4", laid_math_mPi4)] }
def PathTracksSaid : Prop := pathTracksRow.holds Tryz.pinned (OpenSpec.ofChange pathTracksSpec)

/-- ITS FALSE NEIGHBOUR: 'it returns false'. Refute it at one input. -/
def pathTracksWrong : ChangeSpec := { name := "pathTracks", fn := fun _ => fun
  | [d] => { results := [.lit (.bool false)], args := [d] }
  | _ => none }
def PathTracksWrongFalsely : Prop := pathTracksRow.holds Tryz.pinned (OpenSpec.ofChange pathTracksWrong)

/-- 'ephemeristop.TopRise': WHATEVER THE INPUT: true; the input reads as it did. -/
def topRiseSpec : ChangeSpec := { name := "topRise", fn := fun _ => fun
  | [d1, d2, d3] => { results := [.lit (.bool true)], args := [d1, d2, d3] }
  | _ => none }
def topRiseRow : OpenClaim := { program := "ytcgnhnmigmdalaagreatdoor", sum := "74347fa28d89bdaba7524e28a7289fa86449d8d17098fb896cf58940a3934040", func := "ephemeris/ephemeristop.TopRise", spec := "topRise", inPlace := ["math.Float64bits", "math.Float64frombits", "math/bits.Add64", "math.archFloor", "math.archTrunc", "math.archCeil", "math.sqrt"], unfollowed := true, recurses := true, named := ["math/bits.divideError", "math/bits.overflowError", "math._cos", "math._sin", "math.mPi4", "ephemeris/riseset.limits"], apart := false, laid := [("math._sin", laid_math_sin), ("math._cos", laid_math_cos), ("math.mPi4", laid_math_mPi4), ("ephemeris/riseset.limits", laid_ephemeris_riseset_limits)] }
def TopRiseSaid : Prop := topRiseRow.holds Tryz.pinned (OpenSpec.ofChange topRiseSpec)

/-- ITS FALSE NEIGHBOUR: 'it returns false'. Refute it at one input. -/
def topRiseWrong : ChangeSpec := { name := "topRise", fn := fun _ => fun
  | [d1, d2, d3] => { results := [.lit (.bool false)], args := [d1, d2, d3] }
  | _ => none }
def TopRiseWrongFalsely : Prop := topRiseRow.holds Tryz.pinned (OpenSpec.ofChange topRiseWrong)

/- THE SECOND FORM. 'bulk': how many values and letters a reading holds, each counted each time it is reached (what is shared counts as often as it is met; a slice's spare places count too). A statement '..UptoSaid' is the law's where the arguments, and the package variables that the reading takes, are together of bulk at most 1048576: NARROWER than '..Said'. Prove '..Said' where nothing that the law and all that it calls make is longer than what came in: it says more and counts as full. Else prove '..UptoSaid'. A law counts once. -/
mutual
def uptoBulk {H : Type} : DataW H → Nat
  | .lit (.string bytes) => bytes.length + 1
  | .lit _ => 1
  | .nil => 1
  | .ptr d => uptoBulk d + 1
  | .slice elems spare => uptoBulkAll elems + uptoBulkAll spare + 1
  | .agg parts => uptoBulkAll parts + 1
  | .iface _ d => uptoBulk d + 1
  | .map entries => uptoBulkEntries entries + 1
  | .held _ => 1
def uptoBulkAll {H : Type} : List (DataW H) → Nat
  | [] => 0
  | d :: r => uptoBulk d + uptoBulkAll r
def uptoBulkEntries {H : Type} : List (Lit × DataW H) → Nat
  | [] => 0
  | x :: r => uptoBulkEntry x + uptoBulkEntries r
def uptoBulkEntry {H : Type} : Lit × DataW H → Nat
  | (.string bytes, d) => bytes.length + uptoBulk d + 1
  | (_, d) => uptoBulk d + 1
 end
def uptoSmall : (H : Type) → List (DataW H) → Bool := fun _ ds => decide (uptoBulkAll ds ≤ 1048576)
def OpenSpec.upto (s : _root_.Go.ChangeSpec) : _root_.Go.OpenSpec := { _root_.Go.OpenSpec.ofChange s with cond := some uptoSmall }

/-- 'ephemerislaw2.PlaceHeights', WHERE WHAT IT READS IS OF BULK AT MOST 1048576: true; the input reads as it did. -/
def placeHeightsUptoRow : OpenClaim := { program := "ytcgnhnmigmdalaagreatdoor", sum := "74347fa28d89bdaba7524e28a7289fa86449d8d17098fb896cf58940a3934040", func := "ephemeris/ephemerislaw2.PlaceHeights", spec := "placeHeights", inPlace := ["math.Float64bits", "math.Float64frombits", "math/bits.Add64", "math.archFloor", "math.archTrunc", "math.archCeil", "math.sqrt"], named := ["math/bits.divideError", "math/bits.overflowError", "math._cos", "math._sin", "math.mPi4"], apart := false, laid := [("math._sin", laid_math_sin), ("math._cos", laid_math_cos), ("math.mPi4", laid_math_mPi4)], narrowed := true }
def PlaceHeightsUptoSaid : Prop := placeHeightsUptoRow.holds Tryz.pinned (OpenSpec.upto placeHeightsSpec)

/-- 'ephemerislaw2.PathCenters', WHERE WHAT IT READS IS OF BULK AT MOST 1048576: true; the input reads as it did. -/
def pathCentersUptoRow : OpenClaim := { program := "ytcgnhnmigmdalaagreatdoor", sum := "74347fa28d89bdaba7524e28a7289fa86449d8d17098fb896cf58940a3934040", func := "ephemeris/ephemerislaw2.PathCenters", spec := "pathCenters", inPlace := ["math.Float64bits", "math.Float64frombits", "math/bits.Add64", "math.archFloor", "math.archTrunc", "math.archCeil", "math.sqrt"], unfollowed := true, recurses := true, named := ["math/bits.divideError", "math/bits.overflowError", "math._cos", "math._sin", "math.mPi4"], apart := false, laid := [("math._sin", laid_math_sin), ("math._cos", laid_math_cos), ("math.mPi4", laid_math_mPi4)], narrowed := true }
def PathCentersUptoSaid : Prop := pathCentersUptoRow.holds Tryz.pinned (OpenSpec.upto pathCentersSpec)

/-- 'ephemerislaw2.PathTracks', WHERE WHAT IT READS IS OF BULK AT MOST 1048576: true; the input reads as it did. -/
def pathTracksUptoRow : OpenClaim := { program := "ytcgnhnmigmdalaagreatdoor", sum := "74347fa28d89bdaba7524e28a7289fa86449d8d17098fb896cf58940a3934040", func := "ephemeris/ephemerislaw2.PathTracks", spec := "pathTracks", inPlace := ["math.Float64bits", "math.Float64frombits", "math/bits.Add64", "math.archFloor", "math.archTrunc", "math.archCeil", "math.sqrt"], unfollowed := true, recurses := true, named := ["math/bits.divideError", "math/bits.overflowError", "math._cos", "math._sin", "math.mPi4"], apart := false, laid := [("math._sin", laid_math_sin), ("math._cos", laid_math_cos), ("math.mPi4", laid_math_mPi4)], narrowed := true }
def PathTracksUptoSaid : Prop := pathTracksUptoRow.holds Tryz.pinned (OpenSpec.upto pathTracksSpec)

/-- 'ephemeristop.TopRise', WHERE WHAT IT READS IS OF BULK AT MOST 1048576: true; the input reads as it did. -/
def topRiseUptoRow : OpenClaim := { program := "ytcgnhnmigmdalaagreatdoor", sum := "74347fa28d89bdaba7524e28a7289fa86449d8d17098fb896cf58940a3934040", func := "ephemeris/ephemeristop.TopRise", spec := "topRise", inPlace := ["math.Float64bits", "math.Float64frombits", "math/bits.Add64", "math.archFloor", "math.archTrunc", "math.archCeil", "math.sqrt"], unfollowed := true, recurses := true, named := ["math/bits.divideError", "math/bits.overflowError", "math._cos", "math._sin", "math.mPi4", "ephemeris/riseset.limits"], apart := false, laid := [("math._sin", laid_math_sin), ("math._cos", laid_math_cos), ("math.mPi4", laid_math_mPi4), ("ephemeris/riseset.limits", laid_ephemeris_riseset_limits)], narrowed := true }
def TopRiseUptoSaid : Prop := topRiseUptoRow.holds Tryz.pinned (OpenSpec.upto topRiseSpec)

end Rows
end Go.Proofs.YtcgnhnmigmdalaaGreatDoor
