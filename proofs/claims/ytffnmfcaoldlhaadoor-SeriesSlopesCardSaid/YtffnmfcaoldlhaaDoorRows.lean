/-
  NARROWER THAN 'FOR EVERY INPUT', by the rows' own cells (each row's printed sentence says how): TrigSins: laid · TrigArcs: laid · TrigRoots: laid · TrigArcSins: laid · TrigOvers: laid · SeriesChecks: laid · SeriesValues: laid · SeriesAngles: laid · SeriesSlopes: laid · SeriesCrosses: laid · PlanetHelios: laid · MoonLongitudes: laid.
  DERIVED. THE GIVEN ROWS OF THIS SEAT. 12 by the template 'for every input the law returns true; each argument reads behind the call as it read before'; 0 by the template 'total and deterministic' (their statements: YtffnmfcaoldlhaaDoorTotals.lean).
  GIVEN WITH THE SEED: the statements are not yours to turn. If you find one false, say at which input.
  Laid BY PROGRAM, IN A SANDBOX (cutbox-rows.mjs): the forced cells as the released guide's own fill.sh prints them over the translation a4fc1d43ca90b2f7… (all of the seat's roots in one cut). By AI agents, Wed Nov 11 2026. No macro, syntax, notation, axiom, sorry.
-/
import Derived.Test.YtffnmfcaoldlhaaDoorChecked
import GoSem.Claim
import GoSem.ClaimJoined
import GoSem.ClaimMapViews
import Derived.JoinedTies
import Derived.KernelRfl
namespace Go.Proofs.YtffnmfcaoldlhaaDoor
/- THE CELL 'sum', in the pinned program and in every row, IS THE sha256 OF THE DUMP (.gsa) THAT YtffnmfcaoldlhaaDoorProg.lean LOADS. Nothing in Lean hashes anything: it is a label: what it is worth is what the hold of that sum in a sandbox is worth. -/
noncomputable def Tryd.pinned : Pinned := { name := "ytffnmfcaoldlhaadoor", sum := "a4fc1d43ca90b2f700e951bf8939742592af8d5886e65db8d21a937b444fd6c1", checked := Tryd.checked }
namespace Rows
def none {H : Type} : Left H := { results := [], args := [] }

/- WHAT THE LISTED PACKAGE-LEVEL VARIABLES READ AS WHEN THE CALL BEGINS. Each datum BY PROGRAM (the guide's laid-datum.mjs) off the statement by which the dump's own 'gosem.cut.vars' lays the variable. In a bare row this is a premise. The card (YtffnmfcaoldlhaaDoorCards.lean) ties it to the program's text. -/
def laid_math_sin {H : Type} : DataW H := .agg [.lit (.float .f64 4460209587652500685), .lit (.float .f64 13716528389658582877), .lit (.float .f64 4523617212962785441), .lit (.float .f64 13774824197404483331), .lit (.float .f64 4575957461383575504), .lit (.float .f64 13818544856648471880)]
def laid_math_cos {H : Type} : DataW H := .agg [.lit (.float .f64 13666448263388469915), .lit (.float .f64 4477121864728985349), .lit (.float .f64 13732177093698800582), .lit (.float .f64 4537941361668146421), .lit (.float .f64 13787419979223748497), .lit (.float .f64 4586165620538955083)]
def laid_math_mPi4 {H : Type} : DataW H := .agg [.lit (.int .u64 1), .lit (.int .u64 5040379952546458195), .lit (.int .u64 17892431488136887169), .lit (.int .u64 13169980181085364355), .lit (.int .u64 18204331823439776451), .lit (.int .u64 7946843935494350272), .lit (.int .u64 905889640498799673), .lit (.int .u64 18175356263134875261), .lit (.int .u64 15061281708168349961), .lit (.int .u64 15220161563773041794), .lit (.int .u64 8296664548579374057), .lit (.int .u64 4109744767560208502), .lit (.int .u64 4607516669194743839), .lit (.int .u64 16023283104648321598), .lit (.int .u64 15739233654134936430), .lit (.int .u64 11424645774684705882), .lit (.int .u64 16883842788696515318), .lit (.int .u64 8795094592981902804), .lit (.int .u64 15561835991111744016), .lit (.int .u64 12395701187267450711)]
def laid_ephemeris_planet_table {H : Type} : DataW H := .agg [.agg [.lit (.string [109, 101, 114, 99, 117, 114, 121]), .lit (.int .i64 387), .lit (.int .i64 986042219), .lit (.int .i64 11367595694444)], .agg [.lit (.string [118, 101, 110, 117, 115]), .lit (.int .i64 723), .lit (.int .i64 204930817), .lit (.int .i64 4450362055556)], .agg [.lit (.string [109, 97, 114, 115]), .lit (.int .i64 1524), .lit (.int .i64 214414189), .lit (.int .i64 1455613000000)], .agg [.lit (.string [106, 117, 112, 105, 116, 101, 114]), .lit (.int .i64 5203), .lit (.int .i64 589101452), .lit (.int .i64 230792472222)], .agg [.lit (.string [115, 97, 116, 117, 114, 110]), .lit (.int .i64 9537), .lit (.int .i64 310632725), .lit (.int .i64 92900388889)]]

/-- 'ephemerislaw2.TrigSins': WHATEVER THE INPUT: true; the input reads as it did. -/
def trigSinsSpec : ChangeSpec := { name := "trigSins", fn := fun _ => fun
  | [d] => { results := [.lit (.bool true)], args := [d] }
  | _ => none }
def trigSinsRow : OpenClaim := { program := "ytffnmfcaoldlhaadoor", sum := "a4fc1d43ca90b2f700e951bf8939742592af8d5886e65db8d21a937b444fd6c1", func := "ephemeris/ephemerislaw2.TrigSins", spec := "trigSins", inPlace := ["math.Float64bits", "math.Float64frombits", "math/bits.Add64", "math.archFloor", "math.archTrunc", "math.archCeil", "math.sqrt"], named := ["math._cos", "math._sin", "math.mPi4"], apart := false, laid := [("math._sin", laid_math_sin), ("math._cos", laid_math_cos), ("math.mPi4", laid_math_mPi4)] }
def TrigSinsSaid : Prop := trigSinsRow.holds Tryd.pinned (OpenSpec.ofChange trigSinsSpec)

/-- ITS FALSE NEIGHBOUR: 'it returns false'. Refute it at one input. -/
def trigSinsWrong : ChangeSpec := { name := "trigSins", fn := fun _ => fun
  | [d] => { results := [.lit (.bool false)], args := [d] }
  | _ => none }
def TrigSinsWrongFalsely : Prop := trigSinsRow.holds Tryd.pinned (OpenSpec.ofChange trigSinsWrong)

/-- 'ephemerislaw2.TrigArcs': WHATEVER THE INPUT: true; the input reads as it did. -/
def trigArcsSpec : ChangeSpec := { name := "trigArcs", fn := fun _ => fun
  | [d1, d2] => { results := [.lit (.bool true)], args := [d1, d2] }
  | _ => none }
def trigArcsRow : OpenClaim := { program := "ytffnmfcaoldlhaadoor", sum := "a4fc1d43ca90b2f700e951bf8939742592af8d5886e65db8d21a937b444fd6c1", func := "ephemeris/ephemerislaw2.TrigArcs", spec := "trigArcs", inPlace := ["math.Float64bits", "math.Float64frombits", "math/bits.Add64", "math.archFloor", "math.archTrunc", "math.archCeil", "math.sqrt"], named := ["math._cos", "math._sin", "math.mPi4"], apart := false, laid := [("math._sin", laid_math_sin), ("math._cos", laid_math_cos), ("math.mPi4", laid_math_mPi4)] }
def TrigArcsSaid : Prop := trigArcsRow.holds Tryd.pinned (OpenSpec.ofChange trigArcsSpec)

/-- ITS FALSE NEIGHBOUR: 'it returns false'. Refute it at one input. -/
def trigArcsWrong : ChangeSpec := { name := "trigArcs", fn := fun _ => fun
  | [d1, d2] => { results := [.lit (.bool false)], args := [d1, d2] }
  | _ => none }
def TrigArcsWrongFalsely : Prop := trigArcsRow.holds Tryd.pinned (OpenSpec.ofChange trigArcsWrong)

/-- 'ephemerislaw2.TrigRoots': WHATEVER THE INPUT: true; the input reads as it did. -/
def trigRootsSpec : ChangeSpec := { name := "trigRoots", fn := fun _ => fun
  | [d] => { results := [.lit (.bool true)], args := [d] }
  | _ => none }
def trigRootsRow : OpenClaim := { program := "ytffnmfcaoldlhaadoor", sum := "a4fc1d43ca90b2f700e951bf8939742592af8d5886e65db8d21a937b444fd6c1", func := "ephemeris/ephemerislaw2.TrigRoots", spec := "trigRoots", inPlace := ["math.Float64bits", "math.Float64frombits", "math/bits.Add64", "math.archFloor", "math.archTrunc", "math.archCeil", "math.sqrt"], named := ["math._cos", "math._sin", "math.mPi4"], apart := false, laid := [("math._sin", laid_math_sin), ("math._cos", laid_math_cos), ("math.mPi4", laid_math_mPi4)] }
def TrigRootsSaid : Prop := trigRootsRow.holds Tryd.pinned (OpenSpec.ofChange trigRootsSpec)

/-- ITS FALSE NEIGHBOUR: 'it returns false'. Refute it at one input. -/
def trigRootsWrong : ChangeSpec := { name := "trigRoots", fn := fun _ => fun
  | [d] => { results := [.lit (.bool false)], args := [d] }
  | _ => none }
def TrigRootsWrongFalsely : Prop := trigRootsRow.holds Tryd.pinned (OpenSpec.ofChange trigRootsWrong)

/-- 'ephemerislaw2.TrigArcSins': WHATEVER THE INPUT: true; the input reads as it did. -/
def trigArcSinsSpec : ChangeSpec := { name := "trigArcSins", fn := fun _ => fun
  | [d] => { results := [.lit (.bool true)], args := [d] }
  | _ => none }
def trigArcSinsRow : OpenClaim := { program := "ytffnmfcaoldlhaadoor", sum := "a4fc1d43ca90b2f700e951bf8939742592af8d5886e65db8d21a937b444fd6c1", func := "ephemeris/ephemerislaw2.TrigArcSins", spec := "trigArcSins", inPlace := ["math.Float64bits", "math.Float64frombits", "math/bits.Add64", "math.archFloor", "math.archTrunc", "math.archCeil", "math.sqrt"], named := ["math._cos", "math._sin", "math.mPi4"], apart := false, laid := [("math._sin", laid_math_sin), ("math._cos", laid_math_cos), ("math.mPi4", laid_math_mPi4)] }
def TrigArcSinsSaid : Prop := trigArcSinsRow.holds Tryd.pinned (OpenSpec.ofChange trigArcSinsSpec)

/-- ITS FALSE NEIGHBOUR: 'it returns false'. Refute it at one input. -/
def trigArcSinsWrong : ChangeSpec := { name := "trigArcSins", fn := fun _ => fun
  | [d] => { results := [.lit (.bool false)], args := [d] }
  | _ => none }
def TrigArcSinsWrongFalsely : Prop := trigArcSinsRow.holds Tryd.pinned (OpenSpec.ofChange trigArcSinsWrong)

/-- 'ephemerislaw2.TrigOvers': WHATEVER THE INPUT: true; the input reads as it did. -/
def trigOversSpec : ChangeSpec := { name := "trigOvers", fn := fun _ => fun
  | [d1, d2] => { results := [.lit (.bool true)], args := [d1, d2] }
  | _ => none }
def trigOversRow : OpenClaim := { program := "ytffnmfcaoldlhaadoor", sum := "a4fc1d43ca90b2f700e951bf8939742592af8d5886e65db8d21a937b444fd6c1", func := "ephemeris/ephemerislaw2.TrigOvers", spec := "trigOvers", inPlace := ["math.Float64bits", "math.Float64frombits", "math/bits.Add64", "math.archFloor", "math.archTrunc", "math.archCeil", "math.sqrt"], named := ["math._cos", "math._sin", "math.mPi4"], apart := false, laid := [("math._sin", laid_math_sin), ("math._cos", laid_math_cos), ("math.mPi4", laid_math_mPi4)] }
def TrigOversSaid : Prop := trigOversRow.holds Tryd.pinned (OpenSpec.ofChange trigOversSpec)

/-- ITS FALSE NEIGHBOUR: 'it returns false'. Refute it at one input. -/
def trigOversWrong : ChangeSpec := { name := "trigOvers", fn := fun _ => fun
  | [d1, d2] => { results := [.lit (.bool false)], args := [d1, d2] }
  | _ => none }
def TrigOversWrongFalsely : Prop := trigOversRow.holds Tryd.pinned (OpenSpec.ofChange trigOversWrong)

/-- 'ephemerislaw2.SeriesChecks': WHATEVER THE INPUT: true; the input reads as it did. -/
def seriesChecksSpec : ChangeSpec := { name := "seriesChecks", fn := fun _ => fun
  | [d] => { results := [.lit (.bool true)], args := [d] }
  | _ => none }
def seriesChecksRow : OpenClaim := { program := "ytffnmfcaoldlhaadoor", sum := "a4fc1d43ca90b2f700e951bf8939742592af8d5886e65db8d21a937b444fd6c1", func := "ephemeris/ephemerislaw2.SeriesChecks", spec := "seriesChecks", inPlace := ["math.Float64bits", "math.Float64frombits", "math/bits.Add64", "math.archFloor", "math.archTrunc", "math.archCeil"], named := ["math/bits.divideError", "math/bits.overflowError", "math._cos", "math._sin", "math.mPi4"], apart := false, laid := [("math._sin", laid_math_sin), ("math._cos", laid_math_cos), ("math.mPi4", laid_math_mPi4)] }
def SeriesChecksSaid : Prop := seriesChecksRow.holds Tryd.pinned (OpenSpec.ofChange seriesChecksSpec)

/-- ITS FALSE NEIGHBOUR: 'it returns false'. Refute it at one input. -/
def seriesChecksWrong : ChangeSpec := { name := "seriesChecks", fn := fun _ => fun
  | [d] => { results := [.lit (.bool false)], args := [d] }
  | _ => none }
def SeriesChecksWrongFalsely : Prop := seriesChecksRow.holds Tryd.pinned (OpenSpec.ofChange seriesChecksWrong)

/-- 'ephemerislaw2.SeriesValues': WHATEVER THE INPUT: true; the input reads as it did. -/
def seriesValuesSpec : ChangeSpec := { name := "seriesValues", fn := fun _ => fun
  | [d1, d2] => { results := [.lit (.bool true)], args := [d1, d2] }
  | _ => none }
def seriesValuesRow : OpenClaim := { program := "ytffnmfcaoldlhaadoor", sum := "a4fc1d43ca90b2f700e951bf8939742592af8d5886e65db8d21a937b444fd6c1", func := "ephemeris/ephemerislaw2.SeriesValues", spec := "seriesValues", inPlace := ["math.Float64bits", "math.Float64frombits", "math/bits.Add64", "math.archFloor", "math.archTrunc", "math.archCeil"], named := ["math/bits.divideError", "math/bits.overflowError", "math._cos", "math._sin", "math.mPi4"], apart := false, laid := [("math._sin", laid_math_sin), ("math._cos", laid_math_cos), ("math.mPi4", laid_math_mPi4)] }
def SeriesValuesSaid : Prop := seriesValuesRow.holds Tryd.pinned (OpenSpec.ofChange seriesValuesSpec)

/-- ITS FALSE NEIGHBOUR: 'it returns false'. Refute it at one input. -/
def seriesValuesWrong : ChangeSpec := { name := "seriesValues", fn := fun _ => fun
  | [d1, d2] => { results := [.lit (.bool false)], args := [d1, d2] }
  | _ => none }
def SeriesValuesWrongFalsely : Prop := seriesValuesRow.holds Tryd.pinned (OpenSpec.ofChange seriesValuesWrong)

/-- 'ephemerislaw2.SeriesAngles': WHATEVER THE INPUT: true; the input reads as it did. -/
def seriesAnglesSpec : ChangeSpec := { name := "seriesAngles", fn := fun _ => fun
  | [d1, d2] => { results := [.lit (.bool true)], args := [d1, d2] }
  | _ => none }
def seriesAnglesRow : OpenClaim := { program := "ytffnmfcaoldlhaadoor", sum := "a4fc1d43ca90b2f700e951bf8939742592af8d5886e65db8d21a937b444fd6c1", func := "ephemeris/ephemerislaw2.SeriesAngles", spec := "seriesAngles", inPlace := ["math.Float64bits", "math.Float64frombits", "math/bits.Add64", "math.archFloor", "math.archTrunc", "math.archCeil"], named := ["math/bits.divideError", "math/bits.overflowError", "math._cos", "math._sin", "math.mPi4"], apart := false, laid := [("math._sin", laid_math_sin), ("math._cos", laid_math_cos), ("math.mPi4", laid_math_mPi4)] }
def SeriesAnglesSaid : Prop := seriesAnglesRow.holds Tryd.pinned (OpenSpec.ofChange seriesAnglesSpec)

/-- ITS FALSE NEIGHBOUR: 'it returns false'. Refute it at one input. -/
def seriesAnglesWrong : ChangeSpec := { name := "seriesAngles", fn := fun _ => fun
  | [d1, d2] => { results := [.lit (.bool false)], args := [d1, d2] }
  | _ => none }
def SeriesAnglesWrongFalsely : Prop := seriesAnglesRow.holds Tryd.pinned (OpenSpec.ofChange seriesAnglesWrong)

/-- 'ephemerislaw2.SeriesSlopes': WHATEVER THE INPUT: true; the input reads as it did. -/
def seriesSlopesSpec : ChangeSpec := { name := "seriesSlopes", fn := fun _ => fun
  | [d1, d2] => { results := [.lit (.bool true)], args := [d1, d2] }
  | _ => none }
def seriesSlopesRow : OpenClaim := { program := "ytffnmfcaoldlhaadoor", sum := "a4fc1d43ca90b2f700e951bf8939742592af8d5886e65db8d21a937b444fd6c1", func := "ephemeris/ephemerislaw2.SeriesSlopes", spec := "seriesSlopes", inPlace := ["math.Float64bits", "math.Float64frombits", "math/bits.Add64", "math.archFloor", "math.archTrunc", "math.archCeil"], named := ["math/bits.divideError", "math/bits.overflowError", "math._cos", "math._sin", "math.mPi4"], apart := false, laid := [("math._sin", laid_math_sin), ("math._cos", laid_math_cos), ("math.mPi4", laid_math_mPi4)] }
def SeriesSlopesSaid : Prop := seriesSlopesRow.holds Tryd.pinned (OpenSpec.ofChange seriesSlopesSpec)

/-- ITS FALSE NEIGHBOUR: 'it returns false'. Refute it at one input. -/
def seriesSlopesWrong : ChangeSpec := { name := "seriesSlopes", fn := fun _ => fun
  | [d1, d2] => { results := [.lit (.bool false)], args := [d1, d2] }
  | _ => none }
def SeriesSlopesWrongFalsely : Prop := seriesSlopesRow.holds Tryd.pinned (OpenSpec.ofChange seriesSlopesWrong)

/-- 'ephemerislaw2.SeriesCrosses': WHATEVER THE INPUT: true; the input reads as it did. -/
def seriesCrossesSpec : ChangeSpec := { name := "seriesCrosses", fn := fun _ => fun
  | [d1, d2, d3, d4] => { results := [.lit (.bool true)], args := [d1, d2, d3, d4] }
  | _ => none }
def seriesCrossesRow : OpenClaim := { program := "ytffnmfcaoldlhaadoor", sum := "a4fc1d43ca90b2f700e951bf8939742592af8d5886e65db8d21a937b444fd6c1", func := "ephemeris/ephemerislaw2.SeriesCrosses", spec := "seriesCrosses", inPlace := ["math.Float64bits", "math.Float64frombits", "math/bits.Add64", "math.archFloor", "math.archTrunc", "math.archCeil"], unfollowed := true, recurses := true, named := ["math/bits.divideError", "math/bits.overflowError", "math._cos", "math._sin", "math.mPi4"], apart := false, laid := [("math._sin", laid_math_sin), ("math._cos", laid_math_cos), ("math.mPi4", laid_math_mPi4)] }
def SeriesCrossesSaid : Prop := seriesCrossesRow.holds Tryd.pinned (OpenSpec.ofChange seriesCrossesSpec)

/-- ITS FALSE NEIGHBOUR: 'it returns false'. Refute it at one input. -/
def seriesCrossesWrong : ChangeSpec := { name := "seriesCrosses", fn := fun _ => fun
  | [d1, d2, d3, d4] => { results := [.lit (.bool false)], args := [d1, d2, d3, d4] }
  | _ => none }
def SeriesCrossesWrongFalsely : Prop := seriesCrossesRow.holds Tryd.pinned (OpenSpec.ofChange seriesCrossesWrong)

/-- 'ephemerislaw2.PlanetHelios': WHATEVER THE INPUT: true; the input reads as it did. -/
def planetHeliosSpec : ChangeSpec := { name := "planetHelios", fn := fun _ => fun
  | [d1, d2] => { results := [.lit (.bool true)], args := [d1, d2] }
  | _ => none }
def planetHeliosRow : OpenClaim := { program := "ytffnmfcaoldlhaadoor", sum := "a4fc1d43ca90b2f700e951bf8939742592af8d5886e65db8d21a937b444fd6c1", func := "ephemeris/ephemerislaw2.PlanetHelios", spec := "planetHelios", inPlace := ["math.Float64bits", "math.Float64frombits", "math/bits.Add64", "math.archFloor", "math.archTrunc", "math.archCeil"], named := ["ephemeris/planet.table", "math/bits.divideError", "math/bits.overflowError", "math._cos", "math._sin", "math.mPi4"], apart := false, laid := [("math._sin", laid_math_sin), ("math._cos", laid_math_cos), ("math.mPi4", laid_math_mPi4), ("ephemeris/planet.table", laid_ephemeris_planet_table)] }
def PlanetHeliosSaid : Prop := planetHeliosRow.holds Tryd.pinned (OpenSpec.ofChange planetHeliosSpec)

/-- ITS FALSE NEIGHBOUR: 'it returns false'. Refute it at one input. -/
def planetHeliosWrong : ChangeSpec := { name := "planetHelios", fn := fun _ => fun
  | [d1, d2] => { results := [.lit (.bool false)], args := [d1, d2] }
  | _ => none }
def PlanetHeliosWrongFalsely : Prop := planetHeliosRow.holds Tryd.pinned (OpenSpec.ofChange planetHeliosWrong)

/-- 'ephemerislaw2.MoonLongitudes': WHATEVER THE INPUT: true; the input reads as it did. -/
def moonLongitudesSpec : ChangeSpec := { name := "moonLongitudes", fn := fun _ => fun
  | [d1, d2] => { results := [.lit (.bool true)], args := [d1, d2] }
  | _ => none }
def moonLongitudesRow : OpenClaim := { program := "ytffnmfcaoldlhaadoor", sum := "a4fc1d43ca90b2f700e951bf8939742592af8d5886e65db8d21a937b444fd6c1", func := "ephemeris/ephemerislaw2.MoonLongitudes", spec := "moonLongitudes", inPlace := ["math.Float64bits", "math.Float64frombits", "math/bits.Add64", "math.archFloor", "math.archTrunc", "math.archCeil"], named := ["math/bits.divideError", "math/bits.overflowError", "math._cos", "math._sin", "math.mPi4"], apart := false, laid := [("math._sin", laid_math_sin), ("math._cos", laid_math_cos), ("math.mPi4", laid_math_mPi4)] }
def MoonLongitudesSaid : Prop := moonLongitudesRow.holds Tryd.pinned (OpenSpec.ofChange moonLongitudesSpec)

/-- ITS FALSE NEIGHBOUR: 'it returns false'. Refute it at one input. -/
def moonLongitudesWrong : ChangeSpec := { name := "moonLongitudes", fn := fun _ => fun
  | [d1, d2] => { results := [.lit (.bool false)], args := [d1, d2] }
  | _ => none }
def MoonLongitudesWrongFalsely : Prop := moonLongitudesRow.holds Tryd.pinned (OpenSpec.ofChange moonLongitudesWrong)

/- THE SECOND FORM. 'bulk': how many values and letters a reading holds, each counted each time it is reached (what is shared counts as often as it is met; a slice's spare places count too). A statement '..UptoSaid' is the law's where the arguments, and the package variables that the reading takes, are together of bulk at most 1048576: NARROWER than '..Said'. Prove '..Said' where nothing that the law and all that it calls make is longer than what came in: it says more and counts as full. Else prove '..UptoSaid'. A law counts once. -/
mutual
def uptoBulk {H : Type} : DataW H → Nat
  | .lit (.string bytes) => bytes.length + 1
  | .lit _ => 1
  | .nil => 1
  | .ptr d => uptoBulk d + 1
  | .slice elems spare => uptoBulkAll elems + uptoBulkAll spare + 1
  | .agg parts => uptoBulkAll parts + 1
  | .iface _ d => uptoBulk d + 1
  | .map entries => uptoBulkEntries entries + 1
  | .held _ => 1
def uptoBulkAll {H : Type} : List (DataW H) → Nat
  | [] => 0
  | d :: r => uptoBulk d + uptoBulkAll r
def uptoBulkEntries {H : Type} : List (Lit × DataW H) → Nat
  | [] => 0
  | x :: r => uptoBulkEntry x + uptoBulkEntries r
def uptoBulkEntry {H : Type} : Lit × DataW H → Nat
  | (.string bytes, d) => bytes.length + uptoBulk d + 1
  | (_, d) => uptoBulk d + 1
 end
def uptoSmall : (H : Type) → List (DataW H) → Bool := fun _ ds => decide (uptoBulkAll ds ≤ 1048576)
def OpenSpec.upto (s : _root_.Go.ChangeSpec) : _root_.Go.OpenSpec := { _root_.Go.OpenSpec.ofChange s with cond := some uptoSmall }

/-- 'ephemerislaw2.TrigSins', WHERE WHAT IT READS IS OF BULK AT MOST 1048576: true; the input reads as it did. -/
def trigSinsUptoRow : OpenClaim := { program := "ytffnmfcaoldlhaadoor", sum := "a4fc1d43ca90b2f700e951bf8939742592af8d5886e65db8d21a937b444fd6c1", func := "ephemeris/ephemerislaw2.TrigSins", spec := "trigSins", inPlace := ["math.Float64bits", "math.Float64frombits", "math/bits.Add64", "math.archFloor", "math.archTrunc", "math.archCeil", "math.sqrt"], named := ["math._cos", "math._sin", "math.mPi4"], apart := false, laid := [("math._sin", laid_math_sin), ("math._cos", laid_math_cos), ("math.mPi4", laid_math_mPi4)], narrowed := true }
def TrigSinsUptoSaid : Prop := trigSinsUptoRow.holds Tryd.pinned (OpenSpec.upto trigSinsSpec)

/-- 'ephemerislaw2.TrigArcs', WHERE WHAT IT READS IS OF BULK AT MOST 1048576: true; the input reads as it did. -/
def trigArcsUptoRow : OpenClaim := { program := "ytffnmfcaoldlhaadoor", sum := "a4fc1d43ca90b2f700e951bf8939742592af8d5886e65db8d21a937b444fd6c1", func := "ephemeris/ephemerislaw2.TrigArcs", spec := "trigArcs", inPlace := ["math.Float64bits", "math.Float64frombits", "math/bits.Add64", "math.archFloor", "math.archTrunc", "math.archCeil", "math.sqrt"], named := ["math._cos", "math._sin", "math.mPi4"], apart := false, laid := [("math._sin", laid_math_sin), ("math._cos", laid_math_cos), ("math.mPi4", laid_math_mPi4)], narrowed := true }
def TrigArcsUptoSaid : Prop := trigArcsUptoRow.holds Tryd.pinned (OpenSpec.upto trigArcsSpec)

/-- 'ephemerislaw2.TrigRoots', WHERE WHAT IT READS IS OF BULK AT MOST 1048576: true; the input reads as it did. -/
def trigRootsUptoRow : OpenClaim := { program := "ytffnmfcaoldlhaadoor", sum := "a4fc1d43ca90b2f700e951bf8939742592af8d5886e65db8d21a937b444fd6c1", func := "ephemeris/ephemerislaw2.TrigRoots", spec := "trigRoots", inPlace := ["math.Float64bits", "math.Float64frombits", "math/bits.Add64", "math.archFloor", "math.archTrunc", "math.archCeil", "math.sqrt"], named := ["math._cos", "math._sin", "math.mPi4"], apart := false, laid := [("math._sin", laid_math_sin), ("math._cos", laid_math_cos), ("math.mPi4", laid_math_mPi4)], narrowed := true }
def TrigRootsUptoSaid : Prop := trigRootsUptoRow.holds Tryd.pinned (OpenSpec.upto trigRootsSpec)

/-- 'ephemerislaw2.TrigArcSins', WHERE WHAT IT READS IS OF BULK AT MOST 1048576: true; the input reads as it did. -/
def trigArcSinsUptoRow : OpenClaim := { program := "ytffnmfcaoldlhaadoor", sum := "a4fc1d43ca90b2f700e951bf8939742592af8d5886e65db8d21a937b444fd6c1", func := "ephemeris/ephemerislaw2.TrigArcSins", spec := "trigArcSins", inPlace := ["math.Float64bits", "math.Float64frombits", "math/bits.Add64", "math.archFloor", "math.archTrunc", "math.archCeil", "math.sqrt"], named := ["math._cos", "math._sin", "math.mPi4"], apart := false, laid := [("math._sin", laid_math_sin), ("math._cos", laid_math_cos), ("math.mPi4", laid_math_mPi4)], narrowed := true }
def TrigArcSinsUptoSaid : Prop := trigArcSinsUptoRow.holds Tryd.pinned (OpenSpec.upto trigArcSinsSpec)

/-- 'ephemerislaw2.TrigOvers', WHERE WHAT IT READS IS OF BULK AT MOST 1048576: true; the input reads as it did. -/
def trigOversUptoRow : OpenClaim := { program := "ytffnmfcaoldlhaadoor", sum := "a4fc1d43ca90b2f700e951bf8939742592af8d5886e65db8d21a937b444fd6c1", func := "ephemeris/ephemerislaw2.TrigOvers", spec := "trigOvers", inPlace := ["math.Float64bits", "math.Float64frombits", "math/bits.Add64", "math.archFloor", "math.archTrunc", "math.archCeil", "math.sqrt"], named := ["math._cos", "math._sin", "math.mPi4"], apart := false, laid := [("math._sin", laid_math_sin), ("math._cos", laid_math_cos), ("math.mPi4", laid_math_mPi4)], narrowed := true }
def TrigOversUptoSaid : Prop := trigOversUptoRow.holds Tryd.pinned (OpenSpec.upto trigOversSpec)

/-- 'ephemerislaw2.SeriesChecks', WHERE WHAT IT READS IS OF BULK AT MOST 1048576: true; the input reads as it did. -/
def seriesChecksUptoRow : OpenClaim := { program := "ytffnmfcaoldlhaadoor", sum := "a4fc1d43ca90b2f700e951bf8939742592af8d5886e65db8d21a937b444fd6c1", func := "ephemeris/ephemerislaw2.SeriesChecks", spec := "seriesChecks", inPlace := ["math.Float64bits", "math.Float64frombits", "math/bits.Add64", "math.archFloor", "math.archTrunc", "math.archCeil"], named := ["math/bits.divideError", "math/bits.overflowError", "math._cos", "math._sin", "math.mPi4"], apart := false, laid := [("math._sin", laid_math_sin), ("math._cos", laid_math_cos), ("math.mPi4", laid_math_mPi4)], narrowed := true }
def SeriesChecksUptoSaid : Prop := seriesChecksUptoRow.holds Tryd.pinned (OpenSpec.upto seriesChecksSpec)

/-- 'ephemerislaw2.SeriesValues', WHERE WHAT IT READS IS OF BULK AT MOST 1048576: true; the input reads as it did. -/
def seriesValuesUptoRow : OpenClaim := { program := "ytffnmfcaoldlhaadoor", sum := "a4fc1d43ca90b2f700e951bf8939742592af8d5886e65db8d21a937b444fd6c1", func := "ephemeris/ephemerislaw2.SeriesValues", spec := "seriesValues", inPlace := ["math.Float64bits", "math.Float64frombits", "math/bits.Add64", "math.archFloor", "math.archTrunc", "math.archCeil"], named := ["math/bits.divideError", "math/bits.overflowError", "math._cos", "math._sin", "math.mPi4"], apart := false, laid := [("math._sin", laid_math_sin), ("math._cos", laid_math_cos), ("math.mPi4", laid_math_mPi4)], narrowed := true }
def SeriesValuesUptoSaid : Prop := seriesValuesUptoRow.holds Tryd.pinned (OpenSpec.upto seriesValuesSpec)

/-- 'ephemerislaw2.SeriesAngles', WHERE WHAT IT READS IS OF BULK AT MOST 1048576: true; the input reads as it did. -/
def seriesAnglesUptoRow : OpenClaim := { program := "ytffnmfcaoldlhaadoor", sum := "a4fc1d43ca90b2f700e951bf8939742592af8d5886e65db8d21a937b444fd6c1", func := "ephemeris/ephemerislaw2.SeriesAngles", spec := "seriesAngles", inPlace := ["math.Float64bits", "math.Float64frombits", "math/bits.Add64", "math.archFloor", "math.archTrunc", "math.archCeil"], named := ["math/bits.divideError", "math/bits.overflowError", "math._cos", "math._sin", "math.mPi4"], apart := false, laid := [("math._sin", laid_math_sin), ("math._cos", laid_math_cos), ("math.mPi4", laid_math_mPi4)], narrowed := true }
def SeriesAnglesUptoSaid : Prop := seriesAnglesUptoRow.holds Tryd.pinned (OpenSpec.upto seriesAnglesSpec)

/-- 'ephemerislaw2.SeriesSlopes', WHERE WHAT IT READS IS OF BULK AT MOST 1048576: true; the input reads as it did. -/
def seriesSlopesUptoRow : OpenClaim := { program := "ytffnmfcaoldlhaadoor", sum := "a4fc1d43ca90b2f700e951bf8939742592af8d5886e65db8d21a937b444fd6c1", func := "ephemeris/ephemerislaw2.SeriesSlopes", spec := "seriesSlopes", inPlace := ["math.Float64bits", "math.Float64frombits", "math/bits.Add64", "math.archFloor", "math.archTrunc", "math.archCeil"], named := ["math/bits.divideError", "math/bits.overflowError", "math._cos", "math._sin", "math.mPi4"], apart := false, laid := [("math._sin", laid_math_sin), ("math._cos", laid_math_cos), ("math.mPi4", laid_math_mPi4)], narrowed := true }
def SeriesSlopesUptoSaid : Prop := seriesSlopesUptoRow.holds Tryd.pinned (OpenSpec.upto seriesSlopesSpec)

/-- 'ephemerislaw2.SeriesCrosses', WHERE WHAT IT READS IS OF BULK AT MOST 1048576: true; the input reads as it did. -/
def seriesCrossesUptoRow : OpenClaim := { program := "ytffnmfcaoldlhaadoor", sum := "a4fc1d43ca90b2f700e951bf8939742592af8d5886e65db8d21a937b444fd6c1", func := "ephemeris/ephemerislaw2.SeriesCrosses", spec := "seriesCrosses", inPlace := ["math.Float64bits", "math.Float64frombits", "math/bits.Add64", "math.archFloor", "math.archTrunc", "math.archCeil"], unfollowed := true, recurses := true, named := ["math/bits.divideError", "math/bits.overflowError", "math._cos", "math._sin", "math.mPi4"], apart := false, laid := [("math._sin", laid_math_sin), ("math._cos", laid_math_cos), ("math.mPi4", laid_math_mPi4)], narrowed := true }
def SeriesCrossesUptoSaid : Prop := seriesCrossesUptoRow.holds Tryd.pinned (OpenSpec.upto seriesCrossesSpec)

/-- 'ephemerislaw2.PlanetHelios', WHERE WHAT IT READS IS OF BULK AT MOST 1048576: true; the input reads as it did. -/
def planetHeliosUptoRow : OpenClaim := { program := "ytffnmfcaoldlhaadoor", sum := "a4fc1d43ca90b2f700e951bf8939742592af8d5886e65db8d21a937b444fd6c1", func := "ephemeris/ephemerislaw2.PlanetHelios", spec := "planetHelios", inPlace := ["math.Float64bits", "math.Float64frombits", "math/bits.Add64", "math.archFloor", "math.archTrunc", "math.archCeil"], named := ["ephemeris/planet.table", "math/bits.divideError", "math/bits.overflowError", "math._cos", "math._sin", "math.mPi4"], apart := false, laid := [("math._sin", laid_math_sin), ("math._cos", laid_math_cos), ("math.mPi4", laid_math_mPi4), ("ephemeris/planet.table", laid_ephemeris_planet_table)], narrowed := true }
def PlanetHeliosUptoSaid : Prop := planetHeliosUptoRow.holds Tryd.pinned (OpenSpec.upto planetHeliosSpec)

/-- 'ephemerislaw2.MoonLongitudes', WHERE WHAT IT READS IS OF BULK AT MOST 1048576: true; the input reads as it did. -/
def moonLongitudesUptoRow : OpenClaim := { program := "ytffnmfcaoldlhaadoor", sum := "a4fc1d43ca90b2f700e951bf8939742592af8d5886e65db8d21a937b444fd6c1", func := "ephemeris/ephemerislaw2.MoonLongitudes", spec := "moonLongitudes", inPlace := ["math.Float64bits", "math.Float64frombits", "math/bits.Add64", "math.archFloor", "math.archTrunc", "math.archCeil"], named := ["math/bits.divideError", "math/bits.overflowError", "math._cos", "math._sin", "math.mPi4"], apart := false, laid := [("math._sin", laid_math_sin), ("math._cos", laid_math_cos), ("math.mPi4", laid_math_mPi4)], narrowed := true }
def MoonLongitudesUptoSaid : Prop := moonLongitudesUptoRow.holds Tryd.pinned (OpenSpec.upto moonLongitudesSpec)

end Rows
end Go.Proofs.YtffnmfcaoldlhaaDoor
