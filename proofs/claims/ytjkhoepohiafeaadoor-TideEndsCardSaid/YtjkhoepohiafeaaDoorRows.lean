/-
  NARROWER THAN 'FOR EVERY INPUT', by the rows' own cells (each row's printed sentence says how): DialLines: laid · PlanetLongitudes: laid · PlanetElongations: laid · AstrolabeRings: laid · AstrolabeStars: laid · AstrolabeAlmucantars: laid · TideHeights: laid · TideEnds: laid.
  DERIVED. THE GIVEN ROWS OF THIS SEAT. 8 by the template 'for every input the law returns true; each argument reads behind the call as it read before'; 0 by the template 'total and deterministic' (their statements: YtjkhoepohiafeaaDoorTotals.lean).
  GIVEN WITH THE SEED: the statements are not yours to turn. If you find one false, say at which input.
  Laid BY PROGRAM, IN A SANDBOX (cutbox-rows.mjs): the forced cells as the released guide's own fill.sh prints them over the translation b6bf272d3187ffa8… (all of the seat's roots in one cut). By AI agents, Wed Nov 11 2026. No macro, syntax, notation, axiom, sorry.
-/
import Derived.Test.YtjkhoepohiafeaaDoorChecked
import GoSem.Claim
import GoSem.ClaimJoined
import GoSem.ClaimMapViews
import Derived.JoinedTies
import Derived.KernelRfl
namespace Go.Proofs.YtjkhoepohiafeaaDoor
/- THE CELL 'sum', in the pinned program and in every row, IS THE sha256 OF THE DUMP (.gsa) THAT YtjkhoepohiafeaaDoorProg.lean LOADS. Nothing in Lean hashes anything: it is a label: what it is worth is what the hold of that sum in a sandbox is worth. -/
noncomputable def Tryd.pinned : Pinned := { name := "ytjkhoepohiafeaadoor", sum := "b6bf272d3187ffa80985befd2ebd147aa0f563e39edce205df4bbef6b115fb12", checked := Tryd.checked }
namespace Rows
def none {H : Type} : Left H := { results := [], args := [] }

/- WHAT THE LISTED PACKAGE-LEVEL VARIABLES READ AS WHEN THE CALL BEGINS. Each datum BY PROGRAM (the guide's laid-datum.mjs) off the statement by which the dump's own 'gosem.cut.vars' lays the variable. In a bare row this is a premise. The card (YtjkhoepohiafeaaDoorCards.lean) ties it to the program's text. -/
def laid_math_sin {H : Type} : DataW H := .agg [.lit (.float .f64 4460209587652500685), .lit (.float .f64 13716528389658582877), .lit (.float .f64 4523617212962785441), .lit (.float .f64 13774824197404483331), .lit (.float .f64 4575957461383575504), .lit (.float .f64 13818544856648471880)]
def laid_math_cos {H : Type} : DataW H := .agg [.lit (.float .f64 13666448263388469915), .lit (.float .f64 4477121864728985349), .lit (.float .f64 13732177093698800582), .lit (.float .f64 4537941361668146421), .lit (.float .f64 13787419979223748497), .lit (.float .f64 4586165620538955083)]
def laid_math_mPi4 {H : Type} : DataW H := .agg [.lit (.int .u64 1), .lit (.int .u64 5040379952546458195), .lit (.int .u64 17892431488136887169), .lit (.int .u64 13169980181085364355), .lit (.int .u64 18204331823439776451), .lit (.int .u64 7946843935494350272), .lit (.int .u64 905889640498799673), .lit (.int .u64 18175356263134875261), .lit (.int .u64 15061281708168349961), .lit (.int .u64 15220161563773041794), .lit (.int .u64 8296664548579374057), .lit (.int .u64 4109744767560208502), .lit (.int .u64 4607516669194743839), .lit (.int .u64 16023283104648321598), .lit (.int .u64 15739233654134936430), .lit (.int .u64 11424645774684705882), .lit (.int .u64 16883842788696515318), .lit (.int .u64 8795094592981902804), .lit (.int .u64 15561835991111744016), .lit (.int .u64 12395701187267450711)]
def laid_ephemeris_planet_table {H : Type} : DataW H := .agg [.agg [.lit (.string [109, 101, 114, 99, 117, 114, 121]), .lit (.int .i64 387), .lit (.int .i64 986042219), .lit (.int .i64 11367595694444)], .agg [.lit (.string [118, 101, 110, 117, 115]), .lit (.int .i64 723), .lit (.int .i64 204930817), .lit (.int .i64 4450362055556)], .agg [.lit (.string [109, 97, 114, 115]), .lit (.int .i64 1524), .lit (.int .i64 214414189), .lit (.int .i64 1455613000000)], .agg [.lit (.string [106, 117, 112, 105, 116, 101, 114]), .lit (.int .i64 5203), .lit (.int .i64 589101452), .lit (.int .i64 230792472222)], .agg [.lit (.string [115, 97, 116, 117, 114, 110]), .lit (.int .i64 9537), .lit (.int .i64 310632725), .lit (.int .i64 92900388889)]]

/-- 'ephemerislaw2.DialLines': WHATEVER THE INPUT: true; the input reads as it did. -/
def dialLinesSpec : ChangeSpec := { name := "dialLines", fn := fun _ => fun
  | [d1, d2] => { results := [.lit (.bool true)], args := [d1, d2] }
  | _ => none }
def dialLinesRow : OpenClaim := { program := "ytjkhoepohiafeaadoor", sum := "b6bf272d3187ffa80985befd2ebd147aa0f563e39edce205df4bbef6b115fb12", func := "ephemeris/ephemerislaw2.DialLines", spec := "dialLines", inPlace := ["math.Float64bits", "math.Float64frombits", "math/bits.Add64", "math.archFloor", "math.archTrunc", "math.archCeil"], named := ["math._cos", "math._sin", "math.mPi4", "math/bits.divideError", "math/bits.overflowError"], apart := false, laid := [("math._sin", laid_math_sin), ("math._cos", laid_math_cos), ("math.mPi4", laid_math_mPi4)] }
def DialLinesSaid : Prop := dialLinesRow.holds Tryd.pinned (OpenSpec.ofChange dialLinesSpec)

/-- ITS FALSE NEIGHBOUR: 'it returns false'. Refute it at one input. -/
def dialLinesWrong : ChangeSpec := { name := "dialLines", fn := fun _ => fun
  | [d1, d2] => { results := [.lit (.bool false)], args := [d1, d2] }
  | _ => none }
def DialLinesWrongFalsely : Prop := dialLinesRow.holds Tryd.pinned (OpenSpec.ofChange dialLinesWrong)

/-- 'ephemerislaw2.PlanetLongitudes': WHATEVER THE INPUT: true; the input reads as it did. -/
def planetLongitudesSpec : ChangeSpec := { name := "planetLongitudes", fn := fun _ => fun
  | [d1, d2] => { results := [.lit (.bool true)], args := [d1, d2] }
  | _ => none }
def planetLongitudesRow : OpenClaim := { program := "ytjkhoepohiafeaadoor", sum := "b6bf272d3187ffa80985befd2ebd147aa0f563e39edce205df4bbef6b115fb12", func := "ephemeris/ephemerislaw2.PlanetLongitudes", spec := "planetLongitudes", inPlace := ["math.Float64bits", "math.Float64frombits", "math/bits.Add64", "math.archFloor", "math.archTrunc", "math.archCeil"], named := ["ephemeris/planet.table", "math/bits.divideError", "math/bits.overflowError", "math._cos", "math._sin", "math.mPi4"], apart := false, laid := [("math._sin", laid_math_sin), ("math._cos", laid_math_cos), ("math.mPi4", laid_math_mPi4), ("ephemeris/planet.table", laid_ephemeris_planet_table)] }
def PlanetLongitudesSaid : Prop := planetLongitudesRow.holds Tryd.pinned (OpenSpec.ofChange planetLongitudesSpec)

/-- ITS FALSE NEIGHBOUR: 'it returns false'. Refute it at one input. -/
def planetLongitudesWrong : ChangeSpec := { name := "planetLongitudes", fn := fun _ => fun
  | [d1, d2] => { results := [.lit (.bool false)], args := [d1, d2] }
  | _ => none }
def PlanetLongitudesWrongFalsely : Prop := planetLongitudesRow.holds Tryd.pinned (OpenSpec.ofChange planetLongitudesWrong)

/-- 'ephemerislaw2.PlanetElongations': WHATEVER THE INPUT: true; the input reads as it did. -/
def planetElongationsSpec : ChangeSpec := { name := "planetElongations", fn := fun _ => fun
  | [d1, d2] => { results := [.lit (.bool true)], args := [d1, d2] }
  | _ => none }
def planetElongationsRow : OpenClaim := { program := "ytjkhoepohiafeaadoor", sum := "b6bf272d3187ffa80985befd2ebd147aa0f563e39edce205df4bbef6b115fb12", func := "ephemeris/ephemerislaw2.PlanetElongations", spec := "planetElongations", inPlace := ["math.Float64bits", "math.Float64frombits", "math/bits.Add64", "math.archFloor", "math.archTrunc", "math.archCeil"], named := ["ephemeris/planet.table", "math/bits.divideError", "math/bits.overflowError", "math._cos", "math._sin", "math.mPi4"], apart := false, laid := [("math._sin", laid_math_sin), ("math._cos", laid_math_cos), ("math.mPi4", laid_math_mPi4), ("ephemeris/planet.table", laid_ephemeris_planet_table)] }
def PlanetElongationsSaid : Prop := planetElongationsRow.holds Tryd.pinned (OpenSpec.ofChange planetElongationsSpec)

/-- ITS FALSE NEIGHBOUR: 'it returns false'. Refute it at one input. -/
def planetElongationsWrong : ChangeSpec := { name := "planetElongations", fn := fun _ => fun
  | [d1, d2] => { results := [.lit (.bool false)], args := [d1, d2] }
  | _ => none }
def PlanetElongationsWrongFalsely : Prop := planetElongationsRow.holds Tryd.pinned (OpenSpec.ofChange planetElongationsWrong)

/-- 'ephemerislaw2.AstrolabeRings': WHATEVER THE INPUT: true; the input reads as it did. -/
def astrolabeRingsSpec : ChangeSpec := { name := "astrolabeRings", fn := fun _ => fun
  | [d] => { results := [.lit (.bool true)], args := [d] }
  | _ => none }
def astrolabeRingsRow : OpenClaim := { program := "ytjkhoepohiafeaadoor", sum := "b6bf272d3187ffa80985befd2ebd147aa0f563e39edce205df4bbef6b115fb12", func := "ephemeris/ephemerislaw2.AstrolabeRings", spec := "astrolabeRings", inPlace := ["math.Float64bits", "math.Float64frombits", "math/bits.Add64", "math.archFloor", "math.archTrunc", "math.archCeil"], named := ["math._sin", "math._cos", "math.mPi4"], apart := false, laid := [("math._sin", laid_math_sin), ("math._cos", laid_math_cos), ("math.mPi4", laid_math_mPi4)] }
def AstrolabeRingsSaid : Prop := astrolabeRingsRow.holds Tryd.pinned (OpenSpec.ofChange astrolabeRingsSpec)

/-- ITS FALSE NEIGHBOUR: 'it returns false'. Refute it at one input. -/
def astrolabeRingsWrong : ChangeSpec := { name := "astrolabeRings", fn := fun _ => fun
  | [d] => { results := [.lit (.bool false)], args := [d] }
  | _ => none }
def AstrolabeRingsWrongFalsely : Prop := astrolabeRingsRow.holds Tryd.pinned (OpenSpec.ofChange astrolabeRingsWrong)

/-- 'ephemerislaw2.AstrolabeStars': WHATEVER THE INPUT: true; the input reads as it did. -/
def astrolabeStarsSpec : ChangeSpec := { name := "astrolabeStars", fn := fun _ => fun
  | [d1, d2] => { results := [.lit (.bool true)], args := [d1, d2] }
  | _ => none }
def astrolabeStarsRow : OpenClaim := { program := "ytjkhoepohiafeaadoor", sum := "b6bf272d3187ffa80985befd2ebd147aa0f563e39edce205df4bbef6b115fb12", func := "ephemeris/ephemerislaw2.AstrolabeStars", spec := "astrolabeStars", inPlace := ["math.Float64bits", "math.Float64frombits", "math/bits.Add64", "math.archFloor", "math.archTrunc", "math.archCeil"], named := ["math._sin", "math._cos", "math.mPi4"], apart := false, laid := [("math._sin", laid_math_sin), ("math._cos", laid_math_cos), ("math.mPi4", laid_math_mPi4)] }
def AstrolabeStarsSaid : Prop := astrolabeStarsRow.holds Tryd.pinned (OpenSpec.ofChange astrolabeStarsSpec)

/-- ITS FALSE NEIGHBOUR: 'it returns false'. Refute it at one input. -/
def astrolabeStarsWrong : ChangeSpec := { name := "astrolabeStars", fn := fun _ => fun
  | [d1, d2] => { results := [.lit (.bool false)], args := [d1, d2] }
  | _ => none }
def AstrolabeStarsWrongFalsely : Prop := astrolabeStarsRow.holds Tryd.pinned (OpenSpec.ofChange astrolabeStarsWrong)

/-- 'ephemerislaw2.AstrolabeAlmucantars': WHATEVER THE INPUT: true; the input reads as it did. -/
def astrolabeAlmucantarsSpec : ChangeSpec := { name := "astrolabeAlmucantars", fn := fun _ => fun
  | [d1, d2] => { results := [.lit (.bool true)], args := [d1, d2] }
  | _ => none }
def astrolabeAlmucantarsRow : OpenClaim := { program := "ytjkhoepohiafeaadoor", sum := "b6bf272d3187ffa80985befd2ebd147aa0f563e39edce205df4bbef6b115fb12", func := "ephemeris/ephemerislaw2.AstrolabeAlmucantars", spec := "astrolabeAlmucantars", inPlace := ["math.Float64bits", "math.Float64frombits", "math/bits.Add64", "math.archFloor", "math.archTrunc", "math.archCeil"], named := ["math._sin", "math._cos", "math.mPi4"], apart := false, laid := [("math._sin", laid_math_sin), ("math._cos", laid_math_cos), ("math.mPi4", laid_math_mPi4)] }
def AstrolabeAlmucantarsSaid : Prop := astrolabeAlmucantarsRow.holds Tryd.pinned (OpenSpec.ofChange astrolabeAlmucantarsSpec)

/-- ITS FALSE NEIGHBOUR: 'it returns false'. Refute it at one input. -/
def astrolabeAlmucantarsWrong : ChangeSpec := { name := "astrolabeAlmucantars", fn := fun _ => fun
  | [d1, d2] => { results := [.lit (.bool false)], args := [d1, d2] }
  | _ => none }
def AstrolabeAlmucantarsWrongFalsely : Prop := astrolabeAlmucantarsRow.holds Tryd.pinned (OpenSpec.ofChange astrolabeAlmucantarsWrong)

/-- 'ephemerislaw2.TideHeights': WHATEVER THE INPUT: true; the input reads as it did. -/
def tideHeightsSpec : ChangeSpec := { name := "tideHeights", fn := fun _ => fun
  | [d1, d2] => { results := [.lit (.bool true)], args := [d1, d2] }
  | _ => none }
def tideHeightsRow : OpenClaim := { program := "ytjkhoepohiafeaadoor", sum := "b6bf272d3187ffa80985befd2ebd147aa0f563e39edce205df4bbef6b115fb12", func := "ephemeris/ephemerislaw2.TideHeights", spec := "tideHeights", inPlace := ["math.Float64bits", "math.Float64frombits", "math/bits.Add64", "math.archFloor", "math.archTrunc", "math.archCeil"], unfollowed := true, recurses := true, named := ["math/bits.divideError", "math/bits.overflowError", "math._cos", "math._sin", "math.mPi4"], apart := false, laid := [("math._sin", laid_math_sin), ("math._cos", laid_math_cos), ("math.mPi4", laid_math_mPi4)] }
def TideHeightsSaid : Prop := tideHeightsRow.holds Tryd.pinned (OpenSpec.ofChange tideHeightsSpec)

/-- ITS FALSE NEIGHBOUR: 'it returns false'. Refute it at one input. -/
def tideHeightsWrong : ChangeSpec := { name := "tideHeights", fn := fun _ => fun
  | [d1, d2] => { results := [.lit (.bool false)], args := [d1, d2] }
  | _ => none }
def TideHeightsWrongFalsely : Prop := tideHeightsRow.holds Tryd.pinned (OpenSpec.ofChange tideHeightsWrong)

/-- 'ephemerislaw2.TideEnds': WHATEVER THE INPUT: true; the input reads as it did. -/
def tideEndsSpec : ChangeSpec := { name := "tideEnds", fn := fun _ => fun
  | [d1, d2, d3] => { results := [.lit (.bool true)], args := [d1, d2, d3] }
  | _ => none }
def tideEndsRow : OpenClaim := { program := "ytjkhoepohiafeaadoor", sum := "b6bf272d3187ffa80985befd2ebd147aa0f563e39edce205df4bbef6b115fb12", func := "ephemeris/ephemerislaw2.TideEnds", spec := "tideEnds", inPlace := ["math.Float64bits", "math.Float64frombits", "math/bits.Add64", "math.archFloor", "math.archTrunc", "math.archCeil"], unfollowed := true, recurses := true, named := ["math/bits.divideError", "math/bits.overflowError", "math._cos", "math._sin", "math.mPi4"], apart := false, laid := [("math._sin", laid_math_sin), ("math._cos", laid_math_cos), ("math.mPi4", laid_math_mPi4)] }
def TideEndsSaid : Prop := tideEndsRow.holds Tryd.pinned (OpenSpec.ofChange tideEndsSpec)

/-- ITS FALSE NEIGHBOUR: 'it returns false'. Refute it at one input. -/
def tideEndsWrong : ChangeSpec := { name := "tideEnds", fn := fun _ => fun
  | [d1, d2, d3] => { results := [.lit (.bool false)], args := [d1, d2, d3] }
  | _ => none }
def TideEndsWrongFalsely : Prop := tideEndsRow.holds Tryd.pinned (OpenSpec.ofChange tideEndsWrong)

/- THE SECOND FORM. 'bulk': how many values and letters a reading holds, each counted each time it is reached (what is shared counts as often as it is met; a slice's spare places count too). A statement '..UptoSaid' is the law's where the arguments, and the package variables that the reading takes, are together of bulk at most 1048576: NARROWER than '..Said'. Prove '..Said' where nothing that the law and all that it calls make is longer than what came in: it says more and counts as full. Else prove '..UptoSaid'. A law counts once. -/
mutual
def uptoBulk {H : Type} : DataW H → Nat
  | .lit (.string bytes) => bytes.length + 1
  | .lit _ => 1
  | .nil => 1
  | .ptr d => uptoBulk d + 1
  | .slice elems spare => uptoBulkAll elems + uptoBulkAll spare + 1
  | .agg parts => uptoBulkAll parts + 1
  | .iface _ d => uptoBulk d + 1
  | .map entries => uptoBulkEntries entries + 1
  | .held _ => 1
def uptoBulkAll {H : Type} : List (DataW H) → Nat
  | [] => 0
  | d :: r => uptoBulk d + uptoBulkAll r
def uptoBulkEntries {H : Type} : List (Lit × DataW H) → Nat
  | [] => 0
  | x :: r => uptoBulkEntry x + uptoBulkEntries r
def uptoBulkEntry {H : Type} : Lit × DataW H → Nat
  | (.string bytes, d) => bytes.length + uptoBulk d + 1
  | (_, d) => uptoBulk d + 1
 end
def uptoSmall : (H : Type) → List (DataW H) → Bool := fun _ ds => decide (uptoBulkAll ds ≤ 1048576)
def OpenSpec.upto (s : _root_.Go.ChangeSpec) : _root_.Go.OpenSpec := { _root_.Go.OpenSpec.ofChange s with cond := some uptoSmall }

/-- 'ephemerislaw2.DialLines', WHERE WHAT IT READS IS OF BULK AT MOST 1048576: true; the input reads as it did. -/
def dialLinesUptoRow : OpenClaim := { program := "ytjkhoepohiafeaadoor", sum := "b6bf272d3187ffa80985befd2ebd147aa0f563e39edce205df4bbef6b115fb12", func := "ephemeris/ephemerislaw2.DialLines", spec := "dialLines", inPlace := ["math.Float64bits", "math.Float64frombits", "math/bits.Add64", "math.archFloor", "math.archTrunc", "math.archCeil"], named := ["math._cos", "math._sin", "math.mPi4", "math/bits.divideError", "math/bits.overflowError"], apart := false, laid := [("math._sin", laid_math_sin), ("math._cos", laid_math_cos), ("math.mPi4", laid_math_mPi4)], narrowed := true }
def DialLinesUptoSaid : Prop := dialLinesUptoRow.holds Tryd.pinned (OpenSpec.upto dialLinesSpec)

/-- 'ephemerislaw2.PlanetLongitudes', WHERE WHAT IT READS IS OF BULK AT MOST 1048576: true; the input reads as it did. -/
def planetLongitudesUptoRow : OpenClaim := { program := "ytjkhoepohiafeaadoor", sum := "b6bf272d3187ffa80985befd2ebd147aa0f563e39edce205df4bbef6b115fb12", func := "ephemeris/ephemerislaw2.PlanetLongitudes", spec := "planetLongitudes", inPlace := ["math.Float64bits", "math.Float64frombits", "math/bits.Add64", "math.archFloor", "math.archTrunc", "math.archCeil"], named := ["ephemeris/planet.table", "math/bits.divideError", "math/bits.overflowError", "math._cos", "math._sin", "math.mPi4"], apart := false, laid := [("math._sin", laid_math_sin), ("math._cos", laid_math_cos), ("math.mPi4", laid_math_mPi4), ("ephemeris/planet.table", laid_ephemeris_planet_table)], narrowed := true }
def PlanetLongitudesUptoSaid : Prop := planetLongitudesUptoRow.holds Tryd.pinned (OpenSpec.upto planetLongitudesSpec)

/-- 'ephemerislaw2.PlanetElongations', WHERE WHAT IT READS IS OF BULK AT MOST 1048576: true; the input reads as it did. -/
def planetElongationsUptoRow : OpenClaim := { program := "ytjkhoepohiafeaadoor", sum := "b6bf272d3187ffa80985befd2ebd147aa0f563e39edce205df4bbef6b115fb12", func := "ephemeris/ephemerislaw2.PlanetElongations", spec := "planetElongations", inPlace := ["math.Float64bits", "math.Float64frombits", "math/bits.Add64", "math.archFloor", "math.archTrunc", "math.archCeil"], named := ["ephemeris/planet.table", "math/bits.divideError", "math/bits.overflowError", "math._cos", "math._sin", "math.mPi4"], apart := false, laid := [("math._sin", laid_math_sin), ("math._cos", laid_math_cos), ("math.mPi4", laid_math_mPi4), ("ephemeris/planet.table", laid_ephemeris_planet_table)], narrowed := true }
def PlanetElongationsUptoSaid : Prop := planetElongationsUptoRow.holds Tryd.pinned (OpenSpec.upto planetElongationsSpec)

/-- 'ephemerislaw2.AstrolabeRings', WHERE WHAT IT READS IS OF BULK AT MOST 1048576: true; the input reads as it did. -/
def astrolabeRingsUptoRow : OpenClaim := { program := "ytjkhoepohiafeaadoor", sum := "b6bf272d3187ffa80985befd2ebd147aa0f563e39edce205df4bbef6b115fb12", func := "ephemeris/ephemerislaw2.AstrolabeRings", spec := "astrolabeRings", inPlace := ["math.Float64bits", "math.Float64frombits", "math/bits.Add64", "math.archFloor", "math.archTrunc", "math.archCeil"], named := ["math._sin", "math._cos", "math.mPi4"], apart := false, laid := [("math._sin", laid_math_sin), ("math._cos", laid_math_cos), ("math.mPi4", laid_math_mPi4)], narrowed := true }
def AstrolabeRingsUptoSaid : Prop := astrolabeRingsUptoRow.holds Tryd.pinned (OpenSpec.upto astrolabeRingsSpec)

/-- 'ephemerislaw2.AstrolabeStars', WHERE WHAT IT READS IS OF BULK AT MOST 1048576: true; the input reads as it did. -/
def astrolabeStarsUptoRow : OpenClaim := { program := "ytjkhoepohiafeaadoor", sum := "b6bf272d3187ffa80985befd2ebd147aa0f563e39edce205df4bbef6b115fb12", func := "ephemeris/ephemerislaw2.AstrolabeStars", spec := "astrolabeStars", inPlace := ["math.Float64bits", "math.Float64frombits", "math/bits.Add64", "math.archFloor", "math.archTrunc", "math.archCeil"], named := ["math._sin", "math._cos", "math.mPi4"], apart := false, laid := [("math._sin", laid_math_sin), ("math._cos", laid_math_cos), ("math.mPi4", laid_math_mPi4)], narrowed := true }
def AstrolabeStarsUptoSaid : Prop := astrolabeStarsUptoRow.holds Tryd.pinned (OpenSpec.upto astrolabeStarsSpec)

/-- 'ephemerislaw2.AstrolabeAlmucantars', WHERE WHAT IT READS IS OF BULK AT MOST 1048576: true; the input reads as it did. -/
def astrolabeAlmucantarsUptoRow : OpenClaim := { program := "ytjkhoepohiafeaadoor", sum := "b6bf272d3187ffa80985befd2ebd147aa0f563e39edce205df4bbef6b115fb12", func := "ephemeris/ephemerislaw2.AstrolabeAlmucantars", spec := "astrolabeAlmucantars", inPlace := ["math.Float64bits", "math.Float64frombits", "math/bits.Add64", "math.archFloor", "math.archTrunc", "math.archCeil"], named := ["math._sin", "math._cos", "math.mPi4"], apart := false, laid := [("math._sin", laid_math_sin), ("math._cos", laid_math_cos), ("math.mPi4", laid_math_mPi4)], narrowed := true }
def AstrolabeAlmucantarsUptoSaid : Prop := astrolabeAlmucantarsUptoRow.holds Tryd.pinned (OpenSpec.upto astrolabeAlmucantarsSpec)

/-- 'ephemerislaw2.TideHeights', WHERE WHAT IT READS IS OF BULK AT MOST 1048576: true; the input reads as it did. -/
def tideHeightsUptoRow : OpenClaim := { program := "ytjkhoepohiafeaadoor", sum := "b6bf272d3187ffa80985befd2ebd147aa0f563e39edce205df4bbef6b115fb12", func := "ephemeris/ephemerislaw2.TideHeights", spec := "tideHeights", inPlace := ["math.Float64bits", "math.Float64frombits", "math/bits.Add64", "math.archFloor", "math.archTrunc", "math.archCeil"], unfollowed := true, recurses := true, named := ["math/bits.divideError", "math/bits.overflowError", "math._cos", "math._sin", "math.mPi4"], apart := false, laid := [("math._sin", laid_math_sin), ("math._cos", laid_math_cos), ("math.mPi4", laid_math_mPi4)], narrowed := true }
def TideHeightsUptoSaid : Prop := tideHeightsUptoRow.holds Tryd.pinned (OpenSpec.upto tideHeightsSpec)

/-- 'ephemerislaw2.TideEnds', WHERE WHAT IT READS IS OF BULK AT MOST 1048576: true; the input reads as it did. -/
def tideEndsUptoRow : OpenClaim := { program := "ytjkhoepohiafeaadoor", sum := "b6bf272d3187ffa80985befd2ebd147aa0f563e39edce205df4bbef6b115fb12", func := "ephemeris/ephemerislaw2.TideEnds", spec := "tideEnds", inPlace := ["math.Float64bits", "math.Float64frombits", "math/bits.Add64", "math.archFloor", "math.archTrunc", "math.archCeil"], unfollowed := true, recurses := true, named := ["math/bits.divideError", "math/bits.overflowError", "math._cos", "math._sin", "math.mPi4"], apart := false, laid := [("math._sin", laid_math_sin), ("math._cos", laid_math_cos), ("math.mPi4", laid_math_mPi4)], narrowed := true }
def TideEndsUptoSaid : Prop := tideEndsUptoRow.holds Tryd.pinned (OpenSpec.upto tideEndsSpec)

end Rows
end Go.Proofs.YtjkhoepohiafeaaDoor
