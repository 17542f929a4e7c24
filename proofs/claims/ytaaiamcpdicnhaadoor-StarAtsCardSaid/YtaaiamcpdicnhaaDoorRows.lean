/-
  NARROWER THAN 'FOR EVERY INPUT', by the rows' own cells (each row's printed sentence says how): MoonElongations: laid · SunLongitudes: laid · SunEquators: laid · StarAts: laid · AstrolabeRings: laid · AstrolabeAlmucantars: laid · AstrolabeStars: laid · TideHeights: laid · TideEnds: laid · TopSums: laid.
  DERIVED. THE GIVEN ROWS OF THIS SEAT. 10 by the template 'for every input the law returns true; each argument reads behind the call as it read before'; 0 by the template 'total and deterministic' (their statements: YtaaiamcpdicnhaaDoorTotals.lean).
  GIVEN WITH THE SEED: the statements are not yours to turn. If you find one false, say at which input.
  Laid BY PROGRAM, IN A SANDBOX (cutbox-rows.mjs): the forced cells as the released guide's own fill.sh prints them over the translation 4e0b882c4c674ba2… (all of the seat's roots in one cut). By AI agents, Wed Nov 11 2026. No macro, syntax, notation, axiom, sorry.
-/
import Derived.Test.YtaaiamcpdicnhaaDoorChecked
import GoSem.Claim
import GoSem.ClaimJoined
import GoSem.ClaimMapViews
import Derived.JoinedTies
import Derived.KernelRfl
namespace Go.Proofs.YtaaiamcpdicnhaaDoor
/- THE CELL 'sum', in the pinned program and in every row, IS THE sha256 OF THE DUMP (.gsa) THAT YtaaiamcpdicnhaaDoorProg.lean LOADS. Nothing in Lean hashes anything: it is a label: what it is worth is what the hold of that sum in a sandbox is worth. -/
noncomputable def Tryd.pinned : Pinned := { name := "ytaaiamcpdicnhaadoor", sum := "4e0b882c4c674ba27f1baeb2b59ea7923c7a9ccacf2a71bc78ea423d9e0817cf", checked := Tryd.checked }
namespace Rows
def none {H : Type} : Left H := { results := [], args := [] }

/- WHAT THE LISTED PACKAGE-LEVEL VARIABLES READ AS WHEN THE CALL BEGINS. Each datum BY PROGRAM (the guide's laid-datum.mjs) off the statement by which the dump's own 'gosem.cut.vars' lays the variable. In a bare row this is a premise. The card (YtaaiamcpdicnhaaDoorCards.lean) ties it to the program's text. -/
def laid_math_sin {H : Type} : DataW H := .agg [.lit (.float .f64 4460209587652500685), .lit (.float .f64 13716528389658582877), .lit (.float .f64 4523617212962785441), .lit (.float .f64 13774824197404483331), .lit (.float .f64 4575957461383575504), .lit (.float .f64 13818544856648471880)]
def laid_math_cos {H : Type} : DataW H := .agg [.lit (.float .f64 13666448263388469915), .lit (.float .f64 4477121864728985349), .lit (.float .f64 13732177093698800582), .lit (.float .f64 4537941361668146421), .lit (.float .f64 13787419979223748497), .lit (.float .f64 4586165620538955083)]
def laid_math_mPi4 {H : Type} : DataW H := .agg [.lit (.int .u64 1), .lit (.int .u64 5040379952546458195), .lit (.int .u64 17892431488136887169), .lit (.int .u64 13169980181085364355), .lit (.int .u64 18204331823439776451), .lit (.int .u64 7946843935494350272), .lit (.int .u64 905889640498799673), .lit (.int .u64 18175356263134875261), .lit (.int .u64 15061281708168349961), .lit (.int .u64 15220161563773041794), .lit (.int .u64 8296664548579374057), .lit (.int .u64 4109744767560208502), .lit (.int .u64 4607516669194743839), .lit (.int .u64 16023283104648321598), .lit (.int .u64 15739233654134936430), .lit (.int .u64 11424645774684705882), .lit (.int .u64 16883842788696515318), .lit (.int .u64 8795094592981902804), .lit (.int .u64 15561835991111744016), .lit (.int .u64 12395701187267450711)]
def laid_ephemeris_star_table {H : Type} : DataW H := .agg [.agg [.lit (.string [112, 111, 108, 97, 114, 105, 115]), .lit (.int .i64 105428000), .lit (.int .i64 247955800)], .agg [.lit (.string [97, 108, 100, 101, 98, 97, 114, 97, 110]), .lit (.int .i64 191609000), .lit (.int .i64 45859200)], .agg [.lit (.string [114, 105, 103, 101, 108]), .lit (.int .i64 218426000), .lit (.int .i64 (-22782200))], .agg [.lit (.string [115, 105, 114, 105, 117, 115]), .lit (.int .i64 281354000), .lit (.int .i64 (-46433600))], .agg [.lit (.string [114, 101, 103, 117, 108, 117, 115]), .lit (.int .i64 422477000), .lit (.int .i64 33242200)], .agg [.lit (.string [115, 112, 105, 99, 97]), .lit (.int .i64 559167000), .lit (.int .i64 (-31003900))], .agg [.lit (.string [97, 110, 116, 97, 114, 101, 115]), .lit (.int .i64 687083000), .lit (.int .i64 (-73422200))], .agg [.lit (.string [118, 101, 103, 97]), .lit (.int .i64 775650000), .lit (.int .i64 107732500)]]

/-- 'ephemerislaw2.MoonElongations': WHATEVER THE INPUT: true; the input reads as it did. -/
def moonElongationsSpec : ChangeSpec := { name := "moonElongations", fn := fun _ => fun
  | [d1, d2, d3] => { results := [.lit (.bool true)], args := [d1, d2, d3] }
  | _ => none }
def moonElongationsRow : OpenClaim := { program := "ytaaiamcpdicnhaadoor", sum := "4e0b882c4c674ba27f1baeb2b59ea7923c7a9ccacf2a71bc78ea423d9e0817cf", func := "ephemeris/ephemerislaw2.MoonElongations", spec := "moonElongations", inPlace := ["math.Float64bits", "math.Float64frombits", "math/bits.Add64", "math.archFloor", "math.archTrunc", "math.archCeil"], named := ["math/bits.divideError", "math/bits.overflowError", "math._cos", "math._sin", "math.mPi4"], apart := false, laid := [("math._sin", laid_math_sin), ("math._cos", laid_math_cos), ("math.mPi4", laid_math_mPi4)] }
def MoonElongationsSaid : Prop := moonElongationsRow.holds Tryd.pinned (OpenSpec.ofChange moonElongationsSpec)

/-- ITS FALSE NEIGHBOUR: 'it returns false'. Refute it at one input. -/
def moonElongationsWrong : ChangeSpec := { name := "moonElongations", fn := fun _ => fun
  | [d1, d2, d3] => { results := [.lit (.bool false)], args := [d1, d2, d3] }
  | _ => none }
def MoonElongationsWrongFalsely : Prop := moonElongationsRow.holds Tryd.pinned (OpenSpec.ofChange moonElongationsWrong)

/-- 'ephemerislaw2.SunLongitudes': WHATEVER THE INPUT: true; the input reads as it did. -/
def sunLongitudesSpec : ChangeSpec := { name := "sunLongitudes", fn := fun _ => fun
  | [d1, d2] => { results := [.lit (.bool true)], args := [d1, d2] }
  | _ => none }
def sunLongitudesRow : OpenClaim := { program := "ytaaiamcpdicnhaadoor", sum := "4e0b882c4c674ba27f1baeb2b59ea7923c7a9ccacf2a71bc78ea423d9e0817cf", func := "ephemeris/ephemerislaw2.SunLongitudes", spec := "sunLongitudes", inPlace := ["math.Float64bits", "math.Float64frombits", "math/bits.Add64", "math.archFloor", "math.archTrunc", "math.archCeil", "math.sqrt"], named := ["math/bits.divideError", "math/bits.overflowError", "math._cos", "math._sin", "math.mPi4"], apart := false, laid := [("math._sin", laid_math_sin), ("math._cos", laid_math_cos), ("math.mPi4", laid_math_mPi4)] }
def SunLongitudesSaid : Prop := sunLongitudesRow.holds Tryd.pinned (OpenSpec.ofChange sunLongitudesSpec)

/-- ITS FALSE NEIGHBOUR: 'it returns false'. Refute it at one input. -/
def sunLongitudesWrong : ChangeSpec := { name := "sunLongitudes", fn := fun _ => fun
  | [d1, d2] => { results := [.lit (.bool false)], args := [d1, d2] }
  | _ => none }
def SunLongitudesWrongFalsely : Prop := sunLongitudesRow.holds Tryd.pinned (OpenSpec.ofChange sunLongitudesWrong)

/-- 'ephemerislaw2.SunEquators': WHATEVER THE INPUT: true; the input reads as it did. -/
def sunEquatorsSpec : ChangeSpec := { name := "sunEquators", fn := fun _ => fun
  | [d1, d2] => { results := [.lit (.bool true)], args := [d1, d2] }
  | _ => none }
def sunEquatorsRow : OpenClaim := { program := "ytaaiamcpdicnhaadoor", sum := "4e0b882c4c674ba27f1baeb2b59ea7923c7a9ccacf2a71bc78ea423d9e0817cf", func := "ephemeris/ephemerislaw2.SunEquators", spec := "sunEquators", inPlace := ["math.Float64bits", "math.Float64frombits", "math/bits.Add64", "math.archFloor", "math.archTrunc", "math.archCeil", "math.sqrt"], named := ["math/bits.divideError", "math/bits.overflowError", "math._cos", "math._sin", "math.mPi4"], apart := false, laid := [("math._sin", laid_math_sin), ("math._cos", laid_math_cos), ("math.mPi4", laid_math_mPi4)] }
def SunEquatorsSaid : Prop := sunEquatorsRow.holds Tryd.pinned (OpenSpec.ofChange sunEquatorsSpec)

/-- ITS FALSE NEIGHBOUR: 'it returns false'. Refute it at one input. -/
def sunEquatorsWrong : ChangeSpec := { name := "sunEquators", fn := fun _ => fun
  | [d1, d2] => { results := [.lit (.bool false)], args := [d1, d2] }
  | _ => none }
def SunEquatorsWrongFalsely : Prop := sunEquatorsRow.holds Tryd.pinned (OpenSpec.ofChange sunEquatorsWrong)

/-- 'ephemerislaw2.StarAts': WHATEVER THE INPUT: true; the input reads as it did. -/
def starAtsSpec : ChangeSpec := { name := "starAts", fn := fun _ => fun
  | [d1, d2] => { results := [.lit (.bool true)], args := [d1, d2] }
  | _ => none }
def starAtsRow : OpenClaim := { program := "ytaaiamcpdicnhaadoor", sum := "4e0b882c4c674ba27f1baeb2b59ea7923c7a9ccacf2a71bc78ea423d9e0817cf", func := "ephemeris/ephemerislaw2.StarAts", spec := "starAts", inPlace := ["math.Float64bits", "math.Float64frombits", "math/bits.Add64", "math.archFloor", "math.archTrunc", "math.archCeil"], named := ["ephemeris/star.table", "math/bits.divideError", "math/bits.overflowError", "math._cos", "math._sin", "math.mPi4"], apart := false, laid := [("math._sin", laid_math_sin), ("math._cos", laid_math_cos), ("math.mPi4", laid_math_mPi4), ("ephemeris/star.table", laid_ephemeris_star_table)] }
def StarAtsSaid : Prop := starAtsRow.holds Tryd.pinned (OpenSpec.ofChange starAtsSpec)

/-- ITS FALSE NEIGHBOUR: 'it returns false'. Refute it at one input. -/
def starAtsWrong : ChangeSpec := { name := "starAts", fn := fun _ => fun
  | [d1, d2] => { results := [.lit (.bool false)], args := [d1, d2] }
  | _ => none }
def StarAtsWrongFalsely : Prop := starAtsRow.holds Tryd.pinned (OpenSpec.ofChange starAtsWrong)

/-- 'ephemerislaw2.AstrolabeRings': WHATEVER THE INPUT: true; the input reads as it did. -/
def astrolabeRingsSpec : ChangeSpec := { name := "astrolabeRings", fn := fun _ => fun
  | [d] => { results := [.lit (.bool true)], args := [d] }
  | _ => none }
def astrolabeRingsRow : OpenClaim := { program := "ytaaiamcpdicnhaadoor", sum := "4e0b882c4c674ba27f1baeb2b59ea7923c7a9ccacf2a71bc78ea423d9e0817cf", func := "ephemeris/ephemerislaw2.AstrolabeRings", spec := "astrolabeRings", inPlace := ["math.Float64bits", "math.Float64frombits", "math/bits.Add64", "math.archFloor", "math.archTrunc", "math.archCeil"], named := ["math._sin", "math._cos", "math.mPi4"], apart := false, laid := [("math._sin", laid_math_sin), ("math._cos", laid_math_cos), ("math.mPi4", laid_math_mPi4)] }
def AstrolabeRingsSaid : Prop := astrolabeRingsRow.holds Tryd.pinned (OpenSpec.ofChange astrolabeRingsSpec)

/-- ITS FALSE NEIGHBOUR: 'it returns false'. Refute it at one input. -/
def astrolabeRingsWrong : ChangeSpec := { name := "astrolabeRings", fn := fun _ => fun
  | [d] => { results := [.lit (.bool false)], args := [d] }
  | _ => none }
def AstrolabeRingsWrongFalsely : Prop := astrolabeRingsRow.holds Tryd.pinned (OpenSpec.ofChange astrolabeRingsWrong)

/-- 'ephemerislaw2.AstrolabeAlmucantars': WHATEVER THE INPUT: true; the input reads as it did. -/
def astrolabeAlmucantarsSpec : ChangeSpec := { name := "astrolabeAlmucantars", fn := fun _ => fun
  | [d1, d2] => { results := [.lit (.bool true)], args := [d1, d2] }
  | _ => none }
def astrolabeAlmucantarsRow : OpenClaim := { program := "ytaaiamcpdicnhaadoor", sum := "4e0b882c4c674ba27f1baeb2b59ea7923c7a9ccacf2a71bc78ea423d9e0817cf", func := "ephemeris/ephemerislaw2.AstrolabeAlmucantars", spec := "astrolabeAlmucantars", inPlace := ["math.Float64bits", "math.Float64frombits", "math/bits.Add64", "math.archFloor", "math.archTrunc", "math.archCeil"], named := ["math._sin", "math._cos", "math.mPi4"], apart := false, laid := [("math._sin", laid_math_sin), ("math._cos", laid_math_cos), ("math.mPi4", laid_math_mPi4)] }
def AstrolabeAlmucantarsSaid : Prop := astrolabeAlmucantarsRow.holds Tryd.pinned (OpenSpec.ofChange astrolabeAlmucantarsSpec)

/-- ITS FALSE NEIGHBOUR: 'it returns false'. Refute it at one input. -/
def astrolabeAlmucantarsWrong : ChangeSpec := { name := "astrolabeAlmucantars", fn := fun _ => fun
  | [d1, d2] => { results := [.lit (.bool false)], args := [d1, d2] }
  | _ => none }
def AstrolabeAlmucantarsWrongFalsely : Prop := astrolabeAlmucantarsRow.holds Tryd.pinned (OpenSpec.ofChange astrolabeAlmucantarsWrong)

/-- 'ephemerislaw2.AstrolabeStars': WHATEVER THE INPUT: true; the input reads as it did. -/
def astrolabeStarsSpec : ChangeSpec := { name := "astrolabeStars", fn := fun _ => fun
  | [d1, d2] => { results := [.lit (.bool true)], args := [d1, d2] }
  | _ => none }
def astrolabeStarsRow : OpenClaim := { program := "ytaaiamcpdicnhaadoor", sum := "4e0b882c4c674ba27f1baeb2b59ea7923c7a9ccacf2a71bc78ea423d9e0817cf", func := "ephemeris/ephemerislaw2.AstrolabeStars", spec := "astrolabeStars", inPlace := ["math.Float64bits", "math.Float64frombits", "math/bits.Add64", "math.archFloor", "math.archTrunc", "math.archCeil"], named := ["math._sin", "math._cos", "math.mPi4"], apart := false, laid := [("math._sin", laid_math_sin), ("math._cos", laid_math_cos), ("math.mPi4", laid_math_mPi4)] }
def AstrolabeStarsSaid : Prop := astrolabeStarsRow.holds Tryd.pinned (OpenSpec.ofChange astrolabeStarsSpec)

/-- ITS FALSE NEIGHBOUR: 'it returns false'. Refute it at one input. -/
def astrolabeStarsWrong : ChangeSpec := { name := "astrolabeStars", fn := fun _ => fun
  | [d1, d2] => { results := [.lit (.bool false)], args := [d1, d2] }
  | _ => none }
def AstrolabeStarsWrongFalsely : Prop := astrolabeStarsRow.holds Tryd.pinned (OpenSpec.ofChange astrolabeStarsWrong)

/-- 'ephemerislaw2.TideHeights': WHATEVER THE INPUT: true; the input reads as it did. -/
def tideHeightsSpec : ChangeSpec := { name := "tideHeights", fn := fun _ => fun
  | [d1, d2] => { results := [.lit (.bool true)], args := [d1, d2] }
  | _ => none }
def tideHeightsRow : OpenClaim := { program := "ytaaiamcpdicnhaadoor", sum := "4e0b882c4c674ba27f1baeb2b59ea7923c7a9ccacf2a71bc78ea423d9e0817cf", func := "ephemeris/ephemerislaw2.TideHeights", spec := "tideHeights", inPlace := ["math.Float64bits", "math.Float64frombits", "math/bits.Add64", "math.archFloor", "math.archTrunc", "math.archCeil"], unfollowed := true, recurses := true, named := ["math/bits.divideError", "math/bits.overflowError", "math._cos", "math._sin", "math.mPi4"], apart := false, laid := [("math._sin", laid_math_sin), ("math._cos", laid_math_cos), ("math.mPi4", laid_math_mPi4)] }
def TideHeightsSaid : Prop := tideHeightsRow.holds Tryd.pinned (OpenSpec.ofChange tideHeightsSpec)

/-- ITS FALSE NEIGHBOUR: 'it returns false'. Refute it at one input. -/
def tideHeightsWrong : ChangeSpec := { name := "tideHeights", fn := fun _ => fun
  | [d1, d2] => { results := [.lit (.bool false)], args := [d1, d2] }
  | _ => none }
def TideHeightsWrongFalsely : Prop := tideHeightsRow.holds Tryd.pinned (OpenSpec.ofChange tideHeightsWrong)

/-- 'ephemerislaw2.TideEnds': WHATEVER THE INPUT: true; the input reads as it did. -/
def tideEndsSpec : ChangeSpec := { name := "tideEnds", fn := fun _ => fun
  | [d1, d2, d3] => { results := [.lit (.bool true)], args := [d1, d2, d3] }
  | _ => none }
def tideEndsRow : OpenClaim := { program := "ytaaiamcpdicnhaadoor", sum := "4e0b882c4c674ba27f1baeb2b59ea7923c7a9ccacf2a71bc78ea423d9e0817cf", func := "ephemeris/ephemerislaw2.TideEnds", spec := "tideEnds", inPlace := ["math.Float64bits", "math.Float64frombits", "math/bits.Add64", "math.archFloor", "math.archTrunc", "math.archCeil"], unfollowed := true, recurses := true, named := ["math/bits.divideError", "math/bits.overflowError", "math._cos", "math._sin", "math.mPi4"], apart := false, laid := [("math._sin", laid_math_sin), ("math._cos", laid_math_cos), ("math.mPi4", laid_math_mPi4)] }
def TideEndsSaid : Prop := tideEndsRow.holds Tryd.pinned (OpenSpec.ofChange tideEndsSpec)

/-- ITS FALSE NEIGHBOUR: 'it returns false'. Refute it at one input. -/
def tideEndsWrong : ChangeSpec := { name := "tideEnds", fn := fun _ => fun
  | [d1, d2, d3] => { results := [.lit (.bool false)], args := [d1, d2, d3] }
  | _ => none }
def TideEndsWrongFalsely : Prop := tideEndsRow.holds Tryd.pinned (OpenSpec.ofChange tideEndsWrong)

/-- 'ephemeristop.TopSums': WHATEVER THE INPUT: true; the input reads as it did. -/
def topSumsSpec : ChangeSpec := { name := "topSums", fn := fun _ => fun
  | [d1, d2] => { results := [.lit (.bool true)], args := [d1, d2] }
  | _ => none }
def topSumsRow : OpenClaim := { program := "ytaaiamcpdicnhaadoor", sum := "4e0b882c4c674ba27f1baeb2b59ea7923c7a9ccacf2a71bc78ea423d9e0817cf", func := "ephemeris/ephemeristop.TopSums", spec := "topSums", inPlace := ["math.Float64bits", "math.Float64frombits", "math/bits.Add64", "math.archFloor", "math.archTrunc", "math.archCeil"], unfollowed := true, recurses := true, named := ["math/bits.divideError", "math/bits.overflowError", "math._cos", "math._sin", "math.mPi4"], apart := false, laid := [("math._sin", laid_math_sin), ("math._cos", laid_math_cos), ("math.mPi4", laid_math_mPi4)] }
def TopSumsSaid : Prop := topSumsRow.holds Tryd.pinned (OpenSpec.ofChange topSumsSpec)

/-- ITS FALSE NEIGHBOUR: 'it returns false'. Refute it at one input. -/
def topSumsWrong : ChangeSpec := { name := "topSums", fn := fun _ => fun
  | [d1, d2] => { results := [.lit (.bool false)], args := [d1, d2] }
  | _ => none }
def TopSumsWrongFalsely : Prop := topSumsRow.holds Tryd.pinned (OpenSpec.ofChange topSumsWrong)

/- THE SECOND FORM. 'bulk': how many values and letters a reading holds, each counted each time it is reached (what is shared counts as often as it is met; a slice's spare places count too). A statement '..UptoSaid' is the law's where the arguments, and the package variables that the reading takes, are together of bulk at most 1048576: NARROWER than '..Said'. Prove '..Said' where nothing that the law and all that it calls make is longer than what came in: it says more and counts as full. Else prove '..UptoSaid'. A law counts once. -/
mutual
def uptoBulk {H : Type} : DataW H → Nat
  | .lit (.string bytes) => bytes.length + 1
  | .lit _ => 1
  | .nil => 1
  | .ptr d => uptoBulk d + 1
  | .slice elems spare => uptoBulkAll elems + uptoBulkAll spare + 1
  | .agg parts => uptoBulkAll parts + 1
  | .iface _ d => uptoBulk d + 1
  | .map entries => uptoBulkEntries entries + 1
  | .held _ => 1
def uptoBulkAll {H : Type} : List (DataW H) → Nat
  | [] => 0
  | d :: r => uptoBulk d + uptoBulkAll r
def uptoBulkEntries {H : Type} : List (Lit × DataW H) → Nat
  | [] => 0
  | x :: r => uptoBulkEntry x + uptoBulkEntries r
def uptoBulkEntry {H : Type} : Lit × DataW H → Nat
  | (.string bytes, d) => bytes.length + uptoBulk d + 1
  | (_, d) => uptoBulk d + 1
 end
def uptoSmall : (H : Type) → List (DataW H) → Bool := fun _ ds => decide (uptoBulkAll ds ≤ 1048576)
def OpenSpec.upto (s : _root_.Go.ChangeSpec) : _root_.Go.OpenSpec := { _root_.Go.OpenSpec.ofChange s with cond := some uptoSmall }

/-- 'ephemerislaw2.MoonElongations', WHERE WHAT IT READS IS OF BULK AT MOST 1048576: true; the input reads as it did. -/
def moonElongationsUptoRow : OpenClaim := { program := "ytaaiamcpdicnhaadoor", sum := "4e0b882c4c674ba27f1baeb2b59ea7923c7a9ccacf2a71bc78ea423d9e0817cf", func := "ephemeris/ephemerislaw2.MoonElongations", spec := "moonElongations", inPlace := ["math.Float64bits", "math.Float64frombits", "math/bits.Add64", "math.archFloor", "math.archTrunc", "math.archCeil"], named := ["math/bits.divideError", "math/bits.overflowError", "math._cos", "math._sin", "math.mPi4"], apart := false, laid := [("math._sin", laid_math_sin), ("math._cos", laid_math_cos), ("math.mPi4", laid_math_mPi4)], narrowed := true }
def MoonElongationsUptoSaid : Prop := moonElongationsUptoRow.holds Tryd.pinned (OpenSpec.upto moonElongationsSpec)

/-- 'ephemerislaw2.SunLongitudes', WHERE WHAT IT READS IS OF BULK AT MOST 1048576: true; the input reads as it did. -/
def sunLongitudesUptoRow : OpenClaim := { program := "ytaaiamcpdicnhaadoor", sum := "4e0b882c4c674ba27f1baeb2b59ea7923c7a9ccacf2a71bc78ea423d9e0817cf", func := "ephemeris/ephemerislaw2.SunLongitudes", spec := "sunLongitudes", inPlace := ["math.Float64bits", "math.Float64frombits", "math/bits.Add64", "math.archFloor", "math.archTrunc", "math.archCeil", "math.sqrt"], named := ["math/bits.divideError", "math/bits.overflowError", "math._cos", "math._sin", "math.mPi4"], apart := false, laid := [("math._sin", laid_math_sin), ("math._cos", laid_math_cos), ("math.mPi4", laid_math_mPi4)], narrowed := true }
def SunLongitudesUptoSaid : Prop := sunLongitudesUptoRow.holds Tryd.pinned (OpenSpec.upto sunLongitudesSpec)

/-- 'ephemerislaw2.SunEquators', WHERE WHAT IT READS IS OF BULK AT MOST 1048576: true; the input reads as it did. -/
def sunEquatorsUptoRow : OpenClaim := { program := "ytaaiamcpdicnhaadoor", sum := "4e0b882c4c674ba27f1baeb2b59ea7923c7a9ccacf2a71bc78ea423d9e0817cf", func := "ephemeris/ephemerislaw2.SunEquators", spec := "sunEquators", inPlace := ["math.Float64bits", "math.Float64frombits", "math/bits.Add64", "math.archFloor", "math.archTrunc", "math.archCeil", "math.sqrt"], named := ["math/bits.divideError", "math/bits.overflowError", "math._cos", "math._sin", "math.mPi4"], apart := false, laid := [("math._sin", laid_math_sin), ("math._cos", laid_math_cos), ("math.mPi4", laid_math_mPi4)], narrowed := true }
def SunEquatorsUptoSaid : Prop := sunEquatorsUptoRow.holds Tryd.pinned (OpenSpec.upto sunEquatorsSpec)

/-- 'ephemerislaw2.StarAts', WHERE WHAT IT READS IS OF BULK AT MOST 1048576: true; the input reads as it did. -/
def starAtsUptoRow : OpenClaim := { program := "ytaaiamcpdicnhaadoor", sum := "4e0b882c4c674ba27f1baeb2b59ea7923c7a9ccacf2a71bc78ea423d9e0817cf", func := "ephemeris/ephemerislaw2.StarAts", spec := "starAts", inPlace := ["math.Float64bits", "math.Float64frombits", "math/bits.Add64", "math.archFloor", "math.archTrunc", "math.archCeil"], named := ["ephemeris/star.table", "math/bits.divideError", "math/bits.overflowError", "math._cos", "math._sin", "math.mPi4"], apart := false, laid := [("math._sin", laid_math_sin), ("math._cos", laid_math_cos), ("math.mPi4", laid_math_mPi4), ("ephemeris/star.table", laid_ephemeris_star_table)], narrowed := true }
def StarAtsUptoSaid : Prop := starAtsUptoRow.holds Tryd.pinned (OpenSpec.upto starAtsSpec)

/-- 'ephemerislaw2.AstrolabeRings', WHERE WHAT IT READS IS OF BULK AT MOST 1048576: true; the input reads as it did. -/
def astrolabeRingsUptoRow : OpenClaim := { program := "ytaaiamcpdicnhaadoor", sum := "4e0b882c4c674ba27f1baeb2b59ea7923c7a9ccacf2a71bc78ea423d9e0817cf", func := "ephemeris/ephemerislaw2.AstrolabeRings", spec := "astrolabeRings", inPlace := ["math.Float64bits", "math.Float64frombits", "math/bits.Add64", "math.archFloor", "math.archTrunc", "math.archCeil"], named := ["math._sin", "math._cos", "math.mPi4"], apart := false, laid := [("math._sin", laid_math_sin), ("math._cos", laid_math_cos), ("math.mPi4", laid_math_mPi4)], narrowed := true }
def AstrolabeRingsUptoSaid : Prop := astrolabeRingsUptoRow.holds Tryd.pinned (OpenSpec.upto astrolabeRingsSpec)

/-- 'ephemerislaw2.AstrolabeAlmucantars', WHERE WHAT IT READS IS OF BULK AT MOST 1048576: true; the input reads as it did. -/
def astrolabeAlmucantarsUptoRow : OpenClaim := { program := "ytaaiamcpdicnhaadoor", sum := "4e0b882c4c674ba27f1baeb2b59ea7923c7a9ccacf2a71bc78ea423d9e0817cf", func := "ephemeris/ephemerislaw2.AstrolabeAlmucantars", spec := "astrolabeAlmucantars", inPlace := ["math.Float64bits", "math.Float64frombits", "math/bits.Add64", "math.archFloor", "math.archTrunc", "math.archCeil"], named := ["math._sin", "math._cos", "math.mPi4"], apart := false, laid := [("math._sin", laid_math_sin), ("math._cos", laid_math_cos), ("math.mPi4", laid_math_mPi4)], narrowed := true }
def AstrolabeAlmucantarsUptoSaid : Prop := astrolabeAlmucantarsUptoRow.holds Tryd.pinned (OpenSpec.upto astrolabeAlmucantarsSpec)

/-- 'ephemerislaw2.AstrolabeStars', WHERE WHAT IT READS IS OF BULK AT MOST 1048576: true; the input reads as it did. -/
def astrolabeStarsUptoRow : OpenClaim := { program := "ytaaiamcpdicnhaadoor", sum := "4e0b882c4c674ba27f1baeb2b59ea7923c7a9ccacf2a71bc78ea423d9e0817cf", func := "ephemeris/ephemerislaw2.AstrolabeStars", spec := "astrolabeStars", inPlace := ["math.Float64bits", "math.Float64frombits", "math/bits.Add64", "math.archFloor", "math.archTrunc", "math.archCeil"], named := ["math._sin", "math._cos", "math.mPi4"], apart := false, laid := [("math._sin", laid_math_sin), ("math._cos", laid_math_cos), ("math.mPi4", laid_math_mPi4)], narrowed := true }
def AstrolabeStarsUptoSaid : Prop := astrolabeStarsUptoRow.holds Tryd.pinned (OpenSpec.upto astrolabeStarsSpec)

/-- 'ephemerislaw2.TideHeights', WHERE WHAT IT READS IS OF BULK AT MOST 1048576: true; the input reads as it did. -/
def tideHeightsUptoRow : OpenClaim := { program := "ytaaiamcpdicnhaadoor", sum := "4e0b882c4c674ba27f1baeb2b59ea7923c7a9ccacf2a71bc78ea423d9e0817cf", func := "ephemeris/ephemerislaw2.TideHeights", spec := "tideHeights", inPlace := ["math.Float64bits", "math.Float64frombits", "math/bits.Add64", "math.archFloor", "math.archTrunc", "math.archCeil"], unfollowed := true, recurses := true, named := ["math/bits.divideError", "math/bits.overflowError", "math._cos", "math._sin", "math.mPi4"], apart := false, laid := [("math._sin", laid_math_sin), ("math._cos", laid_math_cos), ("math.mPi4", laid_math_mPi4)], narrowed := true }
def TideHeightsUptoSaid : Prop := tideHeightsUptoRow.holds Tryd.pinned (OpenSpec.upto tideHeightsSpec)

/-- 'ephemerislaw2.TideEnds', WHERE WHAT IT READS IS OF BULK AT MOST 1048576: true; the input reads as it did. -/
def tideEndsUptoRow : OpenClaim := { program := "ytaaiamcpdicnhaadoor", sum := "4e0b882c4c674ba27f1baeb2b59ea7923c7a9ccacf2a71bc78ea423d9e0817cf", func := "ephemeris/ephemerislaw2.TideEnds", spec := "tideEnds", inPlace := ["math.Float64bits", "math.Float64frombits", "math/bits.Add64", "math.archFloor", "math.archTrunc", "math.archCeil"], unfollowed := true, recurses := true, named := ["math/bits.divideError", "math/bits.overflowError", "math._cos", "math._sin", "math.mPi4"], apart := false, laid := [("math._sin", laid_math_sin), ("math._cos", laid_math_cos), ("math.mPi4", laid_math_mPi4)], narrowed := true }
def TideEndsUptoSaid : Prop := tideEndsUptoRow.holds Tryd.pinned (OpenSpec.upto tideEndsSpec)

/-- 'ephemeristop.TopSums', WHERE WHAT IT READS IS OF BULK AT MOST 1048576: true; the input reads as it did. -/
def topSumsUptoRow : OpenClaim := { program := "ytaaiamcpdicnhaadoor", sum := "4e0b882c4c674ba27f1baeb2b59ea7923c7a9ccacf2a71bc78ea423d9e0817cf", func := "ephemeris/ephemeristop.TopSums", spec := "topSums", inPlace := ["math.Float64bits", "math.Float64frombits", "math/bits.Add64", "math.archFloor", "math.archTrunc", "math.archCeil"], unfollowed := true, recurses := true, named := ["math/bits.divideError", "math/bits.overflowError", "math._cos", "math._sin", "math.mPi4"], apart := false, laid := [("math._sin", laid_math_sin), ("math._cos", laid_math_cos), ("math.mPi4", laid_math_mPi4)], narrowed := true }
def TopSumsUptoSaid : Prop := topSumsUptoRow.holds Tryd.pinned (OpenSpec.upto topSumsSpec)

end Rows
end Go.Proofs.YtaaiamcpdicnhaaDoor
