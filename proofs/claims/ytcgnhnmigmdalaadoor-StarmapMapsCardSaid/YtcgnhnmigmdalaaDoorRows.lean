/-
  NARROWER THAN 'FOR EVERY INPUT', by the rows' own cells (each row's printed sentence says how): EclipseFinds: laid · EclipseNexts: laid · StarmapMaps: laid · StarmapUps: laid · TopTides: laid.
  DERIVED. THE GIVEN ROWS OF THIS SEAT. 5 by the template 'for every input the law returns true; each argument reads behind the call as it read before'; 0 by the template 'total and deterministic' (their statements: YtcgnhnmigmdalaaDoorTotals.lean).
  GIVEN WITH THE SEED: the statements are not yours to turn. If you find one false, say at which input.
  Laid BY PROGRAM, IN A SANDBOX (cutbox-rows.mjs): the forced cells as the released guide's own fill.sh prints them over the translation 8b68c21d0305ed4d… (all of the seat's roots in one cut). By AI agents, Wed Nov 11 2026. No macro, syntax, notation, axiom, sorry.
-/
import Derived.Test.YtcgnhnmigmdalaaDoorChecked
import GoSem.Claim
import GoSem.ClaimJoined
import GoSem.ClaimMapViews
import Derived.JoinedTies
import Derived.KernelRfl
namespace Go.Proofs.YtcgnhnmigmdalaaDoor
/- THE CELL 'sum', in the pinned program and in every row, IS THE sha256 OF THE DUMP (.gsa) THAT YtcgnhnmigmdalaaDoorProg.lean LOADS. Nothing in Lean hashes anything: it is a label: what it is worth is what the hold of that sum in a sandbox is worth. -/
noncomputable def Tryd.pinned : Pinned := { name := "ytcgnhnmigmdalaadoor", sum := "8b68c21d0305ed4da3262ca880a7a3f8cac46bbb028ba3148138e448abcd38e2", checked := Tryd.checked }
namespace Rows
def none {H : Type} : Left H := { results := [], args := [] }

/- WHAT THE LISTED PACKAGE-LEVEL VARIABLES READ AS WHEN THE CALL BEGINS. Each datum BY PROGRAM (the guide's laid-datum.mjs) off the statement by which the dump's own 'gosem.cut.vars' lays the variable. In a bare row this is a premise. The card (YtcgnhnmigmdalaaDoorCards.lean) ties it to the program's text. -/
def laid_math_sin {H : Type} : DataW H := .agg [.lit (.float .f64 4460209587652500685), .lit (.float .f64 13716528389658582877), .lit (.float .f64 4523617212962785441), .lit (.float .f64 13774824197404483331), .lit (.float .f64 4575957461383575504), .lit (.float .f64 13818544856648471880)]
def laid_math_cos {H : Type} : DataW H := .agg [.lit (.float .f64 13666448263388469915), .lit (.float .f64 4477121864728985349), .lit (.float .f64 13732177093698800582), .lit (.float .f64 4537941361668146421), .lit (.float .f64 13787419979223748497), .lit (.float .f64 4586165620538955083)]
def laid_math_mPi4 {H : Type} : DataW H := .agg [.lit (.int .u64 1), .lit (.int .u64 5040379952546458195), .lit (.int .u64 17892431488136887169), .lit (.int .u64 13169980181085364355), .lit (.int .u64 18204331823439776451), .lit (.int .u64 7946843935494350272), .lit (.int .u64 905889640498799673), .lit (.int .u64 18175356263134875261), .lit (.int .u64 15061281708168349961), .lit (.int .u64 15220161563773041794), .lit (.int .u64 8296664548579374057), .lit (.int .u64 4109744767560208502), .lit (.int .u64 4607516669194743839), .lit (.int .u64 16023283104648321598), .lit (.int .u64 15739233654134936430), .lit (.int .u64 11424645774684705882), .lit (.int .u64 16883842788696515318), .lit (.int .u64 8795094592981902804), .lit (.int .u64 15561835991111744016), .lit (.int .u64 12395701187267450711)]
def laid_ephemeris_star_table {H : Type} : DataW H := .agg [.agg [.lit (.string [112, 111, 108, 97, 114, 105, 115]), .lit (.int .i64 105428000), .lit (.int .i64 247955800)], .agg [.lit (.string [97, 108, 100, 101, 98, 97, 114, 97, 110]), .lit (.int .i64 191609000), .lit (.int .i64 45859200)], .agg [.lit (.string [114, 105, 103, 101, 108]), .lit (.int .i64 218426000), .lit (.int .i64 (-22782200))], .agg [.lit (.string [115, 105, 114, 105, 117, 115]), .lit (.int .i64 281354000), .lit (.int .i64 (-46433600))], .agg [.lit (.string [114, 101, 103, 117, 108, 117, 115]), .lit (.int .i64 422477000), .lit (.int .i64 33242200)], .agg [.lit (.string [115, 112, 105, 99, 97]), .lit (.int .i64 559167000), .lit (.int .i64 (-31003900))], .agg [.lit (.string [97, 110, 116, 97, 114, 101, 115]), .lit (.int .i64 687083000), .lit (.int .i64 (-73422200))], .agg [.lit (.string [118, 101, 103, 97]), .lit (.int .i64 775650000), .lit (.int .i64 107732500)]]

/-- 'ephemerislaw2.EclipseFinds': WHATEVER THE INPUT: true; the input reads as it did. -/
def eclipseFindsSpec : ChangeSpec := { name := "eclipseFinds", fn := fun _ => fun
  | [d1, d2, d3] => { results := [.lit (.bool true)], args := [d1, d2, d3] }
  | _ => none }
def eclipseFindsRow : OpenClaim := { program := "ytcgnhnmigmdalaadoor", sum := "8b68c21d0305ed4da3262ca880a7a3f8cac46bbb028ba3148138e448abcd38e2", func := "ephemeris/ephemerislaw2.EclipseFinds", spec := "eclipseFinds", inPlace := ["math.Float64bits", "math.Float64frombits", "math/bits.Add64", "math.archFloor", "math.archTrunc", "math.archCeil"], unfollowed := true, recurses := true, named := ["math/bits.divideError", "math/bits.overflowError", "math._cos", "math._sin", "math.mPi4"], apart := false, laid := [("math._sin", laid_math_sin), ("math._cos", laid_math_cos), ("math.mPi4", laid_math_mPi4)] }
def EclipseFindsSaid : Prop := eclipseFindsRow.holds Tryd.pinned (OpenSpec.ofChange eclipseFindsSpec)

/-- ITS FALSE NEIGHBOUR: 'it returns false'. Refute it at one input. -/
def eclipseFindsWrong : ChangeSpec := { name := "eclipseFinds", fn := fun _ => fun
  | [d1, d2, d3] => { results := [.lit (.bool false)], args := [d1, d2, d3] }
  | _ => none }
def EclipseFindsWrongFalsely : Prop := eclipseFindsRow.holds Tryd.pinned (OpenSpec.ofChange eclipseFindsWrong)

/-- 'ephemerislaw2.EclipseNexts': WHATEVER THE INPUT: true; the input reads as it did. -/
def eclipseNextsSpec : ChangeSpec := { name := "eclipseNexts", fn := fun _ => fun
  | [d1, d2] => { results := [.lit (.bool true)], args := [d1, d2] }
  | _ => none }
def eclipseNextsRow : OpenClaim := { program := "ytcgnhnmigmdalaadoor", sum := "8b68c21d0305ed4da3262ca880a7a3f8cac46bbb028ba3148138e448abcd38e2", func := "ephemeris/ephemerislaw2.EclipseNexts", spec := "eclipseNexts", inPlace := ["math.Float64bits", "math.Float64frombits", "math/bits.Add64", "math.archFloor", "math.archTrunc", "math.archCeil"], unfollowed := true, recurses := true, named := ["math/bits.divideError", "math/bits.overflowError", "math._cos", "math._sin", "math.mPi4"], apart := false, laid := [("math._sin", laid_math_sin), ("math._cos", laid_math_cos), ("math.mPi4", laid_math_mPi4)] }
def EclipseNextsSaid : Prop := eclipseNextsRow.holds Tryd.pinned (OpenSpec.ofChange eclipseNextsSpec)

/-- ITS FALSE NEIGHBOUR: 'it returns false'. Refute it at one input. -/
def eclipseNextsWrong : ChangeSpec := { name := "eclipseNexts", fn := fun _ => fun
  | [d1, d2] => { results := [.lit (.bool false)], args := [d1, d2] }
  | _ => none }
def EclipseNextsWrongFalsely : Prop := eclipseNextsRow.holds Tryd.pinned (OpenSpec.ofChange eclipseNextsWrong)

/-- 'ephemerislaw2.StarmapMaps': WHATEVER THE INPUT: true; the input reads as it did. -/
def starmapMapsSpec : ChangeSpec := { name := "starmapMaps", fn := fun _ => fun
  | [d1, d2] => { results := [.lit (.bool true)], args := [d1, d2] }
  | _ => none }
def starmapMapsRow : OpenClaim := { program := "ytcgnhnmigmdalaadoor", sum := "8b68c21d0305ed4da3262ca880a7a3f8cac46bbb028ba3148138e448abcd38e2", func := "ephemeris/ephemerislaw2.StarmapMaps", spec := "starmapMaps", inPlace := ["math.Float64bits", "math.Float64frombits", "math/bits.Add64", "math.archFloor", "math.archTrunc", "math.archCeil"], named := ["ephemeris/star.table", "math/bits.divideError", "math/bits.overflowError", "math._cos", "math._sin", "math.mPi4"], apart := false, laid := [("math._sin", laid_math_sin), ("math._cos", laid_math_cos), ("math.mPi4", laid_math_mPi4), ("ephemeris/star.table", laid_ephemeris_star_table)] }
def StarmapMapsSaid : Prop := starmapMapsRow.holds Tryd.pinned (OpenSpec.ofChange starmapMapsSpec)

/-- ITS FALSE NEIGHBOUR: 'it returns false'. Refute it at one input. -/
def starmapMapsWrong : ChangeSpec := { name := "starmapMaps", fn := fun _ => fun
  | [d1, d2] => { results := [.lit (.bool false)], args := [d1, d2] }
  | _ => none }
def StarmapMapsWrongFalsely : Prop := starmapMapsRow.holds Tryd.pinned (OpenSpec.ofChange starmapMapsWrong)

/-- 'ephemerislaw2.StarmapUps': WHATEVER THE INPUT: true; the input reads as it did. -/
def starmapUpsSpec : ChangeSpec := { name := "starmapUps", fn := fun _ => fun
  | [d1, d2, d3] => { results := [.lit (.bool true)], args := [d1, d2, d3] }
  | _ => none }
def starmapUpsRow : OpenClaim := { program := "ytcgnhnmigmdalaadoor", sum := "8b68c21d0305ed4da3262ca880a7a3f8cac46bbb028ba3148138e448abcd38e2", func := "ephemeris/ephemerislaw2.StarmapUps", spec := "starmapUps", inPlace := ["math.Float64bits", "math.Float64frombits", "math/bits.Add64", "math.archFloor", "math.archTrunc", "math.archCeil"], named := ["ephemeris/star.table", "math/bits.divideError", "math/bits.overflowError", "math._cos", "math._sin", "math.mPi4"], apart := false, laid := [("math._sin", laid_math_sin), ("math._cos", laid_math_cos), ("math.mPi4", laid_math_mPi4), ("ephemeris/star.table", laid_ephemeris_star_table)] }
def StarmapUpsSaid : Prop := starmapUpsRow.holds Tryd.pinned (OpenSpec.ofChange starmapUpsSpec)

/-- ITS FALSE NEIGHBOUR: 'it returns false'. Refute it at one input. -/
def starmapUpsWrong : ChangeSpec := { name := "starmapUps", fn := fun _ => fun
  | [d1, d2, d3] => { results := [.lit (.bool false)], args := [d1, d2, d3] }
  | _ => none }
def StarmapUpsWrongFalsely : Prop := starmapUpsRow.holds Tryd.pinned (OpenSpec.ofChange starmapUpsWrong)

/-- 'ephemeristop.TopTides': WHATEVER THE INPUT: true; the input reads as it did. -/
def topTidesSpec : ChangeSpec := { name := "topTides", fn := fun _ => fun
  | [d1, d2, d3, d4] => { results := [.lit (.bool true)], args := [d1, d2, d3, d4] }
  | _ => none }
def topTidesRow : OpenClaim := { program := "ytcgnhnmigmdalaadoor", sum := "8b68c21d0305ed4da3262ca880a7a3f8cac46bbb028ba3148138e448abcd38e2", func := "ephemeris/ephemeristop.TopTides", spec := "topTides", inPlace := ["math.Float64bits", "math.Float64frombits", "math/bits.Add64", "math.archFloor", "math.archTrunc", "math.archCeil"], unfollowed := true, recurses := true, named := ["math/bits.divideError", "math/bits.overflowError", "math._cos", "math._sin", "math.mPi4"], apart := false, laid := [("math._sin", laid_math_sin), ("math._cos", laid_math_cos), ("math.mPi4", laid_math_mPi4)] }
def TopTidesSaid : Prop := topTidesRow.holds Tryd.pinned (OpenSpec.ofChange topTidesSpec)

/-- ITS FALSE NEIGHBOUR: 'it returns false'. Refute it at one input. -/
def topTidesWrong : ChangeSpec := { name := "topTides", fn := fun _ => fun
  | [d1, d2, d3, d4] => { results := [.lit (.bool false)], args := [d1, d2, d3, d4] }
  | _ => none }
def TopTidesWrongFalsely : Prop := topTidesRow.holds Tryd.pinned (OpenSpec.ofChange topTidesWrong)

/- THE SECOND FORM. 'bulk': how many values and letters a reading holds, each counted each time it is reached (what is shared counts as often as it is met; a slice's spare places count too). A statement '..UptoSaid' is the law's where the arguments, and the package variables that the reading takes, are together of bulk at most 1048576: NARROWER than '..Said'. Prove '..Said' where nothing that the law and all that it calls make is longer than what came in: it says more and counts as full. Else prove '..UptoSaid'. A law counts once. -/
mutual
def uptoBulk {H : Type} : DataW H → Nat
  | .lit (.string bytes) => bytes.length + 1
  | .lit _ => 1
  | .nil => 1
  | .ptr d => uptoBulk d + 1
  | .slice elems spare => uptoBulkAll elems + uptoBulkAll spare + 1
  | .agg parts => uptoBulkAll parts + 1
  | .iface _ d => uptoBulk d + 1
  | .map entries => uptoBulkEntries entries + 1
  | .held _ => 1
def uptoBulkAll {H : Type} : List (DataW H) → Nat
  | [] => 0
  | d :: r => uptoBulk d + uptoBulkAll r
def uptoBulkEntries {H : Type} : List (Lit × DataW H) → Nat
  | [] => 0
  | x :: r => uptoBulkEntry x + uptoBulkEntries r
def uptoBulkEntry {H : Type} : Lit × DataW H → Nat
  | (.string bytes, d) => bytes.length + uptoBulk d + 1
  | (_, d) => uptoBulk d + 1
 end
def uptoSmall : (H : Type) → List (DataW H) → Bool := fun _ ds => decide (uptoBulkAll ds ≤ 1048576)
def OpenSpec.upto (s : _root_.Go.ChangeSpec) : _root_.Go.OpenSpec := { _root_.Go.OpenSpec.ofChange s with cond := some uptoSmall }

/-- 'ephemerislaw2.EclipseFinds', WHERE WHAT IT READS IS OF BULK AT MOST 1048576: true; the input reads as it did. -/
def eclipseFindsUptoRow : OpenClaim := { program := "ytcgnhnmigmdalaadoor", sum := "8b68c21d0305ed4da3262ca880a7a3f8cac46bbb028ba3148138e448abcd38e2", func := "ephemeris/ephemerislaw2.EclipseFinds", spec := "eclipseFinds", inPlace := ["math.Float64bits", "math.Float64frombits", "math/bits.Add64", "math.archFloor", "math.archTrunc", "math.archCeil"], unfollowed := true, recurses := true, named := ["math/bits.divideError", "math/bits.overflowError", "math._cos", "math._sin", "math.mPi4"], apart := false, laid := [("math._sin", laid_math_sin), ("math._cos", laid_math_cos), ("math.mPi4", laid_math_mPi4)], narrowed := true }
def EclipseFindsUptoSaid : Prop := eclipseFindsUptoRow.holds Tryd.pinned (OpenSpec.upto eclipseFindsSpec)

/-- 'ephemerislaw2.EclipseNexts', WHERE WHAT IT READS IS OF BULK AT MOST 1048576: true; the input reads as it did. -/
def eclipseNextsUptoRow : OpenClaim := { program := "ytcgnhnmigmdalaadoor", sum := "8b68c21d0305ed4da3262ca880a7a3f8cac46bbb028ba3148138e448abcd38e2", func := "ephemeris/ephemerislaw2.EclipseNexts", spec := "eclipseNexts", inPlace := ["math.Float64bits", "math.Float64frombits", "math/bits.Add64", "math.archFloor", "math.archTrunc", "math.archCeil"], unfollowed := true, recurses := true, named := ["math/bits.divideError", "math/bits.overflowError", "math._cos", "math._sin", "math.mPi4"], apart := false, laid := [("math._sin", laid_math_sin), ("math._cos", laid_math_cos), ("math.mPi4", laid_math_mPi4)], narrowed := true }
def EclipseNextsUptoSaid : Prop := eclipseNextsUptoRow.holds Tryd.pinned (OpenSpec.upto eclipseNextsSpec)

/-- 'ephemerislaw2.StarmapMaps', WHERE WHAT IT READS IS OF BULK AT MOST 1048576: true; the input reads as it did. -/
def starmapMapsUptoRow : OpenClaim := { program := "ytcgnhnmigmdalaadoor", sum := "8b68c21d0305ed4da3262ca880a7a3f8cac46bbb028ba3148138e448abcd38e2", func := "ephemeris/ephemerislaw2.StarmapMaps", spec := "starmapMaps", inPlace := ["math.Float64bits", "math.Float64frombits", "math/bits.Add64", "math.archFloor", "math.archTrunc", "math.archCeil"], named := ["ephemeris/star.table", "math/bits.divideError", "math/bits.overflowError", "math._cos", "math._sin", "math.mPi4"], apart := false, laid := [("math._sin", laid_math_sin), ("math._cos", laid_math_cos), ("math.mPi4", laid_math_mPi4), ("ephemeris/star.table", laid_ephemeris_star_table)], narrowed := true }
def StarmapMapsUptoSaid : Prop := starmapMapsUptoRow.holds Tryd.pinned (OpenSpec.upto starmapMapsSpec)

/-- 'ephemerislaw2.StarmapUps', WHERE WHAT IT READS IS OF BULK AT MOST 1048576: true; the input reads as it did. -/
def starmapUpsUptoRow : OpenClaim := { program := "ytcgnhnmigmdalaadoor", sum := "8b68c21d0305ed4da3262ca880a7a3f8cac46bbb028ba3148138e448abcd38e2", func := "ephemeris/ephemerislaw2.StarmapUps", spec := "starmapUps", inPlace := ["math.Float64bits", "math.Float64frombits", "math/bits.Add64", "math.archFloor", "math.archTrunc", "math.archCeil"], named := ["ephemeris/star.table", "math/bits.divideError", "math/bits.overflowError", "math._cos", "math._sin", "math.mPi4"], apart := false, laid := [("math._sin", laid_math_sin), ("math._cos", laid_math_cos), ("math.mPi4", laid_math_mPi4), ("ephemeris/star.table", laid_ephemeris_star_table)], narrowed := true }
def StarmapUpsUptoSaid : Prop := starmapUpsUptoRow.holds Tryd.pinned (OpenSpec.upto starmapUpsSpec)

/-- 'ephemeristop.TopTides', WHERE WHAT IT READS IS OF BULK AT MOST 1048576: true; the input reads as it did. -/
def topTidesUptoRow : OpenClaim := { program := "ytcgnhnmigmdalaadoor", sum := "8b68c21d0305ed4da3262ca880a7a3f8cac46bbb028ba3148138e448abcd38e2", func := "ephemeris/ephemeristop.TopTides", spec := "topTides", inPlace := ["math.Float64bits", "math.Float64frombits", "math/bits.Add64", "math.archFloor", "math.archTrunc", "math.archCeil"], unfollowed := true, recurses := true, named := ["math/bits.divideError", "math/bits.overflowError", "math._cos", "math._sin", "math.mPi4"], apart := false, laid := [("math._sin", laid_math_sin), ("math._cos", laid_math_cos), ("math.mPi4", laid_math_mPi4)], narrowed := true }
def TopTidesUptoSaid : Prop := topTidesUptoRow.holds Tryd.pinned (OpenSpec.upto topTidesSpec)

end Rows
end Go.Proofs.YtcgnhnmigmdalaaDoor
