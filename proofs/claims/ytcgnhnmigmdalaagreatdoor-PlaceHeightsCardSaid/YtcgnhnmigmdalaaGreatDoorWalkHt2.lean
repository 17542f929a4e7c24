/- What the law PlaceHeights asks of the calls where place and time are right. -/
import Derived.Test.YtcgnhnmigmdalaaGreatDoorWalkHt1
import Derived.Deep.RegionHeld3
set_option linter.unusedVariables false
set_option linter.unusedSimpArgs false
set_option maxRecDepth 100000
namespace Go.Proofs.YtcgnhnmigmdalaaGreatDoor
open Go.RowKit
/-- What the law's calls answer where place and time are right: the numbers, and that the reference's tests hold. -/
structure HtN (lon lat t m a0 a1 d0 d1 u0 u1 s0 s1 x0 x1 y0 y1 p q er : Int) (D : Int → Int → Int → Prop) : Prop where
  hgt : ∀ w, Tab w → Calls Tryz.prog 11 #[.agg #[.int .i64 lon, .int .i64 lat], .agg #[.int .i64 a0, .int .i64 a1], .agg #[.int .i64 d0, .int .i64 d1], .int .i64 t] w fun e w' => e = .returned (.tuple #[.agg #[.int .i64 u0, .int .i64 u1], .int .i64 0]) ∧ Below w.heap.size w w'
  alt : ∀ w, Tab w → Calls Tryz.prog 15 #[.agg #[.int .i64 lon, .int .i64 lat], .agg #[.int .i64 a0, .int .i64 a1], .agg #[.int .i64 d0, .int .i64 d1], .int .i64 t] w fun e w' => e = .returned (.tuple #[.agg #[.int .i64 s0, .int .i64 s1], .int .i64 0]) ∧ Below w.heap.size w w'
  grd : ∀ w, Tab w → Calls Tryz.prog 16 #[.agg #[.int .i64 lon, .int .i64 lat], .agg #[.int .i64 a0, .int .i64 a1], .agg #[.int .i64 d0, .int .i64 d1], .int .i64 t] w fun e w' => e = .returned (.tuple #[.agg #[.int .i64 x0, .int .i64 x1], .agg #[.int .i64 y0, .int .i64 y1], .int .i64 0]) ∧ Below w.heap.size w w'
  azi : ∀ w, Tab w → Calls Tryz.prog 17 #[.agg #[.int .i64 lon, .int .i64 lat], .agg #[.int .i64 a0, .int .i64 a1], .agg #[.int .i64 d0, .int .i64 d1], .int .i64 t] w fun e w' => e = .returned (.tuple #[.agg #[.int .i64 p, .int .i64 q], .int .i64 er]) ∧ Below w.heap.size w w'
  body : ∀ w e f, -8 ≤ e → e ≤ 8 → -8 ≤ f → f ≤ 8 → Calls Tryz.prog 19 #[.int .i64 m, .int .i64 t, .int .i64 e, .int .i64 f] w fun r w' => ∃ x y z, r = .returned (.agg #[.int .i64 x, .int .i64 y, .int .i64 z]) ∧ D x y z ∧ Below w.heap.size w w'
  abv : ∀ x y z, D x y z → ∃ U E N, (∀ w, Calls Tryz.prog 18 #[.agg #[.int .i64 lon, .int .i64 lat], .agg #[.int .i64 x, .int .i64 y, .int .i64 z], .int .i64 t] w fun e w' => e = .returned (.tuple #[.int .i64 U, .int .i64 E, .int .i64 N]) ∧ Below w.heap.size w w') ∧
    (∀ w, Calls Tryz.prog 20 #[.agg #[.int .i64 u0, .int .i64 u1], .int .i64 U] w fun e w' => e = .returned (.bool true) ∧ Below w.heap.size w w') ∧
    (∀ w, Calls Tryz.prog 21 #[.agg #[.int .i64 s0, .int .i64 s1], .int .i64 U] w fun e w' => e = .returned (.bool true) ∧ Below w.heap.size w w') ∧
    (∀ w, Calls Tryz.prog 20 #[.agg #[.int .i64 x0, .int .i64 x1], .int .i64 E] w fun e w' => e = .returned (.bool true) ∧ Below w.heap.size w w') ∧
    (∀ w, Calls Tryz.prog 20 #[.agg #[.int .i64 y0, .int .i64 y1], .int .i64 N] w fun e w' => e = .returned (.bool true) ∧ Below w.heap.size w w') ∧
    (er = 0 → ∀ w, Calls Tryz.prog 22 #[.agg #[.int .i64 p, .int .i64 q], .int .i64 E, .int .i64 N] w fun e w' => e = .returned (.bool true) ∧ Below w.heap.size w w')
  wide : u1 - u0 ≤ 30 + 7 * (a1 - a0) + 14 * (d1 - d0) ∧ x1 - x0 ≤ 30 + 7 * (a1 - a0) + 14 * (d1 - d0) ∧ y1 - y0 ≤ 30 + 7 * (a1 - a0) + 14 * (d1 - d0)
  e : er = 0 ∨ (er = 11 ∧ p = 0 ∧ q = 0)
  ra : 0 ≤ a1 - a0 ∧ a1 - a0 ≤ 1000000
  de : 0 ≤ d1 - d0 ∧ d1 - d0 ≤ 1000000
  su : Sp1 u0 u1
  sx : Sp1 x0 x1
  sy : Sp1 y0 y1
end Go.Proofs.YtcgnhnmigmdalaaGreatDoor
