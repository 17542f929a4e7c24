/- The sun's and the moon's coordinates hold their directions tightly. No program in sight. The reference's parts of the sun's and the moon's direction lie in place.look's intervals, up to a unit. No program in sight. How wide place.look's intervals are (for seats without riseset). No program in sight. The reference's parts of a star's direction lie in place.look's intervals, up to a unit. No program in sight. -/
import Derived.Test.YtcgnhnmigmdalaaDoorPlainLook4
import Derived.Test.YtcgnhnmigmdalaaDoorSnA
import Derived.Test.YtcgnhnmigmdalaaDoorWalkMoonA
import Derived.Test.YtcgnhnmigmdalaaDoorWalkLk2
import Derived.Test.YtcgnhnmigmdalaaDoorPlainStar
set_option linter.unusedVariables false
set_option linter.unusedSimpArgs false
namespace Go.Proofs.YtcgnhnmigmdalaaDoor
section
open Ieee
theorem sin_mono2 {x y : Rat} (h : x ≤ y) (hx : rabs x ≤ piQ / 2) (hy : rabs y ≤ piQ / 2) : S x ≤ S y + 5 / 1000000000000 := by
  have hp := pi_num
  have x1 := rabs_le.1 hx
  have y1 := rabs_le.1 hy
  have hm : rabs ((y + x) / 2) ≤ 32/5 := rabs_le.2 ⟨by grind, by grind⟩
  have hd : rabs ((y - x) / 2) ≤ 16/5 := rabs_le.2 ⟨by grind, by grind⟩
  have d := rabs_le.1 (sin_diff hm hd).1
  have e1 : (y + x) / 2 + (y - x) / 2 = y := by grind
  have e2 : (y + x) / 2 - (y - x) / 2 = x := by grind
  rw [e1, e2] at d
  have cu := C_up (d := 0) (x := (y + x) / 2) (by grind) (by grind) (by grind) (by grind)
  have sl := (S_lin (x := (y - x) / 2) (by grind) (by grind)).1
  have sb := rabs_le.1 (SC_bd (y := (y - x) / 2) (by grind)).1
  have m1 := Rat.mul_nonneg (show 0 ≤ C ((y + x) / 2) + 2 / 1000000000000 by grind) (show 0 ≤ S ((y - x) / 2) by grind)
  generalize C ((y + x) / 2) = c at *
  generalize S ((y - x) / 2) = s at *
  grind
theorem sin_15 : 99/100 ≤ S (15/10) ∧ S (-(15/10)) ≤ -(99/100) ∧ (15/10 : Rat) ≤ piQ / 2 := by decide +kernel
theorem asD_small {n : Int} {D : Rat} (h : Asin n D) (h1 : -600000000 ≤ n) (h2 : n ≤ 600000000) : rabs (tq * D) ≤ piQ / 2 := by
  obtain ⟨s1, s2, s3⟩ := sin_15
  have hp := pi_num
  have hs := rabs_le.1 h.s
  have hb := rabs_le.1 h.b
  have N1 := icast h1
  have N2 := icast h2
  have c1 : ((-600000000 : Int) : Rat) = -600000000 := rfl
  have c2 : ((600000000 : Int) : Rat) = 600000000 := rfl
  rw [c1] at N1
  rw [c2] at N2
  rw [rabs_le]
  constructor
  · by_cases q : tq * D ≤ 15/10
    · grind
    · exfalso
      have m := sin_mono (x := 15/10) (y := tq * D) (by grind) (rabs_le.2 ⟨by grind, by grind⟩) (rabs_le.2 ⟨by grind, by grind⟩)
      grind
  · by_cases q : -(15/10) ≤ tq * D
    · grind
    · exfalso
      have m := sin_mono (x := tq * D) (y := -(15/10)) (by grind) (rabs_le.2 ⟨by grind, by grind⟩) (rabs_le.2 ⟨by grind, by grind⟩)
      grind
theorem as_low2 {a : Int} (h1 : -600000000 ≤ a) (h2 : a ≤ 600000000) : siU (asLo a) ≤ (a : Rat) / 1000000000 + 12 / 100000000000 := by
  have ea : cl9 a = a := by unfold cl9; omega
  obtain ⟨n1, n2⟩ := cl9_rng a
  obtain ⟨-, D, -, ha, -, l1, l2, k1, k2⟩ := asin_run (cl9 a) n1 n2
  obtain ⟨b1, b2, -, -, -⟩ := as_bounds a
  have hD := asD_small ha (by omega) (by omega)
  have hs := rabs_le.1 ha.s
  rw [ea] at hs
  rcases (show asLo a = -250000000 ∨ asLo a = arLo (asinW (cl9 a)) by unfold asLo; omega) with h | h
  · rw [h]
    have := rabs_le.1 at_ends.1
    have N1 := icast h1
    have c1 : ((-600000000 : Int) : Rat) = -600000000 := rfl
    rw [c1] at N1
    grind
  · have st := rabs_le.1 (siU_tq b1 b2)
    have mono := sin_mono2 (x := tq * (asLo a : Rat)) (y := tq * D) (tq_le (by rw [h]; grind)) (tq_rng b1 b2) hD
    grind
theorem as_high2 {a : Int} (h1 : -600000000 ≤ a) (h2 : a ≤ 600000000) : (a : Rat) / 1000000000 ≤ siU (asHi a) + 12 / 100000000000 := by
  have ea : cl9 a = a := by unfold cl9; omega
  obtain ⟨n1, n2⟩ := cl9_rng a
  obtain ⟨-, D, -, ha, -, l1, l2, k1, k2⟩ := asin_run (cl9 a) n1 n2
  obtain ⟨-, -, b1, b2, -⟩ := as_bounds a
  have hD := asD_small ha (by omega) (by omega)
  have hs := rabs_le.1 ha.s
  rw [ea] at hs
  rcases (show asHi a = 250000000 ∨ asHi a = arHi (asinW (cl9 a)) by unfold asHi; omega) with h | h
  · rw [h]
    have := rabs_le.1 at_ends.2
    have N2 := icast h2
    have c2 : ((600000000 : Int) : Rat) = 600000000 := rfl
    rw [c2] at N2
    grind
  · have st := rabs_le.1 (siU_tq b1 b2)
    have mono := sin_mono2 (x := tq * D) (y := tq * (asHi a : Rat)) (tq_le (by rw [h]; grind)) hD (tq_rng b1 b2)
    grind
theorem p_norm {zl zb : Rat} (l0 : 0 ≤ zl) (l1 : zl ≤ 1000000000) (b0 : 0 ≤ zb) (b1 : zb ≤ 1000000000) : rabs (pX zl zb * pX zl zb + pY zl zb * pY zl zb + pZ zl zb * pZ zl zb - 1) ≤ 5 / 100000000000 := by
  have cl := circT l0 l1
  have cb := rabs_le.1 (circT b0 b1)
  have ct : rabs (se9 * se9 + ce9 * ce9 - 1) ≤ 1 / 100000000000 := circT (z := 65109000) (by decide +kernel) (by decide +kernel)
  have nl := sc_one l0 l1
  have nb := sc_one b0 b1
  unfold pX pY pZ
  have k1 := sq_bd nb.2
  have k2 := sq_bd nb.1
  have k3 := sq_bd nl.1
  have a1 : rabs (C (tq * zb) * C (tq * zb)) ≤ 101/100 := by have := mul_rabs nb.2 nb.2; grind
  have a2 : rabs (S (tq * zb) * S (tq * zb)) ≤ 101/100 := by have := mul_rabs nb.1 nb.1; grind
  have a3 : rabs (C (tq * zb) * C (tq * zb) * (S (tq * zl) * S (tq * zl))) ≤ 102/100 := by have := mul_rabs a1 (mul_rabs nl.1 nl.1); grind
  have m1 := rabs_le.1 (mul_rabs a1 cl)
  have m2 := rabs_le.1 (mul_rabs a2 ct)
  have m3 := rabs_le.1 (mul_rabs a3 ct)
  clear k1 k2 k3 a1 a2 a3 nl nb cl ct
  generalize S (tq * zl) = sl at *
  generalize C (tq * zl) = cl' at *
  generalize S (tq * zb) = sb at *
  generalize C (tq * zb) = cb' at *
  generalize se9 = se at *
  generalize ce9 = ce at *
  have e : cb' * cl' * (cb' * cl') + (cb' * sl * ce - sb * se) * (cb' * sl * ce - sb * se) + (cb' * sl * se + sb * ce) * (cb' * sl * se + sb * ce) - 1 = cb' * cb' * (sl * sl + cl' * cl' - 1) + cb' * cb' * (sl * sl) * (se * se + ce * ce - 1) + sb * sb * (se * se + ce * ce - 1) + (sb * sb + cb' * cb' - 1) := by grind
  rw [e]
  clear e
  generalize cb' * cb' * (sl * sl + cl' * cl' - 1) = u1 at *
  generalize cb' * cb' * (sl * sl) * (se * se + ce * ce - 1) = u2 at *
  generalize sb * sb * (se * se + ce * ce - 1) = u3 at *
  generalize sb * sb + cb' * cb' - 1 = u4 at *
  rw [rabs_le]; constructor <;> grind
theorem eq_near {l0 l1 b0 b1 : Int} {zl zb : Rat} (p : Pt l0 l1 b0 b1 zl zb) {D0 L H : Rat} {E : Nat → Rat} (hv : ArcV (eqY0 l0 l1 b0 b1) (eqY1 l0 l1 b0 b1) (eqX0 l0 l1 b0 b1) (eqX1 l0 l1 b0 b1) D0 E L H)
    (hw : raHi l0 l1 b0 b1 - raLo l0 l1 b0 b1 ≤ 400000000) : Near (raLo l0 l1 b0 b1 % 1000000000) (raHi l0 l1 b0 b1 % 1000000000) (1000000000 * pX zl zb) (1000000000 * pY zl zb) := by
  obtain ⟨ix, iy, -⟩ := eq_in p
  have sx := eqX_sp p.hl p.hb
  have sy := eqY_bd p.hl p.hb
  unfold raLo raHi at *
  generalize eqX0 l0 l1 b0 b1 = x0 at *
  generalize eqX1 l0 l1 b0 b1 = x1 at *
  generalize eqY0 l0 l1 b0 b1 = y0 at *
  generalize eqY1 l0 l1 b0 b1 = y1 at *
  have c1 := arc_corners hv hw (y := y0) (x := x0) (.inl rfl) (.inl rfl)
  have c2 := arc_corners hv hw (y := y1) (x := x0) (.inr rfl) (.inl rfl)
  have c3 := arc_corners hv hw (y := y0) (x := x1) (.inl rfl) (.inr rfl)
  have c4 := arc_corners hv hw (y := y1) (x := x1) (.inr rfl) (.inr rfl)
  have m1 := emod_bd (arcLo y0 y1 x0 x1)
  have m2 := emod_bd (arcHi y0 y1 x0 x1)
  have q1 := rabs_int (n := x0) (B := 1100000000) (by have := sx.b0; omega) (by have := sx.b1; have := sx.o; omega)
  have q2 := rabs_int (n := x1) (B := 1100000000) (by have := sx.b0; have := sx.o; omega) (by have := sx.b1; omega)
  have q3 := rabs_int (n := y0) (B := 1400000000) (by omega) (by omega)
  have q4 := rabs_int (n := y1) (B := 1400000000) (by omega) (by omega)
  exact rect_near m1.1 m1.2 m2.1 m2.2 c1 c2 c3 c4 q1 q2 q3 q4 ix.1 ix.2 iy.1 iy.2
theorem z_half {l h z : Rat} (z1 : -497976340 ≤ l) (z2 : h ≤ 497976340) (i1 : l - 1/10 ≤ 1000000000 * z) (i2 : 1000000000 * z ≤ h + 1/10) : rabs z ≤ 1/2 := by
  rw [rabs_le]; constructor <;> grind
theorem eq_rade {l0 l1 b0 b1 B : Int} {zl zb : Rat} (p : Pt l0 l1 b0 b1 zl zb) {D0 L H : Rat} {E : Nat → Rat} (hv : ArcV (eqY0 l0 l1 b0 b1) (eqY1 l0 l1 b0 b1) (eqX0 l0 l1 b0 b1) (eqX1 l0 l1 b0 b1) D0 E L H)
    (ho : raLo l0 l1 b0 b1 ≤ raHi l0 l1 b0 b1) (hw : raHi l0 l1 b0 b1 - raLo l0 l1 b0 b1 ≤ 1000000) (hB : B ≤ 100200000) (B0 : 0 ≤ B) (h1 : -B ≤ sovLo b0 b1) (h2 : sovHi b0 b1 ≤ B) :
    RaDe (raLo l0 l1 b0 b1 % 1000000000) (raLo l0 l1 b0 b1 % 1000000000 + raHi l0 l1 b0 b1 - raLo l0 l1 b0 b1) (asLo (eqZ0 l0 l1 b0 b1)) (asHi (eqZ1 l0 l1 b0 b1)) (pX zl zb) (pY zl zb) (pZ zl zb) := by
  have near := eq_near p hv (by omega)
  obtain ⟨z1, z2⟩ := eqZ_small p.hl p.hb h1 h2 B0
  have zo := (eqZ_bd p.hl p.hb).1
  obtain ⟨-, -, i1, i2⟩ := eq_in p
  have ab := as_bounds (eqZ0 l0 l1 b0 b1)
  have ab2 := as_bounds (eqZ1 l0 l1 b0 b1)
  have q1 := as_low2 (a := eqZ0 l0 l1 b0 b1) (by omega) (by omega)
  have q2 := as_high2 (a := eqZ1 l0 l1 b0 b1) (by omega) (by omega)
  have Z1 := icast (show -497976340 ≤ eqZ0 l0 l1 b0 b1 by omega)
  have Z2 := icast (show eqZ1 l0 l1 b0 b1 ≤ 497976340 by omega)
  have c1 : ((-497976340 : Int) : Rat) = -497976340 := rfl
  have c2 : ((497976340 : Int) : Rat) = 497976340 := rfl
  rw [c1] at Z1
  rw [c2] at Z2
  obtain ⟨n1, n2, n3⟩ := near
  have m0 := emod_bd (raLo l0 l1 b0 b1)
  have k1 := siU_b (raLo l0 l1 b0 b1 % 1000000000)
  have k2 := coU_b (raLo l0 l1 b0 b1 % 1000000000)
  have k3 := siU_b (raLo l0 l1 b0 b1 % 1000000000 + raHi l0 l1 b0 b1 - raLo l0 l1 b0 b1)
  have k4 := coU_b (raLo l0 l1 b0 b1 % 1000000000 + raHi l0 l1 b0 b1 - raLo l0 l1 b0 b1)
  rw [show raLo l0 l1 b0 b1 % 1000000000 % 1000000000 = raLo l0 l1 b0 b1 % 1000000000 by omega] at k1 k2
  rw [show (raLo l0 l1 b0 b1 % 1000000000 + raHi l0 l1 b0 b1 - raLo l0 l1 b0 b1) % 1000000000 = raHi l0 l1 b0 b1 % 1000000000 by omega] at k3 k4
  have nn := p_norm p.l.1 p.l.2 p.b.1 p.b.2
  have nn' := rabs_le.1 nn
  have sq : ∀ z : Rat, 0 ≤ z * z := fun z => by rw [← rabs_sq]; exact Rat.mul_nonneg (rabs_nonneg z) (rabs_nonneg z)
  have bX : rabs (pX zl zb) ≤ 101/100 := sq_rabs (by grind) (by have := sq (pX zl zb); have := sq (pY zl zb); have := sq (pZ zl zb); grind)
  have bY : rabs (pY zl zb) ≤ 101/100 := sq_rabs (by grind) (by have := sq (pX zl zb); have := sq (pY zl zb); have := sq (pZ zl zb); grind)
  have w1 := rabs_le.1 (mul_rabs k2 bY)
  have w2 := rabs_le.1 (mul_rabs k4 bY)
  have w3 := rabs_le.1 (mul_rabs k2 bX)
  have w4 := rabs_le.1 (mul_rabs k4 bX)
  rw [← k1] at n1 n3
  rw [← k3] at n2 n3
  have oo : raLo l0 l1 b0 b1 % 1000000000 ≤ raLo l0 l1 b0 b1 % 1000000000 + raHi l0 l1 b0 b1 - raLo l0 l1 b0 b1 := by omega
  have ww : raLo l0 l1 b0 b1 % 1000000000 + raHi l0 l1 b0 b1 - raLo l0 l1 b0 b1 - raLo l0 l1 b0 b1 % 1000000000 ≤ 1000000 := by omega
  clear k1 k2 k3 k4 sq nn' bX bY
  refine ⟨oo, ww, as_order zo, ab.1, ab2.2.2.2.1, ?_, ?_, ?_, ?_, ?_, nn, ?_⟩
  all_goals clear nn oo ww m0 ab ab2 z1 z2 zo ho hw hB B0 h1 h2
  · clear n2 n3 w2 w3 w4 q1 q2; grind
  · clear n1 n3 w1 w3 w4 q1 q2; grind
  · clear n1 n2 q1 q2; grind
  · clear n1 n2 n3 w1 w2 w3 w4; grind
  · clear n1 n2 n3 w1 w2 w3 w4; grind
  · exact z_half Z1 Z2 i1 i2
end
section
open Ieee
theorem sid_ang (lon t : Int) : ∃ k : Int, (sidLo lon t : Rat) - 1/500 ≤ zA (refSid lon t) + (k : Rat) * 1000000000 ∧ zA (refSid lon t) + (k : Rat) * 1000000000 ≤ (sidHi lon t : Rat) + 1/500 := by
  obtain ⟨-, -, -, -, h, u0, u1, a0, a1⟩ := sid_ok lon t
  have hu : unitA (refSid lon t) * 1000000 ≤ refSid lon t * 1048576 ∧ refSid lon t * 1048576 < unitA (refSid lon t) * 1000000 + 1000000 := by unfold unitA; omega
  have h1 := icast hu.1
  have h2 := icast (show refSid lon t * 1048576 ≤ unitA (refSid lon t) * 1000000 + 1000000 by omega)
  clear hu
  generalize unitA (refSid lon t) = m at *
  generalize refSid lon t = a at *
  generalize sidLo lon t = lo at *
  generalize sidHi lon t = hi at *
  refine ⟨-((m - lo * 1048576 + 2000) / 1048576000000000), ?_⟩
  have e := Int.emod_add_mul_ediv (m - lo * 1048576 + 2000) 1048576000000000
  have r0 := Int.emod_nonneg (m - lo * 1048576 + 2000) (show (1048576000000000 : Int) ≠ 0 by decide)
  generalize (m - lo * 1048576 + 2000) / 1048576000000000 = q at *
  generalize (m - lo * 1048576 + 2000) % 1048576000000000 = r at *
  have k1 := icast (show lo * 1048576 - 2000 ≤ m - 1048576000000000 * q by omega)
  have k2 := icast (show m - 1048576000000000 * q ≤ hi * 1048576 + 2000 by omega)
  push_cast at k1 k2 h1 h2
  unfold zA
  push_cast
  constructor <;> grind
/-- What the reference's parts are worth against place.look's intervals, and their bounds. -/
structure LookOk (lon lat t a0 a1 d0 d1 x y z : Int) : Prop where
  x1 : -1160000000000000000 ≤ x ∧ x ≤ 1160000000000000000
  y1 : -1160000000000000000 ≤ y ∧ y ≤ 1160000000000000000
  z1 : -1160000000000000000 ≤ z ∧ z ≤ 1160000000000000000
  o : -1160000000000000000 ≤ abOut (refSid lon t) x y ∧ abOut (refSid lon t) x y ≤ 1160000000000000000
  bu : -1160000000000000000 ≤ abUp (refSid lon t) lat x y z ∧ abUp (refSid lon t) lat x y z ≤ 1160000000000000000
  bs : -1160000000000000000 ≤ abSide (refSid lon t) x y ∧ abSide (refSid lon t) x y ≤ 1160000000000000000
  bn : -1160000000000000000 ≤ abNo (refSid lon t) lat x y z ∧ abNo (refSid lon t) lat x y z ≤ 1160000000000000000
  iu : ∃ u : Rat, InU (up0 lat (lkH0 lon t a1) (lkH1 lon t a0) d0 d1) (up1 lat (lkH0 lon t a1) (lkH1 lon t a0) d0 d1) u (92/100) ∧ rabs ((abUp (refSid lon t) lat x y z : Rat) - uQ * u) ≤ 40000000 ∧ rabs u ≤ 1 + 1 / 1000000
  ie : ∃ u : Rat, InU (ea0 (lkH0 lon t a1) (lkH1 lon t a0) d0 d1) (ea1 (lkH0 lon t a1) (lkH1 lon t a0) d0 d1) u (92/100) ∧ rabs ((abSide (refSid lon t) x y : Rat) - uQ * u) ≤ 40000000 ∧ rabs u ≤ 1 + 1 / 1000000
  iN : ∃ u : Rat, InU (no0 lat (lkH0 lon t a1) (lkH1 lon t a0) d0 d1) (no1 lat (lkH0 lon t a1) (lkH1 lon t a0) d0 d1) u (92/100) ∧ rabs ((abNo (refSid lon t) lat x y z : Rat) - uQ * u) ≤ 40000000 ∧ rabs u ≤ 1 + 1 / 1000000
theorem look_all (lon lat t : Int) {a0 a1 d0 d1 x y z : Int} {X Y Z : Rat} (h : RaDe a0 a1 d0 d1 X Y Z) (hx : rabs ((x : Rat) - uQ * X) ≤ 10000000) (hy : rabs ((y : Rat) - uQ * Y) ≤ 10000000) (hz : rabs ((z : Rat) - uQ * Z) ≤ 10000000) : LookOk lon lat t a0 a1 d0 d1 x y z := by
  have n := rabs_le.1 h.n
  have sq : ∀ z : Rat, 0 ≤ z * z := fun z => by rw [← rabs_sq]; exact Rat.mul_nonneg (rabs_nonneg z) (rabs_nonneg z)
  have sx := sq X
  have sy := sq Y
  have sz := sq Z
  have bX : rabs X ≤ 1 + 1 / 1000000 := sq_rabs (by grind) (by grind)
  have bY : rabs Y ≤ 1 + 1 / 1000000 := sq_rabs (by grind) (by grind)
  have bZ : rabs Z ≤ 1 + 1 / 1000000 := sq_rabs (by grind) (by grind)
  have ok := sid_ok lon t
  obtain ⟨z0, z1⟩ := zA_bd ok.a0 ok.a1
  have ct := circT z0 z1
  have c1 : rabs (C (tq * zA (refSid lon t)) * C (tq * zA (refSid lon t)) + S (tq * zA (refSid lon t)) * S (tq * zA (refSid lon t)) - 1) ≤ 1 / 1000000000 := by
    rw [show C (tq * zA (refSid lon t)) * C (tq * zA (refSid lon t)) + S (tq * zA (refSid lon t)) * S (tq * zA (refSid lon t)) - 1 = S (tq * zA (refSid lon t)) * S (tq * zA (refSid lon t)) + C (tq * zA (refSid lon t)) * C (tq * zA (refSid lon t)) - 1 by grind]; grind
  have c2 : rabs (-S (tq * zA (refSid lon t)) * -S (tq * zA (refSid lon t)) + C (tq * zA (refSid lon t)) * C (tq * zA (refSid lon t)) - 1) ≤ 1 / 1000000000 := by
    rw [show -S (tq * zA (refSid lon t)) * -S (tq * zA (refSid lon t)) + C (tq * zA (refSid lon t)) * C (tq * zA (refSid lon t)) - 1 = S (tq * zA (refSid lon t)) * S (tq * zA (refSid lon t)) + C (tq * zA (refSid lon t)) * C (tq * zA (refSid lon t)) - 1 by grind]; grind
  have bO : rabs (vOut (zA (refSid lon t)) X Y) ≤ 1 + 1 / 1000000 := cauchy c1 (by grind) (by grind)
  have bS : rabs (vSide (zA (refSid lon t)) X Y) ≤ 1 + 1 / 1000000 := by
    have := cauchy (s := -S (tq * zA (refSid lon t))) (c := C (tq * zA (refSid lon t))) (a := X) (b := Y) (R := 1 + 1 / 1000000) c2 (by grind) (by grind)
    unfold vSide
    rw [show C (tq * zA (refSid lon t)) * Y - S (tq * zA (refSid lon t)) * X = -S (tq * zA (refSid lon t)) * X + C (tq * zA (refSid lon t)) * Y by grind]; exact this
  have vv : vOut (zA (refSid lon t)) X Y * vOut (zA (refSid lon t)) X Y + vSide (zA (refSid lon t)) X Y * vSide (zA (refSid lon t)) X Y ≤ (X * X + Y * Y) * (1 + 1 / 1000000000) := by
    have ct' := rabs_le.1 ct
    have m := Rat.mul_le_mul_of_nonneg_right (show S (tq * zA (refSid lon t)) * S (tq * zA (refSid lon t)) + C (tq * zA (refSid lon t)) * C (tq * zA (refSid lon t)) ≤ 1 + 1 / 1000000000 by grind) (show 0 ≤ X * X + Y * Y by grind)
    unfold vOut vSide
    grind
  have so := sq (vOut (zA (refSid lon t)) X Y)
  have ss := sq (vSide (zA (refSid lon t)) X Y)
  obtain ⟨cl, -, -⟩ := siU_circ lat
  have cl1 : rabs (siU lat * siU lat + coU lat * coU lat - 1) ≤ 1 / 1000000000 := by grind
  have cl2 : rabs (coU lat * coU lat + -siU lat * -siU lat - 1) ≤ 1 / 1000000000 := by rw [show coU lat * coU lat + -siU lat * -siU lat - 1 = siU lat * siU lat + coU lat * coU lat - 1 by grind]; exact cl1
  have bU : rabs (tUp lat Z (vOut (zA (refSid lon t)) X Y)) ≤ 1 + 1 / 1000000 := cauchy cl1 (by grind) (by grind)
  have bN : rabs (tNo lat Z (vOut (zA (refSid lon t)) X Y)) ≤ 1 + 1 / 1000000 := by
    have := cauchy (a := Z) (b := vOut (zA (refSid lon t)) X Y) (R := 1 + 1 / 1000000) cl2 (by grind) (by grind)
    unfold tNo
    rw [show coU lat * Z - siU lat * vOut (zA (refSid lon t)) X Y = coU lat * Z + -siU lat * vOut (zA (refSid lon t)) X Y by grind]; exact this
  have ab := ab_ok (lat := lat) ok.a0 ok.a1 hx hy hz bX bY bZ bO
  obtain ⟨za, zd, hd, ka, kd⟩ := dirA_of h
  obtain ⟨i1, i2, i3⟩ := look_near lat hd ok.o h.oa h.od z0 z1 (sid_ang lon t) ka kd
  have ao := ab.o
  have asd := ab.s
  have au := ab.u
  have an := ab.n
  exact ⟨(fine_bd (by grind) bX).2, (fine_bd (by grind) bY).2, (fine_bd (by grind) bZ).2, (fine_bd (by grind) bO).2, (fine_bd (by grind) bU).2, (fine_bd (by grind) bS).2, (fine_bd (by grind) bN).2, ⟨_, i1, au, bU⟩, ⟨_, i2, by grind, bS⟩, ⟨_, i3, an, bN⟩⟩
/-- A height decided against a limit is so for the reference. -/
theorem look_above {lon lat t a0 a1 d0 d1 x y z : Int} (h : LookOk lon lat t a0 a1 d0 d1 x y z) (n : Int) : (n < up0 lat (lkH0 lon t a1) (lkH1 lon t a0) d0 d1 → fu n < abUp (refSid lon t) lat x y z) ∧ (up1 lat (lkH0 lon t a1) (lkH1 lon t a0) d0 d1 < n → abUp (refSid lon t) lat x y z < fu n) := by
  obtain ⟨u, ⟨i1, i2⟩, au, -⟩ := h.iu
  have hf := rabs_le.1 (fu_near n)
  have au := rabs_le.1 au
  have hu : uQ = 1152921504606846976 := by decide +kernel
  rw [hu] at hf au
  have r' : ∀ {p q : Int}, (p : Rat) < (q : Rat) → p < q := fun h => by exact_mod_cast h
  constructor
  · intro hn
    have := icast (show n + 1 ≤ up0 lat (lkH0 lon t a1) (lkH1 lon t a0) d0 d1 by omega)
    push_cast at this
    refine r' ?_
    grind
  · intro hn
    have := icast (show up1 lat (lkH0 lon t a1) (lkH1 lon t a0) d0 d1 + 1 ≤ n by omega)
    push_cast at this
    refine r' ?_
    grind
end
section
open Ieee
theorem clip_wide {a b : Int} (h : a ≤ b) : clipH b - clipL a ≤ b - a := by unfold clipH clipL; omega
theorem sine_wide (a : Int) : ((sineHi a : Int) : Rat) - sineLo a ≤ 2 := by
  have h := icast (sine_bd a).w
  push_cast at h
  exact h
theorem look_wide (lat : Int) {h0 h1 d0 d1 : Int} (hh : h0 ≤ h1) (hd : d0 ≤ d1) :
    ((up1 lat h0 h1 d0 d1 - up0 lat h0 h1 d0 d1 : Int) : Rat) ≤ 62832 / 10000 * ((h1 - h0 : Int) : Rat) + 125664 / 10000 * ((d1 - d0 : Int) : Rat) + 18 ∧
    ((ea1 h0 h1 d0 d1 - ea0 h0 h1 d0 d1 : Int) : Rat) ≤ 62832 / 10000 * ((h1 - h0 : Int) : Rat) + 62832 / 10000 * ((d1 - d0 : Int) : Rat) + 7 ∧
    ((no1 lat h0 h1 d0 d1 - no0 lat h0 h1 d0 d1 : Int) : Rat) ≤ 62832 / 10000 * ((h1 - h0 : Int) : Rat) + 125664 / 10000 * ((d1 - d0 : Int) : Rat) + 18 := by
  have sp := lk_sp lat hh hd
  have one : ∀ {l h : Int}, Sp1 l h → rabs (l : Rat) ≤ 1000000000 ∧ rabs (h : Rat) ≤ 1000000000 := by
    intro l h s
    obtain ⟨o, a, b⟩ := s
    exact ⟨rabs_int (B := 1000000000) (by omega) (by omega), rabs_int (B := 1000000000) (by omega) (by omega)⟩
  have v1 : ((sovHi h0 h1 - sovLo h0 h1 : Int) : Rat) ≤ 62832 / 10000 * ((h1 - h0 : Int) : Rat) + 225 / 100 := (over_ok h0 h1 hh).w
  have v2 : ((sovHi d0 d1 - sovLo d0 d1 : Int) : Rat) ≤ 62832 / 10000 * ((d1 - d0 : Int) : Rat) + 225 / 100 := (over_ok d0 d1 hd).w
  have v3 : ((cvH h0 h1 - cvL h0 h1 : Int) : Rat) ≤ 62832 / 10000 * ((covE h0 h1 - covB h0 : Int) : Rat) + 225 / 100 := (over_ok (covB h0) (covE h0 h1) (by unfold covB covE; omega)).w
  have v4 : ((cvH d0 d1 - cvL d0 d1 : Int) : Rat) ≤ 62832 / 10000 * ((covE d0 d1 - covB d0 : Int) : Rat) + 225 / 100 := (over_ok (covB d0) (covE d0 d1) (by unfold covB covE; omega)).w
  have w3 := icast (show covE h0 h1 - covB h0 ≤ h1 - h0 by unfold covB covE; omega)
  have w4 := icast (show covE d0 d1 - covB d0 ≤ d1 - d0 by unfold covB covE; omega)
  have f1 := sine_wide lat
  have f2 : ((cfH lat : Int) : Rat) - cfL lat ≤ 2 := sine_wide _
  have pN : ((lkN1 h0 h1 d0 d1 - lkN0 h0 h1 d0 d1 : Int) : Rat) * 1000000000 ≤ _ := prod_wide sp.cD sp.cH (one sp.cD).1 (one sp.cD).2 (one sp.cH).1 (one sp.cH).2
  have pE : ((lkE1 h0 h1 d0 d1 - lkE0 h0 h1 d0 d1 : Int) : Rat) * 1000000000 ≤ _ := prod_wide sp.cD sp.sH (one sp.cD).1 (one sp.cD).2 (one sp.sH).1 (one sp.sH).2
  have pA : ((lkA1 lat d0 d1 - lkA0 lat d0 d1 : Int) : Rat) * 1000000000 ≤ _ := prod_wide sp.sF sp.sD (one sp.sF).1 (one sp.sF).2 (one sp.sD).1 (one sp.sD).2
  have pB : ((lkB1 lat h0 h1 d0 d1 - lkB0 lat h0 h1 d0 d1 : Int) : Rat) * 1000000000 ≤ _ := prod_wide sp.cF sp.N (one sp.cF).1 (one sp.cF).2 (one sp.N).1 (one sp.N).2
  have pC : ((lkC1 lat d0 d1 - lkC0 lat d0 d1 : Int) : Rat) * 1000000000 ≤ _ := prod_wide sp.cF sp.sD (one sp.cF).1 (one sp.cF).2 (one sp.sD).1 (one sp.sD).2
  have pD : ((lkD1 lat h0 h1 d0 d1 - lkD0 lat h0 h1 d0 d1 : Int) : Rat) * 1000000000 ≤ _ := prod_wide sp.sF sp.N (one sp.sF).1 (one sp.sF).2 (one sp.N).1 (one sp.N).2
  have u := icast (show up1 lat h0 h1 d0 d1 - up0 lat h0 h1 d0 d1 ≤ (lkA1 lat d0 d1 + lkB1 lat h0 h1 d0 d1) - (lkA0 lat d0 d1 + lkB0 lat h0 h1 d0 d1) from clip_wide (by have := sp.A.o; have := sp.B.o; omega))
  have e := icast (show ea1 h0 h1 d0 d1 - ea0 h0 h1 d0 d1 ≤ -lkE0 h0 h1 d0 d1 - -lkE1 h0 h1 d0 d1 from clip_wide (by have := sp.E.o; omega))
  have n := icast (show no1 lat h0 h1 d0 d1 - no0 lat h0 h1 d0 d1 ≤ (lkC1 lat d0 d1 - lkD0 lat h0 h1 d0 d1) - (lkC0 lat d0 d1 - lkD1 lat h0 h1 d0 d1) from clip_wide (by have := sp.Cc.o; have := sp.D.o; omega))
  push_cast at u e n v1 v2 v3 v4 w3 w4 pN pE pA pB pC pD
  push_cast
  clear sp one
  refine ⟨?_, ?_, ?_⟩
  · clear pC pD pE e n; grind
  · clear pA pB pC pD pN u n; grind
  · clear pA pB pE u e; grind
end
section
open Ieee
theorem look_dir (lon lat t : Int) {a0 a1 d0 d1 x y z : Int} {X Y Z za zd : Rat} (hd : DirA X Y Z za zd) (hn : rabs (X * X + Y * Y + Z * Z - 1) ≤ 1 / 1000000000) (oa : a0 ≤ a1) (od : d0 ≤ d1) (ka : ∃ k : Int, (a0 : Rat) ≤ za + (k : Rat) * 1000000000 ∧ za + (k : Rat) * 1000000000 ≤ (a1 : Rat)) (kd : ∃ k : Int, (d0 : Rat) ≤ zd + (k : Rat) * 1000000000 ∧ zd + (k : Rat) * 1000000000 ≤ (d1 : Rat)) (hx : rabs ((x : Rat) - uQ * X) ≤ 10000000) (hy : rabs ((y : Rat) - uQ * Y) ≤ 10000000) (hz : rabs ((z : Rat) - uQ * Z) ≤ 10000000) : LookOk lon lat t a0 a1 d0 d1 x y z := by
  have n := rabs_le.1 hn
  have sq : ∀ z : Rat, 0 ≤ z * z := fun z => by rw [← rabs_sq]; exact Rat.mul_nonneg (rabs_nonneg z) (rabs_nonneg z)
  have sx := sq X
  have sy := sq Y
  have sz := sq Z
  have bX : rabs X ≤ 1 + 1 / 1000000 := sq_rabs (by grind) (by grind)
  have bY : rabs Y ≤ 1 + 1 / 1000000 := sq_rabs (by grind) (by grind)
  have bZ : rabs Z ≤ 1 + 1 / 1000000 := sq_rabs (by grind) (by grind)
  have ok := sid_ok lon t
  obtain ⟨z0, z1⟩ := zA_bd ok.a0 ok.a1
  have ct := circT z0 z1
  have c1 : rabs (C (tq * zA (refSid lon t)) * C (tq * zA (refSid lon t)) + S (tq * zA (refSid lon t)) * S (tq * zA (refSid lon t)) - 1) ≤ 1 / 1000000000 := by
    rw [show C (tq * zA (refSid lon t)) * C (tq * zA (refSid lon t)) + S (tq * zA (refSid lon t)) * S (tq * zA (refSid lon t)) - 1 = S (tq * zA (refSid lon t)) * S (tq * zA (refSid lon t)) + C (tq * zA (refSid lon t)) * C (tq * zA (refSid lon t)) - 1 by grind]; grind
  have c2 : rabs (-S (tq * zA (refSid lon t)) * -S (tq * zA (refSid lon t)) + C (tq * zA (refSid lon t)) * C (tq * zA (refSid lon t)) - 1) ≤ 1 / 1000000000 := by
    rw [show -S (tq * zA (refSid lon t)) * -S (tq * zA (refSid lon t)) + C (tq * zA (refSid lon t)) * C (tq * zA (refSid lon t)) - 1 = S (tq * zA (refSid lon t)) * S (tq * zA (refSid lon t)) + C (tq * zA (refSid lon t)) * C (tq * zA (refSid lon t)) - 1 by grind]; grind
  have bO : rabs (vOut (zA (refSid lon t)) X Y) ≤ 1 + 1 / 1000000 := cauchy c1 (by grind) (by grind)
  have bS : rabs (vSide (zA (refSid lon t)) X Y) ≤ 1 + 1 / 1000000 := by
    have := cauchy (s := -S (tq * zA (refSid lon t))) (c := C (tq * zA (refSid lon t))) (a := X) (b := Y) (R := 1 + 1 / 1000000) c2 (by grind) (by grind)
    unfold vSide
    rw [show C (tq * zA (refSid lon t)) * Y - S (tq * zA (refSid lon t)) * X = -S (tq * zA (refSid lon t)) * X + C (tq * zA (refSid lon t)) * Y by grind]; exact this
  have vv : vOut (zA (refSid lon t)) X Y * vOut (zA (refSid lon t)) X Y + vSide (zA (refSid lon t)) X Y * vSide (zA (refSid lon t)) X Y ≤ (X * X + Y * Y) * (1 + 1 / 1000000000) := by
    have ct' := rabs_le.1 ct
    have m := Rat.mul_le_mul_of_nonneg_right (show S (tq * zA (refSid lon t)) * S (tq * zA (refSid lon t)) + C (tq * zA (refSid lon t)) * C (tq * zA (refSid lon t)) ≤ 1 + 1 / 1000000000 by grind) (show 0 ≤ X * X + Y * Y by grind)
    unfold vOut vSide
    grind
  have so := sq (vOut (zA (refSid lon t)) X Y)
  have ss := sq (vSide (zA (refSid lon t)) X Y)
  obtain ⟨cl, -, -⟩ := siU_circ lat
  have cl1 : rabs (siU lat * siU lat + coU lat * coU lat - 1) ≤ 1 / 1000000000 := by grind
  have cl2 : rabs (coU lat * coU lat + -siU lat * -siU lat - 1) ≤ 1 / 1000000000 := by rw [show coU lat * coU lat + -siU lat * -siU lat - 1 = siU lat * siU lat + coU lat * coU lat - 1 by grind]; exact cl1
  have bU : rabs (tUp lat Z (vOut (zA (refSid lon t)) X Y)) ≤ 1 + 1 / 1000000 := cauchy cl1 (by grind) (by grind)
  have bN : rabs (tNo lat Z (vOut (zA (refSid lon t)) X Y)) ≤ 1 + 1 / 1000000 := by
    have := cauchy (a := Z) (b := vOut (zA (refSid lon t)) X Y) (R := 1 + 1 / 1000000) cl2 (by grind) (by grind)
    unfold tNo
    rw [show coU lat * Z - siU lat * vOut (zA (refSid lon t)) X Y = coU lat * Z + -siU lat * vOut (zA (refSid lon t)) X Y by grind]; exact this
  have ab := ab_ok (lat := lat) ok.a0 ok.a1 hx hy hz bX bY bZ bO
  obtain ⟨i1, i2, i3⟩ := look_near lat hd ok.o oa od z0 z1 (sid_ang lon t) ka kd
  have ao := ab.o
  have asd := ab.s
  have au := ab.u
  have an := ab.n
  exact ⟨(fine_bd (by grind) bX).2, (fine_bd (by grind) bY).2, (fine_bd (by grind) bZ).2, (fine_bd (by grind) bO).2, (fine_bd (by grind) bU).2, (fine_bd (by grind) bS).2, (fine_bd (by grind) bN).2, ⟨_, i1, au, bU⟩, ⟨_, i2, by grind, bS⟩, ⟨_, i3, an, bN⟩⟩

/-- A star's coordinates and the reference's direction of it. -/
def sA0 (K : Nat) (t : Int) : Int := angLo (stRa K) 97300000 [] 100 t
def sA1 (K : Nat) (t : Int) : Int := angHi (stRa K) 97300000 [] 100 t
def stAr (K : Nat) (t : Int) : Int := stArg (argV 97300000 t) K
def stX (K : Nat) (t : Int) : Int := fm (sc (stArgD K)).2 (sc (stAr K t)).2
def stY (K : Nat) (t : Int) : Int := fm (sc (stArgD K)).2 (sc (stAr K t)).1
def stZ (K : Nat) : Int := (sc (stArgD K)).1
theorem stAr_bd (K : Nat) (t : Int) : 0 ≤ stAr K t ∧ stAr K t < 1000000000000000 := ⟨Int.emod_nonneg _ (by decide), Int.emod_lt_of_pos _ (by decide)⟩
theorem stArgD_bd (K : Nat) : 0 ≤ stArgD K ∧ stArgD K < 1000000000000000 := ⟨Int.emod_nonneg _ (by decide), Int.emod_lt_of_pos _ (by decide)⟩
/-- The star's angle lies well within its interval. -/
theorem star_ang {K : Nat} (hK : K < 8) (t : Int) : 0 ≤ sA0 K t ∧ sA0 K t < 1000000000 ∧ sA1 K t - sA0 K t ≤ 201 ∧ sA0 K t + 200 ≤ sA1 K t ∧
    ∃ k : Int, (sA0 K t : Rat) + 99 - 1/500 ≤ zA (stAr K t) + (k : Rat) * 1000000000 ∧ zA (stAr K t) + (k : Rat) * 1000000000 ≤ (sA1 K t : Rat) - 99 + 1/500 := by
  obtain ⟨g1, g2, g3, g4⟩ := st_rng K hK
  have hs := sumOk_of (st_sum K hK)
  obtain ⟨v1, v2, v3, v4, v5⟩ := ang_contains (inst := t) hs
  have v6 := ang_contains2 (inst := t) hs (by decide)
  have hb : bndAt 100 [] = 200 := by decide +kernel
  rw [hb] at v4
  rw [star_whole g1 g2] at v6
  have eA : (argV 97300000 t + stRa K * 1000000) % 1000000000000000 = stAr K t := rfl
  rw [eA] at v6
  obtain ⟨A0, A1⟩ := stAr_bd K t
  unfold sA0 sA1
  generalize angLo (stRa K) 97300000 [] 100 t = lo at *
  generalize angHi (stRa K) 97300000 [] 100 t = hi at *
  generalize stAr K t = a at *
  have h0 : 0 ≤ (a / 1000000 * 1048576 + a % 1000000 * 1048576 / 1000000 - 100 * 1048576 - lo * 1048576 + 2000) % 1048576000000000 := Int.emod_nonneg _ (by decide)
  have hw : lo + 200 ≤ hi := by
    have v7 : (a / 1000000 * 1048576 + a % 1000000 * 1048576 / 1000000 - 100 * 1048576 - lo * 1048576 + 2000) % 1048576000000000 ≤ (hi - lo - 2 * 100) * 1048576 + 4000 := v6
    omega
  obtain ⟨k, k1, k2⟩ := kl_arg (lo := lo + 99) (hi := hi - 99) A0 A1 (by omega) (by
    have e : (a / 1000000 * 1048576 + a % 1000000 * 1048576 / 1000000 - (lo + 99) * 1048576 + 2000) % 1048576000000000 = ((a / 1000000 * 1048576 + a % 1000000 * 1048576 / 1000000 - 100 * 1048576 - lo * 1048576 + 2000) % 1048576000000000 + 1 * 1048576) % 1048576000000000 := by omega
    rw [e]
    have v7 : (a / 1000000 * 1048576 + a % 1000000 * 1048576 / 1000000 - 100 * 1048576 - lo * 1048576 + 2000) % 1048576000000000 ≤ (hi - lo - 2 * 100) * 1048576 + 4000 := v6
    generalize (a / 1000000 * 1048576 + a % 1000000 * 1048576 / 1000000 - 100 * 1048576 - lo * 1048576 + 2000) % 1048576000000000 = X at *
    have hX : X + 1 * 1048576 < 1048576000000000 := by omega
    rw [Int.emod_eq_of_lt (by omega) hX]
    omega)
  push_cast at k1 k2
  exact ⟨v1, v2, by omega, hw, k, by grind, by grind⟩
theorem star_decA : ∀ K < 8, zA (stArgD K) = (stDec K : Rat) + (if stDec K < 0 then 1000000000 else 0) := by decide +kernel
theorem star_look {K : Nat} (hK : K < 8) (lon lat t : Int) : LookOk lon lat t (sA0 K t) (sA1 K t) (stDec K - 100) (stDec K + 100) (stX K t) (stY K t) (stZ K) := by
  obtain ⟨g1, g2, g3, g4, k, k1, k2⟩ := star_ang hK t
  obtain ⟨A0, A1⟩ := stAr_bd K t
  obtain ⟨D0, D1⟩ := stArgD_bd K
  obtain ⟨z0, z1⟩ := zA_bd A0 A1
  obtain ⟨d0, d1⟩ := zA_bd D0 D1
  obtain ⟨s1, s2⟩ := sc_zA A0 A1
  obtain ⟨s3, s4⟩ := sc_zA D0 D1
  have n1 := sc_one z0 z1
  have n2 := sc_one d0 d1
  have w1 : rabs (S (tq * zA (stAr K t))) ≤ 1 + 1 / 1000000 := by have := n1.1; grind
  have w2 : rabs (C (tq * zA (stAr K t))) ≤ 1 + 1 / 1000000 := by have := n1.2; grind
  have w3 : rabs (C (tq * zA (stArgD K))) ≤ 1 + 1 / 1000000 := by have := n2.2; grind
  have Y := fm_two s4 s1 (by grind) (by grind) w3 w1
  have X := fm_two s4 s2 (by grind) (by grind) w3 w2
  have c1 := circT z0 z1
  have c2 := circT d0 d1
  have hdir : DirA (C (tq * zA (stArgD K)) * C (tq * zA (stAr K t))) (C (tq * zA (stArgD K)) * S (tq * zA (stAr K t))) (S (tq * zA (stArgD K))) (zA (stAr K t)) (zA (stArgD K)) := by
    refine ⟨z0, z1, d0, d1, ⟨C (tq * zA (stArgD K)), 0, ?_, ?_, ?_, ?_⟩, ?_⟩
    · rw [show C (tq * zA (stArgD K)) * C (tq * zA (stAr K t)) - (C (tq * zA (stArgD K)) * C (tq * zA (stAr K t)) - 0 * S (tq * zA (stAr K t))) = 0 by grind]; decide +kernel
    · rw [show C (tq * zA (stArgD K)) * S (tq * zA (stAr K t)) - (C (tq * zA (stArgD K)) * S (tq * zA (stAr K t)) + 0 * C (tq * zA (stAr K t))) = 0 by grind]; decide +kernel
    · decide +kernel
    · rw [show C (tq * zA (stArgD K)) - C (tq * zA (stArgD K)) = 0 by grind]; decide +kernel
    · rw [show S (tq * zA (stArgD K)) - S (tq * zA (stArgD K)) = 0 by grind]; decide +kernel
  have dd := star_decA K hK
  refine look_dir lon lat t hdir ?_ (by omega) (by omega) ⟨k, by grind, by grind⟩ ?_ (by unfold stX; grind) (by unfold stY; grind) (by unfold stZ; grind)
  · have c3 : rabs (C (tq * zA (stArgD K)) * C (tq * zA (stArgD K))) ≤ 1 + 1 / 100000 := by
      have := mul_rabs w3 w3; grind
    have m := rabs_le.1 (mul_rabs c3 c1)
    have c2' := rabs_le.1 c2
    rw [rabs_le]
    constructor <;> grind
  · rw [dd]
    push_cast
    by_cases hneg : stDec K < 0
    · rw [if_pos hneg]
      refine ⟨-1, ?_, ?_⟩
      · rw [show ((-1 : Int) : Rat) = -1 from rfl]; grind
      · rw [show ((-1 : Int) : Rat) = -1 from rfl]; grind
    · rw [if_neg hneg]
      refine ⟨0, ?_, ?_⟩
      · rw [show ((0 : Int) : Rat) = 0 from rfl]; grind
      · rw [show ((0 : Int) : Rat) = 0 from rfl]; grind
/-- The intervals of a star. -/
def sU0 (lon lat t : Int) (K : Nat) : Int := up0 lat (lkH0 lon t (sA1 K t)) (lkH1 lon t (sA0 K t)) (stDec K - 100) (stDec K + 100)
def sU1 (lon lat t : Int) (K : Nat) : Int := up1 lat (lkH0 lon t (sA1 K t)) (lkH1 lon t (sA0 K t)) (stDec K - 100) (stDec K + 100)
def sX0 (lon t : Int) (K : Nat) : Int := ea0 (lkH0 lon t (sA1 K t)) (lkH1 lon t (sA0 K t)) (stDec K - 100) (stDec K + 100)
def sX1 (lon t : Int) (K : Nat) : Int := ea1 (lkH0 lon t (sA1 K t)) (lkH1 lon t (sA0 K t)) (stDec K - 100) (stDec K + 100)
def sY0 (lon lat t : Int) (K : Nat) : Int := no0 lat (lkH0 lon t (sA1 K t)) (lkH1 lon t (sA0 K t)) (stDec K - 100) (stDec K + 100)
def sY1 (lon lat t : Int) (K : Nat) : Int := no1 lat (lkH0 lon t (sA1 K t)) (lkH1 lon t (sA0 K t)) (stDec K - 100) (stDec K + 100)
/-- Where the height is not decided the star is near the horizon. -/
theorem star_open {K : Nat} (hK : K < 8) (lon lat t : Int) (h0 : sU0 lon lat t K ≤ 0) (h1 : 0 ≤ sU1 lon lat t K) : -fu 5000 ≤ abUp (refSid lon t) lat (stX K t) (stY K t) (stZ K) ∧ abUp (refSid lon t) lat (stX K t) (stY K t) (stZ K) ≤ fu 5000 := by
  obtain ⟨u, ⟨i1, i2⟩, au, -⟩ := (star_look hK lon lat t).iu
  obtain ⟨g1, g2, g3, g4, -⟩ := star_ang hK t
  have ok := sid_ok lon t
  have o := ok.o
  have ow := ok.w
  have w := (look_wide lat (h0 := lkH0 lon t (sA1 K t)) (h1 := lkH1 lon t (sA0 K t)) (d0 := stDec K - 100) (d1 := stDec K + 100) (by unfold lkH0 lkH1; omega) (by omega)).1
  have w1 := icast (show lkH1 lon t (sA0 K t) - lkH0 lon t (sA1 K t) ≤ 202 by unfold lkH0 lkH1; omega)
  have w2 := icast (show stDec K + 100 - (stDec K - 100) ≤ 200 by omega)
  have e0 := icast h0
  have e1 := icast h1
  unfold sU0 at e0
  unfold sU1 at e1
  have au' := rabs_le.1 au
  have hu : uQ = 1152921504606846976 := by decide +kernel
  have hf : fu 5000 = 5764607523034 := by decide +kernel
  rw [hu] at au'
  rw [hf]
  push_cast at w w1 w2 e0 e1
  generalize abUp (refSid lon t) lat (stX K t) (stY K t) (stZ K) = A at *
  have r1 : ((-5764607523034 : Int) : Rat) ≤ (A : Rat) := by
    rw [show ((-5764607523034 : Int) : Rat) = -5764607523034 from rfl]
    grind
  have r2 : (A : Rat) ≤ ((5764607523034 : Int) : Rat) := by
    rw [show ((5764607523034 : Int) : Rat) = 5764607523034 from rfl]
    grind
  exact ⟨Rat.intCast_le_intCast.1 r1, Rat.intCast_le_intCast.1 r2⟩
theorem star_sure {K : Nat} (hK : K < 8) (lon lat t : Int) : (0 < sU0 lon lat t K → 0 < abUp (refSid lon t) lat (stX K t) (stY K t) (stZ K)) ∧ (sU1 lon lat t K < 0 → abUp (refSid lon t) lat (stX K t) (stY K t) (stZ K) < 0) := by
  have h := look_above (star_look hK lon lat t) 0
  have f0 : fu 0 = 0 := by decide +kernel
  rw [f0] at h
  exact h
end
end Go.Proofs.YtcgnhnmigmdalaaDoor
