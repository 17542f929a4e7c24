/- The sun's direction seen from a place, with narrower errors; the test of a shadow's direction. No program in sight. -/
import Derived.Test.YtcgnhnmigmdalaaGreatDoorLkD
set_option linter.unusedVariables false
set_option linter.unusedSimpArgs false
namespace Go.Proofs.YtcgnhnmigmdalaaGreatDoor
open Ieee
theorem cov_one : sovLo (covB 0) (covE 0 0) = 1000000000 ∧ sovHi (covB 0) (covE 0 0) = 1000000000 := by decide +kernel
theorem eq_inS {l0 l1 : Int} {zl zb : Rat} (p : Pt l0 l1 0 0 zl zb) (hz : zb = 0) : InU (eqX0 l0 l1 0 0) (eqX1 l0 l1 0 0) (pX zl zb) (3/100) ∧ InU (eqY0 l0 l1 0 0) (eqY1 l0 l1 0 0) (pY zl zb) (3/100) ∧ InU (eqZ0 l0 l1 0 0) (eqZ1 l0 l1 0 0) (pZ zl zb) (3/100) := by
  subst hz
  obtain ⟨hl, hb, ⟨zl0, zl1⟩, ⟨zb0, zb1⟩, ⟨k, k1, k2⟩, -⟩ := p
  have sl := (over_any hl zl0 zl1 k1 k2).1
  have cl := cov_any hl zl0 zl1 k1 k2
  have sb : InU (sovLo 0 0) (sovHi 0 0) (S (tq * 0)) 0 := by
    rw [sov_zero.1, sov_zero.2, sc_zero.1]; unfold InU; constructor <;> decide +kernel
  have cb : InU (sovLo (covB 0) (covE 0 0)) (sovHi (covB 0) (covE 0 0)) (C (tq * 0)) 0 := by
    rw [cov_one.1, cov_one.2, sc_zero.2]; unfold InU; constructor <;> decide +kernel
  obtain ⟨te, tc, tes, tcs⟩ := tilt_in
  have nb := sc_one zb0 zb1
  have nl := sc_one zl0 zl1
  have nb1 : rabs (C (tq * 0)) ≤ 1 + 1 / 10000000 := by have := nb.2; grind
  have nb2 : rabs (S (tq * 0)) ≤ 1 + 1 / 10000000 := by have := nb.1; grind
  have nA : rabs (C (tq * 0) * S (tq * zl)) ≤ 1 + 1 / 10000000 := by have := mul_rabs nb.2 nl.1; grind
  have A := times_in (cov_sp hb) (sov_sp _ _ hl) cb sl (by grind) (by grind) (by grind) (by grind) nb1
  have X := times_in (cov_sp hb) (cov_sp hl) cb cl (by grind) (by grind) (by grind) (by grind) nb1
  have P := times_in (eqA_sp hl hb) tcs A tc (by grind) (by grind) (by grind) (by grind) nA
  have R := times_in (eqA_sp hl hb) tes A te (by grind) (by grind) (by grind) (by grind) nA
  have Q := times_in (sov_sp _ _ hb) tes sb te (by grind) (by grind) (by grind) (by grind) nb2
  have U := times_in (sov_sp _ _ hb) tcs sb tc (by grind) (by grind) (by grind) (by grind) nb2
  exact ⟨InU.mono X (by grind), InU.mono (InU.sub P Q) (by grind), InU.mono (InU.add R U) (by grind)⟩
theorem rect_linS {p q xl xh yl yh x y β : Rat} (hp : rabs p ≤ 101/100) (hq : rabs q ≤ 101/100) (h1 : -β ≤ p * xl + q * yl) (h2 : -β ≤ p * xl + q * yh) (h3 : -β ≤ p * xh + q * yl) (h4 : -β ≤ p * xh + q * yh)
    (x1 : xl - 3/100 ≤ x) (x2 : x ≤ xh + 3/100) (y1 : yl - 3/100 ≤ y) (y2 : y ≤ yh + 3/100) : -β - 61/1000 ≤ p * x + q * y := by
  have b0 : (0 : Rat) ≤ 3/100 := by decide +kernel
  rcases lin_lo b0 x1 x2 hp with u | u <;> rcases lin_lo b0 y1 y2 hq with v | v <;> grind
structure NearS (a h : Int) (x y : Rat) : Prop where
  c1 : -(254/1000) ≤ C (tq * a) * y - S (tq * a) * x
  c2 : -(254/1000) ≤ S (tq * h) * x - C (tq * h) * y
  c3 : -(13/100) ≤ (C (tq * a) + C (tq * h)) * x + (S (tq * a) + S (tq * h)) * y
theorem half_ofS {z : Rat} (h : -(192/1000) - 61/1000 ≤ z) : -(254/1000) ≤ z := by grind
theorem quarter_ofS {z : Rat} (h : -0 - 61/1000 ≤ z) : -(63/1000) ≤ z := by grind
theorem rect_nearS {a h : Int} (a0 : 0 ≤ a) (a1 : a < 1000000000) (h0 : 0 ≤ h) (h1 : h < 1000000000) {xl xh yl yh x y : Rat} (k1 : Between a h xl yl) (k2 : Between a h xl yh) (k3 : Between a h xh yl) (k4 : Between a h xh yh)
    (bx1 : rabs xl ≤ 1000000000) (bx2 : rabs xh ≤ 1000000000) (by1 : rabs yl ≤ 918000000) (by2 : rabs yh ≤ 918000000) (x1 : xl - 3/100 ≤ x) (x2 : x ≤ xh + 3/100) (y1 : yl - 3/100 ≤ y) (y2 : y ≤ yh + 3/100) : NearS a h x y := by
  have ra := ang_range a0 a1
  have rh := ang_range h0 h1
  rw [angU_tq] at ra rh
  have qa := SC_bd ra.2.2
  have qh := SC_bd rh.2.2
  obtain ⟨k11, k12, k13⟩ := k1
  obtain ⟨k21, k22, k23⟩ := k2
  obtain ⟨k31, k32, k33⟩ := k3
  obtain ⟨k41, k42, k43⟩ := k4
  clear ra rh
  have sx : ∀ p q : Rat, 1 / 10000000000 * (rabs p + rabs q) ≤ 1 / 10000000000 * (rabs p + rabs q) := fun _ _ => Rat.le_refl
  have w1 : ∀ {p q : Rat}, rabs p ≤ 1000000000 → rabs q ≤ 918000000 → -(192/1000) ≤ -(1 / 10000000000 * (rabs p + rabs q)) := by
    intro p q h1 h2; grind
  have n0 : ∀ {p : Rat}, rabs p ≤ 1 + 1 / 100000000000 → rabs p ≤ 101/100 := fun h => by grind
  have n1 : ∀ {p : Rat}, rabs p ≤ 1 + 1 / 100000000000 → rabs (-p) ≤ 101/100 := fun h => by rw [rabs_neg]; grind
  have n2 : ∀ {p q : Rat}, rabs p ≤ 1 + 1 / 100000000000 → rabs q ≤ 1 + 1 / 100000000000 → rabs ((p + q) / 2) ≤ 101/100 := by
    intro p q h1 h2
    have h1 := rabs_le.1 h1
    have h2 := rabs_le.1 h2
    exact rabs_le.2 ⟨by grind, by grind⟩
  have e1 : ∀ a b c d : Rat, a * b - c * d = -c * d + a * b := fun a b c d => by grind
  refine ⟨?_, ?_, ?_⟩
  · have r := rect_linS (p := -S (tq * a)) (q := C (tq * a)) (β := 192/1000) (n1 qa.1) (n0 qa.2) (by rw [← e1]; exact Rat.le_trans (w1 bx1 by1) k11) (by rw [← e1]; exact Rat.le_trans (w1 bx1 by2) k21) (by rw [← e1]; exact Rat.le_trans (w1 bx2 by1) k31) (by rw [← e1]; exact Rat.le_trans (w1 bx2 by2) k41) x1 x2 y1 y2
    rw [e1]; exact half_ofS r
  · have e2 : ∀ a b c d : Rat, a * b - c * d = a * b + -c * d := fun a b c d => by grind
    have r := rect_linS (p := S (tq * h)) (q := -C (tq * h)) (β := 192/1000) (n0 qh.1) (n1 qh.2) (by rw [← e2]; exact Rat.le_trans (w1 bx1 by1) k12) (by rw [← e2]; exact Rat.le_trans (w1 bx1 by2) k22) (by rw [← e2]; exact Rat.le_trans (w1 bx2 by1) k32) (by rw [← e2]; exact Rat.le_trans (w1 bx2 by2) k42) x1 x2 y1 y2
    rw [e2]; exact half_ofS r
  · have e3 : ∀ a b c d : Rat, -(63/1000) ≤ (a / 2) * b + (c / 2) * d → -(13/100) ≤ a * b + c * d := fun a b c d h => by grind
    have e4 : ∀ a b c d : Rat, 0 ≤ a * b + c * d → -0 ≤ (a / 2) * b + (c / 2) * d := fun a b c d h => by grind
    have r := rect_linS (p := (C (tq * a) + C (tq * h)) / 2) (q := (S (tq * a) + S (tq * h)) / 2) (β := 0) (n2 qa.2 qh.2) (n2 qa.1 qh.1) (e4 _ _ _ _ k13) (e4 _ _ _ _ k23) (e4 _ _ _ _ k33) (e4 _ _ _ _ k43) x1 x2 y1 y2
    exact e3 _ _ _ _ (quarter_ofS r)
theorem eqY_sun {l0 l1 : Int} (hl : l0 ≤ l1) : -918000000 ≤ eqY0 l0 l1 0 0 ∧ eqY1 l0 l1 0 0 ≤ 918000000 := by
  have hb : (0 : Int) ≤ 0 := Int.le_refl 0
  have sA := eqA_sp hl hb
  have tc := tilt_in.2.2.2
  have p := prod_small sA tc (B := 917482417) (by decide) (by decide) (by decide)
  have q : eqQ0 0 0 = 0 ∧ eqQ1 0 0 = 0 := by decide +kernel
  have d0 : eqY0 l0 l1 0 0 = pLo (eqA0 l0 l1 0 0) (eqA1 l0 l1 0 0) 917482416 917482417 1000000000 - eqQ1 0 0 := rfl
  have d1 : eqY1 l0 l1 0 0 = pHi (eqA0 l0 l1 0 0) (eqA1 l0 l1 0 0) 917482416 917482417 1000000000 - eqQ0 0 0 := rfl
  rw [d0, d1, q.1, q.2]
  omega
theorem eq_nearS {l0 l1 : Int} {zl zb : Rat} (p : Pt l0 l1 0 0 zl zb) (hz : zb = 0) {D0 L H : Rat} {E : Nat → Rat} (hv : ArcV (eqY0 l0 l1 0 0) (eqY1 l0 l1 0 0) (eqX0 l0 l1 0 0) (eqX1 l0 l1 0 0) D0 E L H)
    (hw : raHi l0 l1 0 0 - raLo l0 l1 0 0 ≤ 400000000) : NearS (raLo l0 l1 0 0 % 1000000000) (raHi l0 l1 0 0 % 1000000000) (1000000000 * pX zl zb) (1000000000 * pY zl zb) := by
  obtain ⟨ix, iy, -⟩ := eq_inS p hz
  have sx := eqX_sp p.hl p.hb
  have sy := eqY_bd p.hl p.hb
  have sy2 := eqY_sun p.hl
  unfold raLo raHi at *
  generalize eqX0 l0 l1 0 0 = x0 at *
  generalize eqX1 l0 l1 0 0 = x1 at *
  generalize eqY0 l0 l1 0 0 = y0 at *
  generalize eqY1 l0 l1 0 0 = y1 at *
  have c1 := arc_corners hv hw (y := y0) (x := x0) (.inl rfl) (.inl rfl)
  have c2 := arc_corners hv hw (y := y1) (x := x0) (.inr rfl) (.inl rfl)
  have c3 := arc_corners hv hw (y := y0) (x := x1) (.inl rfl) (.inr rfl)
  have c4 := arc_corners hv hw (y := y1) (x := x1) (.inr rfl) (.inr rfl)
  have m1 := emod_bd (arcLo y0 y1 x0 x1)
  have m2 := emod_bd (arcHi y0 y1 x0 x1)
  have q1 := rabs_int (n := x0) (B := 1000000000) (by have := sx.b0; omega) (by have := sx.b1; have := sx.o; omega)
  have q2 := rabs_int (n := x1) (B := 1000000000) (by have := sx.b0; have := sx.o; omega) (by have := sx.b1; omega)
  have q3 := rabs_int (n := y0) (B := 918000000) (by omega) (by omega)
  have q4 := rabs_int (n := y1) (B := 918000000) (by omega) (by omega)
  exact rect_nearS m1.1 m1.2 m2.1 m2.2 c1 c2 c3 c4 q1 q2 q3 q4 ix.1 ix.2 iy.1 iy.2
structure RaDeS (a0 a1 d0 d1 : Int) (X Y Z : Rat) : Prop where
  oa : a0 ≤ a1
  wa : a1 - a0 ≤ 1000000
  od : d0 ≤ d1
  b0 : -250000000 ≤ d0
  b1 : d1 ≤ 250000000
  g0 : -(256 / 1000000000000) ≤ coU a0 * Y - siU a0 * X
  g1 : -(256 / 1000000000000) ≤ siU a1 * X - coU a1 * Y
  g2 : -(1 / 1000000000) ≤ (coU a0 + coU a1) * X + (siU a0 + siU a1) * Y
  e0 : siU d0 ≤ Z + 16 / 100000000000
  e1 : Z ≤ siU d1 + 16 / 100000000000
  n : rabs (X * X + Y * Y + Z * Z - 1) ≤ 5 / 100000000000
  zb : rabs Z ≤ 1/2
theorem eq_radeS {l0 l1 B : Int} {zl zb : Rat} (p : Pt l0 l1 0 0 zl zb) (hz : zb = 0) {D0 L H : Rat} {E : Nat → Rat} (hv : ArcV (eqY0 l0 l1 0 0) (eqY1 l0 l1 0 0) (eqX0 l0 l1 0 0) (eqX1 l0 l1 0 0) D0 E L H)
    (ho : raLo l0 l1 0 0 ≤ raHi l0 l1 0 0) (hw : raHi l0 l1 0 0 - raLo l0 l1 0 0 ≤ 1000000) (hB : B ≤ 100200000) (B0 : 0 ≤ B) (h1 : -B ≤ sovLo 0 0) (h2 : sovHi 0 0 ≤ B) :
    RaDeS (raLo l0 l1 0 0 % 1000000000) (raLo l0 l1 0 0 % 1000000000 + raHi l0 l1 0 0 - raLo l0 l1 0 0) (asLo (eqZ0 l0 l1 0 0)) (asHi (eqZ1 l0 l1 0 0)) (pX zl zb) (pY zl zb) (pZ zl zb) := by
  have near := eq_nearS p hz hv (by omega)
  obtain ⟨z1, z2⟩ := eqZ_small p.hl p.hb h1 h2 B0
  have zo := (eqZ_bd p.hl p.hb).1
  obtain ⟨-, -, i1, i2⟩ := eq_inS p hz
  have ab := as_bounds (eqZ0 l0 l1 0 0)
  have ab2 := as_bounds (eqZ1 l0 l1 0 0)
  have q1 := as_low2 (a := eqZ0 l0 l1 0 0) (by omega) (by omega)
  have q2 := as_high2 (a := eqZ1 l0 l1 0 0) (by omega) (by omega)
  have Z1 := icast (show -497976340 ≤ eqZ0 l0 l1 0 0 by omega)
  have Z2 := icast (show eqZ1 l0 l1 0 0 ≤ 497976340 by omega)
  have c1 : ((-497976340 : Int) : Rat) = -497976340 := rfl
  have c2 : ((497976340 : Int) : Rat) = 497976340 := rfl
  rw [c1] at Z1
  rw [c2] at Z2
  obtain ⟨n1, n2, n3⟩ := near
  have m0 := emod_bd (raLo l0 l1 0 0)
  have k1 := siU_b (raLo l0 l1 0 0 % 1000000000)
  have k2 := coU_b (raLo l0 l1 0 0 % 1000000000)
  have k3 := siU_b (raLo l0 l1 0 0 % 1000000000 + raHi l0 l1 0 0 - raLo l0 l1 0 0)
  have k4 := coU_b (raLo l0 l1 0 0 % 1000000000 + raHi l0 l1 0 0 - raLo l0 l1 0 0)
  rw [show raLo l0 l1 0 0 % 1000000000 % 1000000000 = raLo l0 l1 0 0 % 1000000000 by omega] at k1 k2
  rw [show (raLo l0 l1 0 0 % 1000000000 + raHi l0 l1 0 0 - raLo l0 l1 0 0) % 1000000000 = raHi l0 l1 0 0 % 1000000000 by omega] at k3 k4
  have nn := p_norm p.l.1 p.l.2 p.b.1 p.b.2
  have nn' := rabs_le.1 nn
  have sq : ∀ z : Rat, 0 ≤ z * z := fun z => by rw [← rabs_sq]; exact Rat.mul_nonneg (rabs_nonneg z) (rabs_nonneg z)
  have bX : rabs (pX zl zb) ≤ 101/100 := sq_rabs (by grind) (by have := sq (pX zl zb); have := sq (pY zl zb); have := sq (pZ zl zb); grind)
  have bY : rabs (pY zl zb) ≤ 101/100 := sq_rabs (by grind) (by have := sq (pX zl zb); have := sq (pY zl zb); have := sq (pZ zl zb); grind)
  have w1 := rabs_le.1 (mul_rabs k2 bY)
  have w2 := rabs_le.1 (mul_rabs k4 bY)
  have w3 := rabs_le.1 (mul_rabs k2 bX)
  have w4 := rabs_le.1 (mul_rabs k4 bX)
  rw [← k1] at n1 n3
  rw [← k3] at n2 n3
  have oo : raLo l0 l1 0 0 % 1000000000 ≤ raLo l0 l1 0 0 % 1000000000 + raHi l0 l1 0 0 - raLo l0 l1 0 0 := by omega
  have ww : raLo l0 l1 0 0 % 1000000000 + raHi l0 l1 0 0 - raLo l0 l1 0 0 - raLo l0 l1 0 0 % 1000000000 ≤ 1000000 := by omega
  clear k1 k2 k3 k4 sq nn' bX bY
  refine ⟨oo, ww, as_order zo, ab.1, ab2.2.2.2.1, ?_, ?_, ?_, ?_, ?_, nn, ?_⟩
  all_goals clear nn oo ww m0 ab ab2 z1 z2 zo ho hw hB B0 h1 h2
  · clear n2 n3 w2 w3 w4 q1 q2; grind
  · clear n1 n3 w1 w3 w4 q1 q2; grind
  · clear n1 n2 q1 q2; grind
  · clear n1 n2 n3 w1 w2 w3 w4; grind
  · clear n1 n2 n3 w1 w2 w3 w4; grind
  · exact z_half Z1 Z2 (by grind) (by grind)
theorem len_algS {c ρ E : Rat} (hE : rabs (c * c - ρ * ρ) ≤ 244 / 1000000000000) (h1 : 86/100 ≤ ρ) (h2 : -(1 / 1000000000) ≤ c) : rabs (ρ - c) ≤ 143 / 1000000000000 := by
  have hE := rabs_le.1 hE
  have e : (c - ρ) * (c + ρ) = c * c - ρ * ρ := by grind
  have c1 : 85/100 ≤ c := by
    by_cases q : c < 85/100
    · exfalso
      have p := Rat.mul_nonneg (show 0 ≤ ρ - c - 1/100 by grind) (show 0 ≤ c + ρ by grind)
      grind
    · grind
  have s : 171/100 ≤ c + ρ := by grind
  by_cases q : 0 ≤ c - ρ
  · have p := Rat.mul_le_mul_of_nonneg_left s q
    rw [rabs_le]; constructor <;> grind
  · have p := Rat.mul_le_mul_of_nonneg_left s (show 0 ≤ ρ - c by grind)
    rw [rabs_le]; constructor <;> grind
structure DirS (X Y Z z zd : Rat) : Prop where
  z0 : 0 ≤ z
  z1 : z ≤ 1000000000
  d0 : 0 ≤ zd
  d1 : zd ≤ 1000000000
  p : ∃ ρ g : Rat, rabs (X - (ρ * C (tq * z) - g * S (tq * z))) ≤ 2 / 100000000000 ∧ rabs (Y - (ρ * S (tq * z) + g * C (tq * z))) ≤ 2 / 100000000000 ∧ rabs g ≤ 27 / 100000000000 ∧ rabs (ρ - C (tq * zd)) ≤ 143 / 1000000000000
  q : rabs (Z - S (tq * zd)) ≤ 18 / 100000000000
theorem dirS_of {a0 a1 d0 d1 : Int} {X Y Z : Rat} (h : RaDeS a0 a1 d0 d1 X Y Z) : ∃ z zd, DirS X Y Z z zd ∧ (∃ k : Int, (a0 : Rat) ≤ z + (k : Rat) * 1000000000 ∧ z + (k : Rat) * 1000000000 ≤ (a1 : Rat)) ∧ (∃ k : Int, (d0 : Rat) ≤ zd + (k : Rat) * 1000000000 ∧ zd + (k : Rat) * 1000000000 ≤ (d1 : Rat)) := by
  obtain ⟨oa, wa, od, b0, b1, g0, g1, g2, e0, e1, n, zb⟩ := h
  have n' := rabs_le.1 n
  have sq : ∀ z : Rat, 0 ≤ z * z := fun z => by rw [← rabs_sq]; exact Rat.mul_nonneg (rabs_nonneg z) (rabs_nonneg z)
  have sx := sq X
  have sy := sq Y
  have sz := sq Z
  have bX : rabs X ≤ 101/100 := sq_rabs (by grind) (by grind)
  have bY : rabs Y ≤ 101/100 := sq_rabs (by grind) (by grind)
  obtain ⟨z, hz⟩ := head_ex (β := 256 / 1000000000000) oa wa (by grind) g0 g1 bX bY
  obtain ⟨zd, hzd⟩ := dec_ex (β := 16 / 100000000000) b0 b1 od (by grind) e0 e1
  refine ⟨z, zd, ⟨hz.z0, hz.z1, hzd.z0, hzd.z1, ⟨C (tq * z) * X + S (tq * z) * Y, C (tq * z) * Y - S (tq * z) * X, ?_, ?_, ?_, ?_⟩, ?_⟩, hz.k, hzd.k⟩
  · have c := circT hz.z0 hz.z1
    have m := rabs_le.1 (mul_rabs c bX)
    have e : X - ((C (tq * z) * X + S (tq * z) * Y) * C (tq * z) - (C (tq * z) * Y - S (tq * z) * X) * S (tq * z)) = -((S (tq * z) * S (tq * z) + C (tq * z) * C (tq * z) - 1) * X) := by grind
    rw [e, rabs_le]; constructor <;> grind
  · have c := circT hz.z0 hz.z1
    have m := rabs_le.1 (mul_rabs c bY)
    have e : Y - ((C (tq * z) * X + S (tq * z) * Y) * S (tq * z) + (C (tq * z) * Y - S (tq * z) * X) * C (tq * z)) = -((S (tq * z) * S (tq * z) + C (tq * z) * C (tq * z) - 1) * Y) := by grind
    rw [e, rabs_le]; constructor <;> grind
  · have := hz.g; grind
  · have c := rabs_le.1 (circT hz.z0 hz.z1)
    have cd := rabs_le.1 (circT hzd.z0 hzd.z1)
    have q1 := hzd.g
    have q2 := hzd.c
    have k1 := rabs_le.1 hz.s
    have k2 := rabs_le.1 hz.c
    have l := co_lip oa wa
    have l1 := rabs_le.1 l.1
    have l2 := rabs_le.1 l.2
    have gg := sq_bd hz.g
    have zb' := rabs_le.1 zb
    have q1' := rabs_le.1 q1
    have m := rabs_le.1 (mul_rabs q1 (show rabs (S (tq * zd) + Z) ≤ 101/100 from rabs_le.2 ⟨by grind, by grind⟩))
    have zz := sq_bd zb
    -- the length is positive
    have d1 := rabs_le.1 (mul_rabs (show rabs (2 * C (tq * z) - (coU a0 + coU a1)) ≤ 2/100 from rabs_le.2 ⟨by grind, by grind⟩) bX)
    have d2 := rabs_le.1 (mul_rabs (show rabs (2 * S (tq * z) - (siU a0 + siU a1)) ≤ 2/100 from rabs_le.2 ⟨by grind, by grind⟩) bY)
    clear k1 k2 l l1 l2 q1
    generalize S (tq * zd) = sd at *
    generalize C (tq * zd) = cd at *
    have pos : -(3/100) ≤ C (tq * z) * X + S (tq * z) * Y := by grind
    have e : (C (tq * z) * X + S (tq * z) * Y) * (C (tq * z) * X + S (tq * z) * Y) + (C (tq * z) * Y - S (tq * z) * X) * (C (tq * z) * Y - S (tq * z) * X) = (S (tq * z) * S (tq * z) + C (tq * z) * C (tq * z)) * (X * X + Y * Y) := by grind
    have xy : X * X + Y * Y ≤ 11/10 := by grind
    have f1 := Rat.mul_le_mul_of_nonneg_right (show S (tq * z) * S (tq * z) + C (tq * z) * C (tq * z) ≤ 1 + 1 / 100000000000 by grind) (show 0 ≤ X * X + Y * Y by grind)
    have f2 := Rat.mul_le_mul_of_nonneg_right (show 1 - 1 / 100000000000 ≤ S (tq * z) * S (tq * z) + C (tq * z) * C (tq * z) by grind) (show 0 ≤ X * X + Y * Y by grind)
    rw [← e] at f1 f2
    have g0' := sq (C (tq * z) * Y - S (tq * z) * X)
    clear e d1 d2 g0 g1 g2
    generalize C (tq * z) * X + S (tq * z) * Y = ρ at *
    generalize (C (tq * z) * Y - S (tq * z) * X) * (C (tq * z) * Y - S (tq * z) * X) = G at *
    have r1 : 86/100 ≤ ρ := by
      by_cases q : ρ < 86/100
      · exfalso
        have p := Rat.mul_nonneg (show 0 ≤ ρ + 3/100 by grind) (show 0 ≤ 86/100 - ρ by grind)
        grind
      · grind
    refine len_algS (E := 0) ?_ r1 (by grind)
    rw [rabs_le]
    constructor <;> grind
  · have := hzd.g
    have e : Z - S (tq * zd) = -(S (tq * zd) - Z) := by grind
    rw [e, rabs_neg]; grind
theorem turn_dirS {X Y Z z zd θ zh : Rat} {j : Int} (h : DirS X Y Z z zd) (t0 : 0 ≤ θ) (t1 : θ ≤ 1000000000) (h0 : 0 ≤ zh) (h1 : zh ≤ 1000000000) (e : zh = θ - z + (j : Rat) * 1000000000) :
    rabs (vOut θ X Y - C (tq * zd) * C (tq * zh)) ≤ 49 / 100000000000 ∧ rabs (vSide θ X Y - -(C (tq * zd) * S (tq * zh))) ≤ 49 / 100000000000 := by
  obtain ⟨z0, z1, d0, d1, ⟨ρ, g, pX, pY, pg, pr⟩, -⟩ := h
  obtain ⟨s1, s2⟩ := sc_minus t0 t1 z0 z1 h0 h1 e
  have bt := sc_one t0 t1
  have bz := sc_one z0 z1
  have bh := sc_one h0 h1
  have m1 := rabs_le.1 (mul_rabs bt.2 pX)
  have m2 := rabs_le.1 (mul_rabs bt.1 pY)
  have m3 := rabs_le.1 (mul_rabs bt.2 pY)
  have m4 := rabs_le.1 (mul_rabs bt.1 pX)
  have m5 := rabs_le.1 (mul_rabs pg bh.1)
  have m6 := rabs_le.1 (mul_rabs pg bh.2)
  have m7 := rabs_le.1 (mul_rabs pg s1)
  have m8 := rabs_le.1 (mul_rabs pg s2)
  have m9 := rabs_le.1 (mul_rabs pr bh.2)
  have ma := rabs_le.1 (mul_rabs pr bh.1)
  -- the length is at most about 1
  have hr : rabs ρ ≤ 11/10 := by
    have k1 := rabs_le.1 pr
    have k2 := rabs_le.1 (sc_one d0 d1).2
    exact rabs_le.2 ⟨by grind, by grind⟩
  clear pX pY pg
  have n1 := rabs_le.1 (mul_rabs hr s1)
  have n2 := rabs_le.1 (mul_rabs hr s2)
  clear s1 s2 hr bt bz bh pr
  unfold vOut vSide
  generalize C (tq * θ) = ct at *
  generalize S (tq * θ) = st at *
  generalize C (tq * z) = cz at *
  generalize S (tq * z) = sz at *
  generalize C (tq * zh) = ch at *
  generalize S (tq * zh) = sh at *
  generalize C (tq * zd) = cd at *
  constructor
  · have e1 : ct * X + st * Y - cd * ch = ct * (X - (ρ * cz - g * sz)) + st * (Y - (ρ * sz + g * cz)) - ρ * (ch - (ct * cz + st * sz)) + (ρ - cd) * ch - g * (sh - (st * cz - ct * sz)) + g * sh := by grind
    rw [e1]
    clear e1
    generalize ct * (X - (ρ * cz - g * sz)) = u1 at *
    generalize st * (Y - (ρ * sz + g * cz)) = u2 at *
    generalize ρ * (ch - (ct * cz + st * sz)) = u3 at *
    generalize (ρ - cd) * ch = u4 at *
    generalize g * (sh - (st * cz - ct * sz)) = u5 at *
    generalize g * sh = u6 at *
    rw [rabs_le]; constructor <;> grind
  · have e1 : ct * Y - st * X - -(cd * sh) = ct * (Y - (ρ * sz + g * cz)) - st * (X - (ρ * cz - g * sz)) + ρ * (sh - (st * cz - ct * sz)) - (ρ - cd) * sh - g * (ch - (ct * cz + st * sz)) + g * ch := by grind
    rw [e1]
    clear e1
    generalize ct * (Y - (ρ * sz + g * cz)) = u1 at *
    generalize st * (X - (ρ * cz - g * sz)) = u2 at *
    generalize ρ * (sh - (st * cz - ct * sz)) = u3 at *
    generalize (ρ - cd) * sh = u4 at *
    generalize g * (ch - (ct * cz + st * sz)) = u5 at *
    generalize g * ch = u6 at *
    rw [rabs_le]; constructor <;> grind
theorem look_nearS (lat : Int) {s0 s1 a0 a1 d0 d1 : Int} {X Y Z z zd θ : Rat} (h : DirS X Y Z z zd) (hs : s0 ≤ s1) (ha : a0 ≤ a1) (hd : d0 ≤ d1) (t0 : 0 ≤ θ) (t1 : θ ≤ 1000000000)
    (kt : ∃ k : Int, (s0 : Rat) - 1/500 ≤ θ + (k : Rat) * 1000000000 ∧ θ + (k : Rat) * 1000000000 ≤ (s1 : Rat) + 1/500) (ka : ∃ k : Int, (a0 : Rat) ≤ z + (k : Rat) * 1000000000 ∧ z + (k : Rat) * 1000000000 ≤ (a1 : Rat))
    (kd : ∃ k : Int, (d0 : Rat) ≤ zd + (k : Rat) * 1000000000 ∧ zd + (k : Rat) * 1000000000 ≤ (d1 : Rat)) :
    InU (up0 lat (s0 - a1) (s1 - a0) d0 d1) (up1 lat (s0 - a1) (s1 - a0) d0 d1) (tUp lat Z (vOut θ X Y)) (61/100) ∧ InU (ea0 (s0 - a1) (s1 - a0) d0 d1) (ea1 (s0 - a1) (s1 - a0) d0 d1) (vSide θ X Y) (55/100) ∧ InU (no0 lat (s0 - a1) (s1 - a0) d0 d1) (no1 lat (s0 - a1) (s1 - a0) d0 d1) (tNo lat Z (vOut θ X Y)) (61/100) := by
  obtain ⟨k1, k11, k12⟩ := kt
  obtain ⟨k2, k21, k22⟩ := ka
  obtain ⟨k3, k31, k32⟩ := kd
  have z0 := h.z0
  have z1 := h.z1
  obtain ⟨zh, j, e, h0, h1⟩ : ∃ (zh : Rat) (j : Int), zh = θ - z + (j : Rat) * 1000000000 ∧ 0 ≤ zh ∧ zh ≤ 1000000000 := by
    by_cases q : z ≤ θ
    · exact ⟨θ - z, 0, by rw [show ((0 : Int) : Rat) = 0 from rfl]; grind, by grind, by grind⟩
    · exact ⟨θ - z + 1000000000, 1, by rw [show ((1 : Int) : Rat) = 1 from rfl]; grind, by grind, by grind⟩
  have hh : s0 - a1 ≤ s1 - a0 := by omega
  obtain ⟨u, v, w⟩ := look_in lat (kh := k1 - k2 - j) (kd := k3) (zh := zh) (zd := zd) hh hd h0 h1 h.d0 h.d1 (by push_cast; grind) (by push_cast; grind) (by grind) (by grind)
  obtain ⟨o1, o2⟩ := turn_dirS h t0 t1 h0 h1 e
  have q := h.q
  obtain ⟨cc, -, -⟩ := siU_circ lat
  have cc' : rabs (siU lat * siU lat + coU lat * coU lat - 1) ≤ 1 / 1000000000 := by grind
  have cc2 : rabs (coU lat * coU lat + -siU lat * -siU lat - 1) ≤ 1 / 1000000000 := by rw [show coU lat * coU lat + -siU lat * -siU lat - 1 = siU lat * siU lat + coU lat * coU lat - 1 by grind]; exact cc'
  have n1 := sq_bd q
  have n2 := sq_bd o1
  have key : ((Z - S (tq * zd)) * (Z - S (tq * zd)) + (vOut θ X Y - C (tq * zd) * C (tq * zh)) * (vOut θ X Y - C (tq * zd) * C (tq * zh))) * (1 + 1 / 1000000000) ≤ 53 / 100000000000 * (53 / 100000000000) := by grind
  have c1 := rabs_le.1 (cauchy cc' (R := 53 / 100000000000) (by grind) key)
  have c2 := rabs_le.1 (cauchy cc2 (R := 53 / 100000000000) (by grind) key)
  have o2 := rabs_le.1 o2
  clear key cc cc' cc2 n1 n2 o1 q
  refine ⟨?_, ?_, ?_⟩
  · unfold InU tUp at *
    constructor <;> grind
  · unfold InU at *
    constructor <;> grind
  · unfold InU tNo at *
    constructor <;> grind
end Go.Proofs.YtcgnhnmigmdalaaGreatDoor
