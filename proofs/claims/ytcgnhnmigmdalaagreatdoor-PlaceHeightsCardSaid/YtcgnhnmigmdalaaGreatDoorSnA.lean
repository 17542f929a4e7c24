/- The sun's, the moon's and any exact point's conversion to the equator: numbers. No program in sight. The sun's coordinates at the instant 0. Contracts of sun.Equator where the arc is not open, of sun.At, of sunWorks; the walk through the law SunLongitudes. -/
import Derived.Test.YtcgnhnmigmdalaaGreatDoorEqB
import Derived.Test.YtcgnhnmigmdalaaGreatDoorSmA
import Derived.Test.YtcgnhnmigmdalaaGreatDoorWalkEqu
set_option linter.unusedVariables false
set_option linter.unusedSimpArgs false
namespace Go.Proofs.YtcgnhnmigmdalaaGreatDoor
section
open Ieee
theorem rlim {x y : Rat} {n : Int} (hn : ((n : Int) : Rat) = x) (h : x ≤ y) : (n : Rat) ≤ y := by rw [hn]; exact h
/-- The angle of a number in the unit 1 / 2^20. -/
theorem zA_near (v : Int) : zA (argU v) ≤ ((v % 1048576000000000 : Int) : Rat) / 1048576 ∧ ((v % 1048576000000000 : Int) : Rat) / 1048576 ≤ zA (argU v) + 1 / 1000000 := by
  have h : argU v * 1048576 ≤ v % 1048576000000000 * 1000000 ∧ v % 1048576000000000 * 1000000 < argU v * 1048576 + 1048576 := by
    unfold argU; omega
  have h1 := icast h.1
  have h2 := icast (show v % 1048576000000000 * 1000000 ≤ argU v * 1048576 + 1048576 by omega)
  generalize v % 1048576000000000 = m at *
  push_cast at h1 h2
  unfold zA
  constructor <;> grind
theorem kl_ang {m lo hi : Int} (m0 : 0 ≤ m) (m1 : m < 1048576000000000) (h : (m - lo * 1048576 + 2000) % 1048576000000000 ≤ (hi - lo) * 1048576 + 4000) : ∃ k : Int, (lo : Rat) - 1/500 ≤ zA (argU m) + (k : Rat) * 1000000000 ∧ zA (argU m) + (k : Rat) * 1000000000 ≤ (hi : Rat) + 1/500 := by
  obtain ⟨z1, z2⟩ := zA_near m
  rw [Int.emod_eq_of_lt m0 m1] at z1 z2
  refine ⟨-((m - lo * 1048576 + 2000) / 1048576000000000), ?_⟩
  have e := Int.emod_add_mul_ediv (m - lo * 1048576 + 2000) 1048576000000000
  have r0 := Int.emod_nonneg (m - lo * 1048576 + 2000) (show (1048576000000000 : Int) ≠ 0 by decide)
  generalize (m - lo * 1048576 + 2000) / 1048576000000000 = q at *
  generalize (m - lo * 1048576 + 2000) % 1048576000000000 = r at *
  have a := icast (show lo * 1048576 - 2000 ≤ m - 1048576000000000 * q by omega)
  have b := icast (show m - 1048576000000000 * q ≤ hi * 1048576 + 2000 by omega)
  push_cast at a b
  push_cast
  constructor <;> grind
theorem kl_val {v lo hi : Int} (h1 : lo * 1048576 - 2000 ≤ v) (h2 : v ≤ hi * 1048576 + 2000) : ∃ k : Int, (lo : Rat) - 1/500 ≤ zA (argU v) + (k : Rat) * 1000000000 ∧ zA (argU v) + (k : Rat) * 1000000000 ≤ (hi : Rat) + 1/500 := by
  obtain ⟨z1, z2⟩ := zA_near v
  refine ⟨v / 1048576000000000, ?_⟩
  have e := Int.emod_add_mul_ediv v 1048576000000000
  generalize v / 1048576000000000 = q at *
  generalize v % 1048576000000000 = r at *
  have a := icast (show lo * 1048576 - 2000 ≤ r + 1048576000000000 * q by omega)
  have b := icast (show r + 1048576000000000 * q ≤ hi * 1048576 + 2000 by omega)
  push_cast at a b
  constructor <;> grind
/-- A small product by its first factor. -/
theorem prod_small1 {al ah bl bh B : Int} (ha : Sp1 al ah) (hb : Sp1 bl bh) (h1 : -B ≤ al) (h2 : ah ≤ B) (B0 : 0 ≤ B) : -(B + 1) ≤ pLo al ah bl bh 1000000000 ∧ pHi al ah bl bh 1000000000 ≤ B + 1 := by
  obtain ⟨-, ⟨a, b, ea, eb, k2⟩, ⟨c, d, ec, ed, k3⟩⟩ := prod_ends ha hb
  obtain ⟨ao, -, -⟩ := ha
  obtain ⟨bo, b0, b1⟩ := hb
  have bd : ∀ x y : Int, -B ≤ x → x ≤ B → -1000000000 ≤ y → y ≤ 1000000000 → -(1000000000 * B) ≤ x * y ∧ x * y ≤ 1000000000 * B := by
    intro x y x0 x1 y0 y1
    have h1 := Int.mul_nonneg (show 0 ≤ B - x by omega) (show 0 ≤ 1000000000 - y by omega)
    have h2 := Int.mul_nonneg (show 0 ≤ B + x by omega) (show 0 ≤ 1000000000 + y by omega)
    have h3 := Int.mul_nonneg (show 0 ≤ B - x by omega) (show 0 ≤ 1000000000 + y by omega)
    have h4 := Int.mul_nonneg (show 0 ≤ B + x by omega) (show 0 ≤ 1000000000 - y by omega)
    constructor <;> grind
  have u1 := (bd a b (by omega) (by omega) (by omega) (by omega)).1
  have u2 := (bd c d (by omega) (by omega) (by omega) (by omega)).2
  clear bd
  generalize pLo al ah bl bh 1000000000 = L at *
  generalize pHi al ah bl bh 1000000000 = H at *
  generalize a * b = u at *
  generalize c * d = v at *
  constructor <;> omega
theorem eqZ_small {l0 l1 b0 b1 B : Int} (hl : l0 ≤ l1) (hb : b0 ≤ b1) (h1 : -B ≤ sovLo b0 b1) (h2 : sovHi b0 b1 ≤ B) (B0 : 0 ≤ B) : -(B + 397776340) ≤ eqZ0 l0 l1 b0 b1 ∧ eqZ1 l0 l1 b0 b1 ≤ B + 397776340 := by
  obtain ⟨-, -, tes, tcs⟩ := tilt_in
  have p1 := prod_small (eqA_sp hl hb) tes (B := 397776338) (by decide) (by decide) (by decide)
  have p2 := prod_small1 (sov_sp _ _ hb) tcs h1 h2 B0
  unfold eqZ0 eqZ1 eqR0 eqR1 eqS0 eqS1
  omega
/-- The sine at an angle of less than a quarter of a turn, either way. -/
theorem sin_lat {z y : Rat} {j : Int} (z0 : 0 ≤ z) (z1 : z ≤ 1000000000) (y0 : rabs y ≤ 250000000) (h : z = y + (j : Rat) * 1000000000) : rabs (S (tq * z) - S (tq * y)) ≤ 2 / 1000000000000 := by
  have hy := rabs_le.1 y0
  have hp := pi_num
  have c0 : ((0 : Int) : Rat) = 0 := rfl
  have c1 : ((1 : Int) : Rat) = 1 := rfl
  have hj : j = 0 ∨ j = 1 := by
    have a1 : j < 2 := by
      by_cases q : j < 2
      · exact q
      · exfalso
        have := icast (show 2 ≤ j by omega)
        have c2 : ((2 : Int) : Rat) = 2 := rfl
        rw [c2] at this; grind
    have a2 : -1 < j := by
      by_cases q : -1 < j
      · exact q
      · exfalso
        have := icast (show j ≤ -1 by omega)
        have c2 : ((-1 : Int) : Rat) = -1 := rfl
        rw [c2] at this; grind
    omega
  rcases hj with rfl | rfl
  · rw [c0] at h
    rw [show z = y by grind, show S (tq * y) - S (tq * y) = 0 by grind]; decide +kernel
  · rw [c1] at h
    have e : tq * z = tq * y + 2 * piQ := by rw [h, ← tq_turn]; grind
    have b := tq_le hy.1
    have b' := tq_le hy.2
    have q2 := tq_quarter
    have t := (sin_turn (x := tq * y) (rabs_le.2 ⟨by grind, by grind⟩)).1
    rw [e]; grind
/-- A box and the width of a converted point. -/
theorem eq_box {l0 l1 b0 b1 : Int} {zl zb s0 c0 r0 wl wb A B ρ κ : Rat} (p : Pt l0 l1 b0 b1 zl zb) (h1 : 62832 / 10000 * ((l1 - l0 : Int) : Rat) + 225/100 ≤ wl) (h2 : 62832 / 10000 * ((b1 - b0 : Int) : Rat) + 225/100 ≤ wb)
    (hs : rabs (S (tq * zb)) ≤ s0) (hc0 : 0 ≤ c0) (hsc : c0 * c0 + s0 * s0 ≤ 1 - 1 / 1000000000) (hr0 : 0 ≤ r0) (hr : r0 ≤ c0 * (9174/10000) - s0 * (3978/10000)) (hA : wl + wb + 2 ≤ A) (hB : 9175/10000 * (wl + wb + 2) + 3978/10000 * wb + 6 ≤ B)
    (hρ : 100000000 ≤ ρ) (k0 : 0 ≤ κ) (k1 : κ ≤ 1/20) (hA5 : A ≤ 50000000) (hB5 : B ≤ 50000000) (hnum : ρ * ρ + 2100000000 * (A + B + 4/10) ≤ 1000000000000000000 * (r0 * r0 - 1 / 1000000000)) (hd : A * A + B * B ≤ κ * ρ * (κ * ρ)) :
    Box (eqY0 l0 l1 b0 b1) (eqY1 l0 l1 b0 b1) (eqX0 l0 l1 b0 b1) (eqX1 l0 l1 b0 b1) ρ κ := by
  obtain ⟨wX, wY, -⟩ := eq_widths p.hl p.hb h1 h2
  obtain ⟨ix, iy, -⟩ := eq_in p
  obtain ⟨n1, n2, n3, -⟩ := eq_norm p.l.1 p.l.2 p.b.1 p.b.2 hs hc0 hsc hr0 hr
  exact box_of ix iy (eqX_sp p.hl p.hb).o (eqY_bd p.hl p.hb).1 (Rat.le_trans wX hA) (Rat.le_trans wY hB) n2 n3 n1 hρ k0 k1 hA5 hB5 hnum hd
theorem width_int {n N : Int} {κ : Rat} (h : tq * ((n : Int) : Rat) ≤ κ) (hN : κ < tq * (((N + 1 : Int)) : Rat)) : n ≤ N := by
  by_cases q : n ≤ N
  · exact q
  · exfalso
    have := tq_le (icast (show N + 1 ≤ n by omega))
    grind
/-- The sun. -/
theorem zb_zero : zA (argU 0) = 0 := by decide +kernel
theorem sc_zero : S (tq * 0) = 0 ∧ C (tq * 0) = 1 := by decide +kernel
theorem sov_zero : sovLo 0 0 = 0 ∧ sovHi 0 0 = 0 := by decide +kernel
theorem slon_in {t m : Int} (h : SLon t m) : (m - sunLo t * 1048576 + 2000) % 1048576000000000 ≤ (sunHi t - sunLo t) * 1048576 + 4000 := by
  obtain ⟨n, h1, h2, rfl⟩ := h
  obtain ⟨-, -, h, hw, -⟩ := sun_facts t
  have h0 : 0 ≤ (sunW t - 2000 * 1048576 - sunLo t * 1048576 + 2000) % 1048576000000000 := by omega
  generalize sunW t = W at *
  generalize sunLo t = lo at *
  generalize sunHi t = hi at *
  have e : ((W + 250 * n * 1048576) % 1048576000000000 - lo * 1048576 + 2000) % 1048576000000000 = ((W - 2000 * 1048576 - lo * 1048576 + 2000) % 1048576000000000 + (2000 * 1048576 + 250 * n * 1048576)) % 1048576000000000 := by omega
  rw [e]
  generalize (W - 2000 * 1048576 - lo * 1048576 + 2000) % 1048576000000000 = K at *
  have e2 : (K + (2000 * 1048576 + 250 * n * 1048576)) % 1048576000000000 = K + (2000 * 1048576 + 250 * n * 1048576) := Int.emod_eq_of_lt (by omega) (by omega)
  rw [e2]
  omega
theorem sun_pt {t m : Int} (h : SLon t m) : Pt (sunLo t) (sunHi t) 0 0 (zA (argU m)) (zA (argU 0)) := by
  obtain ⟨-, -, -, -, -, -, h6⟩ := sun_facts t
  obtain ⟨a0, a1⟩ := argU_bd m
  refine ⟨h6, Int.le_refl 0, zA_bd a0 a1, by rw [zb_zero]; constructor <;> decide +kernel, kl_ang h.bd.1 h.bd.2 (slon_in h), ⟨0, ?_⟩⟩
  rw [zb_zero]; constructor <;> decide +kernel
theorem sun_box {t m : Int} (h : SLon t m) : Box (eqY0 (sunLo t) (sunHi t) 0 0) (eqY1 (sunLo t) (sunHi t) 0 0) (eqX0 (sunLo t) (sunHi t) 0 0) (eqX1 (sunLo t) (sunHi t) 0 0) 916900000 (373/10000000) := by
  obtain ⟨-, -, -, h4, -, -, -⟩ := sun_facts t
  have w := icast h4
  have c : ((4003 : Int) : Rat) = 4003 := rfl
  rw [c] at w
  refine eq_box (sun_pt h) (s0 := 1/10000) (c0 := 99999/100000) (r0 := 917/1000) (wl := 25155) (wb := 225/100) (A := 25160) (B := 23095) (by grind) (by decide +kernel) ?_ (by decide +kernel) (by decide +kernel) (by decide +kernel) (by decide +kernel) (by decide +kernel) (by decide +kernel) (by decide +kernel) (by decide +kernel) (by decide +kernel) (by decide +kernel) (by decide +kernel) (by decide +kernel) (by decide +kernel)
  rw [zb_zero, sc_zero.1]; decide +kernel
theorem sun_ra {t : Int} {D0 L H : Rat} {E : Nat → Rat} (hv : ArcV (eqY0 (sunLo t) (sunHi t) 0 0) (eqY1 (sunLo t) (sunHi t) 0 0) (eqX0 (sunLo t) (sunHi t) 0 0) (eqX1 (sunLo t) (sunHi t) 0 0) D0 E L H) {m : Int} (h : SLon t m) :
    arcHi (eqY0 (sunLo t) (sunHi t) 0 0) (eqY1 (sunLo t) (sunHi t) 0 0) (eqX0 (sunLo t) (sunHi t) 0 0) (eqX1 (sunLo t) (sunHi t) 0 0) - arcLo (eqY0 (sunLo t) (sunHi t) 0 0) (eqY1 (sunLo t) (sunHi t) 0 0) (eqX0 (sunLo t) (sunHi t) 0 0) (eqX1 (sunLo t) (sunHi t) 0 0) ≤ 10000 :=
  width_int (arc_wide (sun_box h) hv) (by decide +kernel)
theorem sun_dec (t : Int) : asHi (eqZ1 (sunLo t) (sunHi t) 0 0) - asLo (eqZ0 (sunLo t) (sunHi t) 0 0) ≤ 6000 := by
  obtain ⟨-, -, -, h4, -, -, h6⟩ := sun_facts t
  have w := icast h4
  have c : ((4003 : Int) : Rat) = 4003 := rfl
  rw [c] at w
  obtain ⟨s1, s2⟩ := sov_zero
  have z := eqZ_small (l0 := sunLo t) (l1 := sunHi t) (b0 := 0) (b1 := 0) (B := 0) h6 (by decide) (by rw [s1]; decide) (by rw [s2]; decide) (by decide)
  have zo := (eqZ_bd (l0 := sunLo t) (l1 := sunHi t) (b0 := 0) (b1 := 0) h6 (by decide)).1
  obtain ⟨-, -, wZ⟩ := eq_widths (l0 := sunLo t) (l1 := sunHi t) (b0 := 0) (b1 := 0) (wl := 25155) (wb := 225/100) h6 (by decide) (by grind) (by decide +kernel)
  generalize eqZ0 (sunLo t) (sunHi t) 0 0 = m at *
  generalize eqZ1 (sunLo t) (sunHi t) 0 0 = n at *
  have b1 := rabs_int (n := m) (B := 400000000) (by omega) (by omega)
  have b2 := rabs_int (n := n) (B := 400000000) (by omega) (by omega)
  have cc : ((400000000 : Int) : Rat) = 1000000000 * (4/10) := by decide +kernel
  rw [cc] at b1 b2
  have k := asin_wide (m := m) (n := n) (s := 4/10) (c0 := 9165/10000) zo (by omega) (by omega) b1 b2 (by decide +kernel) (by decide +kernel) (by decide +kernel)
  push_cast at k
  refine width_int (κ := 2282 / 100000000) ?_ (by decide +kernel)
  push_cast
  grind
/-- An exact point between 45 degrees south and north: its arc is never open. -/
theorem exact_box {l b : Int} (h1 : -125000000 ≤ b) (h2 : b ≤ 125000000) : Box (eqY0 l l b b) (eqY1 l l b b) (eqX0 l l b b) (eqX1 l l b b) 367300000 (1/10000000) := by
  obtain ⟨b0, b1⟩ := emod_bd b
  obtain ⟨l0, l1⟩ := emod_bd l
  have g0 := icast b0
  have g1 := icast (show b % 1000000000 ≤ 1000000000 by omega)
  have f0 := icast l0
  have f1 := icast (show l % 1000000000 ≤ 1000000000 by omega)
  have c0 : ((0 : Int) : Rat) = 0 := rfl
  have c1 : ((1000000000 : Int) : Rat) = 1000000000 := rfl
  rw [c0] at g0 f0
  rw [c1] at g1 f1
  have eb := turn_split b
  have el := turn_split l
  have p : Pt l l b b ((l % 1000000000 : Int) : Rat) ((b % 1000000000 : Int) : Rat) := ⟨Int.le_refl _, Int.le_refl _, ⟨f0, f1⟩, ⟨g0, g1⟩, ⟨l / 1000000000, by grind, by grind⟩, ⟨b / 1000000000, by grind, by grind⟩⟩
  have z : ((b - b : Int) : Rat) = 0 := by rw [show b - b = 0 by omega]; rfl
  have z' : ((l - l : Int) : Rat) = 0 := by rw [show l - l = 0 by omega]; rfl
  have s := siU_tq (a := b) (by omega) (by omega)
  have es : siU b = S (tq * ((b % 1000000000 : Int) : Rat)) := by unfold siU; rw [angU_tq]
  rw [es] at s
  have s := rabs_le.1 s
  have lim : S (tq * 125000000) ≤ 7071068 / 10000000 ∧ -(7071068 / 10000000) ≤ S (tq * -125000000) := by decide +kernel
  have hb1 := icast h1
  have hb2 := icast h2
  have k1 : ((-125000000 : Int) : Rat) = -125000000 := rfl
  have k2 : ((125000000 : Int) : Rat) = 125000000 := rfl
  rw [k1] at hb1
  rw [k2] at hb2
  have t1 := tq_le hb1
  have t2 := tq_le hb2
  have hp := pi_num
  have q := tq_quarter
  have m1 := sin_mono (x := tq * (b : Rat)) (y := tq * 125000000) t2 (rabs_le.2 ⟨by grind, by grind⟩) (rabs_le.2 ⟨by grind, by grind⟩)
  have m2 := sin_mono (x := tq * -125000000) (y := tq * (b : Rat)) t1 (rabs_le.2 ⟨by grind, by grind⟩) (rabs_le.2 ⟨by grind, by grind⟩)
  refine eq_box p (s0 := 70711/100000) (c0 := 7071/10000) (r0 := 3674/10000) (wl := 225/100) (wb := 225/100) (A := 65/10) (B := 13) (by rw [z']; decide +kernel) (by rw [z]; decide +kernel) ?_ (by decide +kernel) (by decide +kernel) (by decide +kernel) (by decide +kernel) (by decide +kernel) (by decide +kernel) (by decide +kernel) (by decide +kernel) (by decide +kernel) (by decide +kernel) (by decide +kernel) (by decide +kernel) (by decide +kernel)
  exact rabs_le.2 ⟨by grind, by grind⟩
end
section
theorem sun_fix1 : sunLo 0 = 778092769 ∧ sunHi 0 = 778096770 := by decide +kernel
theorem sun_fix2 : eqY0 778092769 778096770 0 0 = -903226712 ∧ eqY1 778092769 778096770 0 0 = -903222660 ∧ eqX0 778092769 778096770 0 0 = 175596916 ∧ eqX1 778092769 778096770 0 0 = 175621666 ∧ eqZ0 778092769 778096770 0 0 = -391595749 ∧ eqZ1 778092769 778096770 0 0 = -391593991 := by decide +kernel
theorem sun_fix3 : arcLo (-903226712) (-903222660) 175596916 175621666 % 1000000000 ≤ 780562381 ∧ 780562381 ≤ arcLo (-903226712) (-903222660) 175596916 175621666 % 1000000000 + arcHi (-903226712) (-903222660) 175596916 175621666 - arcLo (-903226712) (-903222660) 175596916 175621666 := by decide +kernel
theorem sun_fix4 : asLo (-391595749) ≤ -64038259 ∧ -64038259 ≤ asHi (-391593991) := by decide +kernel
end
section
open Go.RowKit
/-- The right ascension of a converted interval. -/
def raLo (l0 l1 b0 b1 : Int) : Int := arcLo (eqY0 l0 l1 b0 b1) (eqY1 l0 l1 b0 b1) (eqX0 l0 l1 b0 b1) (eqX1 l0 l1 b0 b1)
def raHi (l0 l1 b0 b1 : Int) : Int := arcHi (eqY0 l0 l1 b0 b1) (eqY1 l0 l1 b0 b1) (eqX0 l0 l1 b0 b1) (eqX1 l0 l1 b0 b1)
theorem c_arcSin_eq {l0 l1 b0 b1 : Int} (hl : l0 ≤ l1) (hb : b0 ≤ b1) (w : World) : Calls Tryz.prog 51 #[.agg #[.int .i64 (eqR0 l0 l1 b0 b1 + eqS0 b0 b1), .int .i64 (eqR1 l0 l1 b0 b1 + eqS1 b0 b1)]] w fun e w' => e = .returned (.tuple #[.agg #[.int .i64 (asLo (eqZ0 l0 l1 b0 b1)), .int .i64 (asHi (eqZ1 l0 l1 b0 b1))], .int .i64 0]) ∧ Below w.heap.size w w' := by
  obtain ⟨z1, z2, z3⟩ := eqZ_bd hl hb
  have ez : spanErr (eqZ0 l0 l1 b0 b1) (eqZ1 l0 l1 b0 b1) = 0 := by unfold spanErr; (repeat (first | rw [if_neg (by omega)] | rw [if_pos (by omega)]))
  exact c_ArcSin_ok (eqZ0 l0 l1 b0 b1) (eqZ1 l0 l1 b0 b1) w ez
/-- sun.Equator, open or not. -/
theorem c_Equator_all {l0 l1 b0 b1 : Int} (hl : l0 ≤ l1) (h1 : -1000000000000000000 ≤ l0) (h2 : l1 ≤ 1000000000000000000) (hb : b0 ≤ b1) (h3 : -125000000 ≤ b0) (h4 : b1 ≤ 125000000)
    (hzz : ¬ (eqY0 l0 l1 b0 b1 ≤ 0 ∧ 0 ≤ eqY1 l0 l1 b0 b1 ∧ eqX0 l0 l1 b0 b1 ≤ 0 ∧ 0 ≤ eqX1 l0 l1 b0 b1)) :
    (∃ D0 E L H, ArcV (eqY0 l0 l1 b0 b1) (eqY1 l0 l1 b0 b1) (eqX0 l0 l1 b0 b1) (eqX1 l0 l1 b0 b1) D0 E L H) ∧ raLo l0 l1 b0 b1 ≤ raHi l0 l1 b0 b1 ∧
    (400000000 < raHi l0 l1 b0 b1 - raLo l0 l1 b0 b1 → ∀ w, Tab w → Calls Tryz.prog 47 #[.agg #[.int .i64 l0, .int .i64 l1], .agg #[.int .i64 b0, .int .i64 b1]] w fun e w' => e = .returned (.tuple #[.agg #[.int .i64 0, .int .i64 0], .agg #[.int .i64 0, .int .i64 0], .int .i64 11]) ∧ Below w.heap.size w w') ∧
    (raHi l0 l1 b0 b1 - raLo l0 l1 b0 b1 ≤ 400000000 → ∀ w, Tab w → Calls Tryz.prog 47 #[.agg #[.int .i64 l0, .int .i64 l1], .agg #[.int .i64 b0, .int .i64 b1]] w fun e w' => e = .returned (.tuple #[.agg #[.int .i64 (raLo l0 l1 b0 b1 % 1000000000), .int .i64 (raLo l0 l1 b0 b1 % 1000000000 + raHi l0 l1 b0 b1 - raLo l0 l1 b0 b1)], .agg #[.int .i64 (asLo (eqZ0 l0 l1 b0 b1)), .int .i64 (asHi (eqZ1 l0 l1 b0 b1))], .int .i64 0]) ∧ Below w.heap.size w w') := by
  obtain ⟨y1, y2, y3⟩ := eqY_bd hl hb
  obtain ⟨x1, x2, x3⟩ := eqX_sp hl hb
  obtain ⟨hv, ho, ha⟩ := c_Arc_all (eqY0 l0 l1 b0 b1) (eqY1 l0 l1 b0 b1) (eqX0 l0 l1 b0 b1) (eqX1 l0 l1 b0 b1) y1 x1 (by omega) (by omega) (by omega) (by omega) hzz
  have N := eqN hl h1 h2 hb h3 h4
  refine ⟨hv, ho, fun hw w ht => ?_, fun hw w ht => ?_⟩
  · refine c_Equ l0 l1 b0 b1 _ _ _ _ _ _ _ _ _ _ _ _ _ _ _ _ _ _ _ _ 0 0 _ _ 11 0 0 0 0 w N ht h3 h4 (fun w1 => (ha w1).mono fun e w' ⟨h, hb⟩ => ?_) (fun w1 => c_arcSin_eq hl hb w1) (.inr ⟨rfl, rfl, rfl, rfl, rfl⟩)
    rcases h with ⟨-, h⟩ | ⟨h, -⟩
    · exact ⟨h, hb⟩
    · unfold raLo raHi at hw; omega
  · refine c_Equ l0 l1 b0 b1 _ _ _ _ _ _ _ _ _ _ _ _ _ _ _ _ _ _ _ _ (raLo l0 l1 b0 b1 % 1000000000) (raLo l0 l1 b0 b1 % 1000000000 + raHi l0 l1 b0 b1 - raLo l0 l1 b0 b1) _ _ 0 _ _ _ _ w N ht h3 h4 (fun w1 => (ha w1).mono fun e w' ⟨h, hb⟩ => ?_) (fun w1 => c_arcSin_eq hl hb w1) (.inl ⟨rfl, rfl, rfl, rfl, rfl⟩)
    rcases h with ⟨h, -⟩ | ⟨-, h⟩
    · unfold raLo raHi at hw; omega
    · exact ⟨h, hb⟩
/-- Both intervals of zero: the sun's latitude. -/
def sraLo (t : Int) : Int := raLo (sunLo t) (sunHi t) 0 0 % 1000000000
def sraHi (t : Int) : Int := raLo (sunLo t) (sunHi t) 0 0 % 1000000000 + raHi (sunLo t) (sunHi t) 0 0 - raLo (sunLo t) (sunHi t) 0 0
def sdeLo (t : Int) : Int := asLo (eqZ0 (sunLo t) (sunHi t) 0 0)
def sdeHi (t : Int) : Int := asHi (eqZ1 (sunLo t) (sunHi t) 0 0)
theorem slon_ex (t : Int) : ∃ m, SLon t m := ⟨_, 0, by decide, by decide, rfl⟩
/-- What is known of the sun's coordinates. -/
structure SunR (t : Int) : Prop where
  ra0 : 0 ≤ sraLo t
  ra1 : sraLo t < 1000000000
  ra2 : sraLo t ≤ sraHi t
  ra3 : sraHi t - sraLo t ≤ 10000
  de0 : -250000000 ≤ sdeLo t
  de1 : sdeLo t ≤ sdeHi t
  de2 : sdeHi t ≤ 250000000
  de3 : sdeHi t - sdeLo t ≤ 6000
  ia : ∀ m, SLon t m → InArcOk (sraLo t) (sraHi t % 1000000000) (dirY m 0) (dirX m 0)
  is : ∀ m, SLon t m → InAsin (sdeLo t) (sdeHi t) (dirZ m 0)
theorem sun_all (t : Int) : SunR t ∧ ∀ w, Tab w → Calls Tryz.prog 47 #[.agg #[.int .i64 (sunLo t), .int .i64 (sunHi t)], .agg #[.int .i64 0, .int .i64 0]] w fun e w' => e = .returned (.tuple #[.agg #[.int .i64 (sraLo t), .int .i64 (sraHi t)], .agg #[.int .i64 (sdeLo t), .int .i64 (sdeHi t)], .int .i64 0]) ∧ Below w.heap.size w w' := by
  obtain ⟨f0, f1, -, f3, -, -, f6⟩ := sun_facts t
  obtain ⟨m, hm⟩ := slon_ex t
  obtain ⟨⟨D0, E, L, H, hv⟩, ho, -, hc⟩ := c_Equator_all (l0 := sunLo t) (l1 := sunHi t) (b0 := 0) (b1 := 0) f6 (by omega) (by omega) (by decide) (by decide) (by decide) (sun_box hm).off
  have hw : raHi (sunLo t) (sunHi t) 0 0 - raLo (sunLo t) (sunHi t) 0 0 ≤ 10000 := sun_ra hv hm
  refine ⟨?_, hc (by omega)⟩
  have bz := eqZ_bd (l0 := sunLo t) (l1 := sunHi t) (b0 := 0) (b1 := 0) f6 (by decide)
  have ab := as_bounds (eqZ0 (sunLo t) (sunHi t) 0 0)
  have ab2 := as_bounds (eqZ1 (sunLo t) (sunHi t) 0 0)
  have m0 := Int.emod_nonneg (raLo (sunLo t) (sunHi t) 0 0) (show (1000000000 : Int) ≠ 0 by decide)
  have m1 := Int.emod_lt_of_pos (raLo (sunLo t) (sunHi t) 0 0) (show (0 : Int) < 1000000000 by decide)
  refine ⟨m0, m1, by unfold sraLo sraHi; omega, by unfold sraLo sraHi; omega, ab.1, as_order bz.1, ab2.2.2.2.1, sun_dec t, ?_, ?_⟩
  · intro m hm
    have d := dir_ok m 0
    have n := eq_norm (sun_pt hm).l.1 (sun_pt hm).l.2 (sun_pt hm).b.1 (sun_pt hm).b.2 (s0 := 1/10000) (c0 := 99999/100000) (r0 := 917/1000) (by rw [zb_zero, sc_zero.1]; decide +kernel) (by decide +kernel) (by decide +kernel) (by decide +kernel) (by decide +kernel)
    have dx := d.x
    have dy := d.y
    have h := eq_inArc (sun_pt hm) hv (by unfold raLo raHi at hw; omega) (u := dirY m 0) (v := dirX m 0) (by grind) (by grind) (fine_bd (by grind) n.2.2.1).1 (fine_bd (by grind) n.2.1).1
    have e : sraHi t % 1000000000 = raHi (sunLo t) (sunHi t) 0 0 % 1000000000 := by unfold sraHi; omega
    rw [e]
    exact h
  · intro m hm
    have d := dir_ok m 0
    have n := eq_norm (sun_pt hm).l.1 (sun_pt hm).l.2 (sun_pt hm).b.1 (sun_pt hm).b.2 (s0 := 1/10000) (c0 := 99999/100000) (r0 := 917/1000) (by rw [zb_zero, sc_zero.1]; decide +kernel) (by decide +kernel) (by decide +kernel) (by decide +kernel) (by decide +kernel)
    have dz := d.z
    exact eq_inAsin (sun_pt hm) (by grind) n.2.2.2
theorem c_sunAt (t : Int) (w : World) (hT : Tab w) (ht : instB t = true) :
    Calls Tryz.prog 9 #[.int .i64 t] w fun e w' => e = .returned (.tuple #[.agg #[.int .i64 (sraLo t), .int .i64 (sraHi t)], .agg #[.int .i64 (sdeLo t), .int .i64 (sdeHi t)], .int .i64 0]) ∧ Below w.heap.size w w' := by
  have HE := Lib.hid (sun_all t).2
  have HL := Lib.hid (fun w1 (h : Tab w1) => c_sunLongitude t w1 h ht)
  have HT := Lib.hid hT
  clear hT ht
  generalize sunLo t = l0 at *
  generalize sunHi t = l1 at *
  generalize sraLo t = r0 at *
  generalize sraHi t = r1 at *
  generalize sdeLo t = d0 at *
  generalize sdeHi t = d1 at *
  have hgen := sgen; have hgen2 := sgen2; have hgen3 := sgen3; go_enter Tryz.func9, Tryz.ntmps9
  go_wp2_with (first | (go_at_call 46; (refine (HL.out _ (HT.out.below (by exact belz))).mono ?_); rintro e w1 ⟨rfl, hb⟩; have hz := hb.size; (try simp only [szA, szS, szD, szN] at hz); (try (refine bcB (n := w.heap.size) hb ?_; intro h_w_0 e_w_0 d_w_0 _ _)); (try (refine bcB (n := w.heap.size + 1) hb ?_; intro h_w_1 e_w_1 d_w_1 _ _))) | (go_at_call 47; (refine (HE.out _ (HT.out.below (by exact belz))).mono ?_); rintro e w2 ⟨rfl, hb⟩; have hz := hb.size; (try simp only [szA, szS, szD, szN] at hz); (try (refine bcB (n := w.heap.size) hb ?_; intro h_w_0 e_w_0 d_w_0 _ _)); (try (refine bcB (n := w.heap.size + 1) hb ?_; intro h_w_1 e_w_1 d_w_1 _ _)); (try (refine bcB (n := w1.heap.size) hb ?_; intro h_w1_0 e_w1_0 d_w1_0 _ _))))
  refine bodyPost_ret (v := .tuple #[.agg #[.int .i64 r0, .int .i64 r1], .agg #[.int .i64 d0, .int .i64 d1], .int .i64 0]) (by simp only [results, Tryz.results9]; go_simp) rfl ⟨rfl, ?_⟩
  exact belz
theorem c_sunAtT (t : Int) (w : World) (ht : instB t = false) (t1 : -9223372036854775808 ≤ t) (t2 : t ≤ 9223372036854775807) :
    Calls Tryz.prog 9 #[.int .i64 t] w fun e w' => e = .returned (.tuple #[.agg #[.int .i64 0, .int .i64 0], .agg #[.int .i64 0, .int .i64 0], .int .i64 3]) ∧ Below w.heap.size w w' := by
  have HL := Lib.hid (fun w1 => c_sunLongitudeT t w1 ht t1 t2)
  clear ht
  have hgen := sgen; have hgen2 := sgen2; have hgen3 := sgen3; go_enter Tryz.func9, Tryz.ntmps9
  go_wp2_with (go_at_call 46; (refine (HL.out _).mono ?_); rintro e w1 ⟨rfl, hb⟩; have hz := hb.size; (try simp only [szA, szS, szD, szN] at hz); (try (refine bcB (n := w.heap.size) hb ?_; intro h_w_0 e_w_0 d_w_0 _ _)); (try (refine bcB (n := w.heap.size + 1) hb ?_; intro h_w_1 e_w_1 d_w_1 _ _)))
  refine bodyPost_ret (v := .tuple #[.agg #[.int .i64 0, .int .i64 0], .agg #[.int .i64 0, .int .i64 0], .int .i64 3]) (by simp only [results, Tryz.results9]; go_simp) rfl ⟨rfl, ?_⟩
  exact belz
theorem sun_fix5 : sraLo 0 ≤ 780562381 ∧ 780562381 ≤ sraHi 0 ∧ sdeLo 0 ≤ -64038259 ∧ -64038259 ≤ sdeHi 0 := by
  obtain ⟨e1, e2⟩ := sun_fix1
  obtain ⟨y0, y1, x0, x1, z0, z1⟩ := sun_fix2
  unfold sraLo sraHi sdeLo sdeHi raLo raHi
  rw [e1, e2, y0, y1, x0, x1, z0, z1]
  exact ⟨sun_fix3.1, sun_fix3.2, sun_fix4.1, sun_fix4.2⟩
end
end Go.Proofs.YtcgnhnmigmdalaaGreatDoor
