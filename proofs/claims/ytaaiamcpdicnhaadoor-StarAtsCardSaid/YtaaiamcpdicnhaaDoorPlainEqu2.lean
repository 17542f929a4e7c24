/- The conversion to the equator: the reference's tests; small rectangles. No program in sight. -/
import Derived.Test.YtaaiamcpdicnhaaDoorPlainEqu
set_option linter.unusedVariables false
set_option linter.unusedSimpArgs false
namespace Go.Proofs.YtaaiamcpdicnhaaDoor
open Ieee
theorem prod_small {al ah bl bh B : Int} (ha : Sp1 al ah) (hb : Sp1 bl bh) (h1 : -B ≤ bl) (h2 : bh ≤ B) (B0 : 0 ≤ B) : -(B + 1) ≤ pLo al ah bl bh 1000000000 ∧ pHi al ah bl bh 1000000000 ≤ B + 1 := by
  obtain ⟨-, ⟨a, b, ea, eb, k2⟩, ⟨c, d, ec, ed, k3⟩⟩ := prod_ends ha hb
  obtain ⟨ao, a0, a1⟩ := ha
  obtain ⟨bo, -, -⟩ := hb
  have bd : ∀ x y : Int, -1000000000 ≤ x → x ≤ 1000000000 → -B ≤ y → y ≤ B → -(1000000000 * B) ≤ x * y ∧ x * y ≤ 1000000000 * B := by
    intro x y x0 x1 y0 y1
    have h1 := Int.mul_nonneg (show 0 ≤ 1000000000 - x by omega) (show 0 ≤ B - y by omega)
    have h2 := Int.mul_nonneg (show 0 ≤ 1000000000 + x by omega) (show 0 ≤ B + y by omega)
    have h3 := Int.mul_nonneg (show 0 ≤ 1000000000 - x by omega) (show 0 ≤ B + y by omega)
    have h4 := Int.mul_nonneg (show 0 ≤ 1000000000 + x by omega) (show 0 ≤ B - y by omega)
    constructor <;> grind
  have u1 := (bd a b (by omega) (by omega) (by omega) (by omega)).1
  have u2 := (bd c d (by omega) (by omega) (by omega) (by omega)).2
  clear bd
  generalize pLo al ah bl bh 1000000000 = L at *
  generalize pHi al ah bl bh 1000000000 = H at *
  generalize a * b = u at *
  generalize c * d = v at *
  constructor <;> omega
theorem eqX_sp {l0 l1 b0 b1 : Int} (hl : l0 ≤ l1) (hb : b0 ≤ b1) : Sp1 (eqX0 l0 l1 b0 b1) (eqX1 l0 l1 b0 b1) := prod_sp (cov_sp hb) (cov_sp hl)
theorem eqY_bd {l0 l1 b0 b1 : Int} (hl : l0 ≤ l1) (hb : b0 ≤ b1) : eqY0 l0 l1 b0 b1 ≤ eqY1 l0 l1 b0 b1 ∧ -1315258757 ≤ eqY0 l0 l1 b0 b1 ∧ eqY1 l0 l1 b0 b1 ≤ 1315258757 := by
  obtain ⟨-, -, tes, tcs⟩ := tilt_in
  have p1 := prod_small (eqA_sp hl hb) tcs (B := 917482417) (by decide) (by decide) (by decide)
  have p2 := prod_small (sov_sp _ _ hb) tes (B := 397776338) (by decide) (by decide) (by decide)
  have q1 := (prod_sp (eqA_sp hl hb) tcs).o
  have q2 := (prod_sp (sov_sp _ _ hb) tes).o
  unfold eqY0 eqY1 eqP0 eqP1 eqQ0 eqQ1
  omega
theorem eqZ_bd {l0 l1 b0 b1 : Int} (hl : l0 ≤ l1) (hb : b0 ≤ b1) : eqZ0 l0 l1 b0 b1 ≤ eqZ1 l0 l1 b0 b1 ∧ -1315258757 ≤ eqZ0 l0 l1 b0 b1 ∧ eqZ1 l0 l1 b0 b1 ≤ 1315258757 := by
  obtain ⟨-, -, tes, tcs⟩ := tilt_in
  have p1 := prod_small (eqA_sp hl hb) tes (B := 397776338) (by decide) (by decide) (by decide)
  have p2 := prod_small (sov_sp _ _ hb) tcs (B := 917482417) (by decide) (by decide) (by decide)
  have q1 := (prod_sp (eqA_sp hl hb) tes).o
  have q2 := (prod_sp (sov_sp _ _ hb) tcs).o
  unfold eqZ0 eqZ1 eqR0 eqR1 eqS0 eqS1
  omega
theorem rabs_int {n B : Int} (h1 : -B ≤ n) (h2 : n ≤ B) : rabs (n : Rat) ≤ (B : Rat) := by
  have a := icast h1
  have b := icast h2
  push_cast at a
  exact rabs_le.2 ⟨b, a⟩
/-- The arc of the rectangle holds the direction, by the reference's test. -/
theorem eq_inArc {l0 l1 b0 b1 : Int} {zl zb : Rat} (p : Pt l0 l1 b0 b1 zl zb) {D0 L H : Rat} {E : Nat → Rat} (hv : ArcV (eqY0 l0 l1 b0 b1) (eqY1 l0 l1 b0 b1) (eqX0 l0 l1 b0 b1) (eqX1 l0 l1 b0 b1) D0 E L H)
    (hw : arcHi (eqY0 l0 l1 b0 b1) (eqY1 l0 l1 b0 b1) (eqX0 l0 l1 b0 b1) (eqX1 l0 l1 b0 b1) - arcLo (eqY0 l0 l1 b0 b1) (eqY1 l0 l1 b0 b1) (eqX0 l0 l1 b0 b1) (eqX1 l0 l1 b0 b1) ≤ 400000000) {u v : Int} (hu : rabs ((u : Rat) - uQ * pY zl zb) ≤ 100000000) (hv2 : rabs ((v : Rat) - uQ * pX zl zb) ≤ 100000000)
    (bu : rabs (u : Rat) ≤ 1160000000000000000) (bv : rabs (v : Rat) ≤ 1160000000000000000) :
    InArcOk (arcLo (eqY0 l0 l1 b0 b1) (eqY1 l0 l1 b0 b1) (eqX0 l0 l1 b0 b1) (eqX1 l0 l1 b0 b1) % 1000000000) (arcHi (eqY0 l0 l1 b0 b1) (eqY1 l0 l1 b0 b1) (eqX0 l0 l1 b0 b1) (eqX1 l0 l1 b0 b1) % 1000000000) u v := by
  obtain ⟨ix, iy, -⟩ := eq_in p
  have sx := eqX_sp p.hl p.hb
  have sy := eqY_bd p.hl p.hb
  generalize eqX0 l0 l1 b0 b1 = x0 at *
  generalize eqX1 l0 l1 b0 b1 = x1 at *
  generalize eqY0 l0 l1 b0 b1 = y0 at *
  generalize eqY1 l0 l1 b0 b1 = y1 at *
  have c1 := arc_corners hv hw (y := y0) (x := x0) (.inl rfl) (.inl rfl)
  have c2 := arc_corners hv hw (y := y1) (x := x0) (.inr rfl) (.inl rfl)
  have c3 := arc_corners hv hw (y := y0) (x := x1) (.inl rfl) (.inr rfl)
  have c4 := arc_corners hv hw (y := y1) (x := x1) (.inr rfl) (.inr rfl)
  have m1 := emod_bd (arcLo y0 y1 x0 x1)
  have m2 := emod_bd (arcHi y0 y1 x0 x1)
  have q1 := rabs_int (n := x0) (B := 1100000000) (by have := sx.b0; omega) (by have := sx.b1; have := sx.o; omega)
  have q2 := rabs_int (n := x1) (B := 1100000000) (by have := sx.b0; have := sx.o; omega) (by have := sx.b1; omega)
  have q3 := rabs_int (n := y0) (B := 1400000000) (by omega) (by omega)
  have q4 := rabs_int (n := y1) (B := 1400000000) (by omega) (by omega)
  have near := rect_near m1.1 m1.2 m2.1 m2.2 c1 c2 c3 c4 q1 q2 q3 q4 ix.1 ix.2 iy.1 iy.2
  refine inArc_near m1.1 m1.2 m2.1 m2.2 near ?_ ?_ bu bv
  · rw [show 1000000000 * pY zl zb / 1000000000 = pY zl zb by grind]; exact hu
  · rw [show 1000000000 * pX zl zb / 1000000000 = pX zl zb by grind]; exact hv2
/-- The declination's interval holds that of the point, by the reference's test. -/
theorem eq_inAsin {l0 l1 b0 b1 : Int} {zl zb : Rat} (p : Pt l0 l1 b0 b1 zl zb) {z : Int} (hz : rabs ((z : Rat) - uQ * pZ zl zb) ≤ 100000000) (bz : rabs (pZ zl zb) ≤ 1 + 1 / 1000000000) : InAsin (asLo (eqZ0 l0 l1 b0 b1)) (asHi (eqZ1 l0 l1 b0 b1)) z := by
  obtain ⟨-, -, i1, i2⟩ := eq_in p
  have bz := rabs_le.1 bz
  have cn : ((-1000000000 : Int) : Rat) = -1000000000 := rfl
  have cp : ((1000000000 : Int) : Rat) = 1000000000 := rfl
  have cl : ∀ a : Int, cl9 a = a ∨ (cl9 a = -1000000000 ∧ a ≤ -1000000000) ∨ (cl9 a = 1000000000 ∧ 1000000000 ≤ a) := by intro a; unfold cl9; omega
  refine inAsin_of hz ?_ ?_
  · have h := as_low (eqZ0 l0 l1 b0 b1) (z := pZ zl zb + 1 / 1000000000) (by
      rcases cl (eqZ0 l0 l1 b0 b1) with h | ⟨h, g⟩ | ⟨h, g⟩
      · rw [h]; grind
      · rw [h, cn]; grind
      · rw [h, cp]
        have g := icast g
        rw [cp] at g; grind)
    grind
  · have h := as_high (eqZ1 l0 l1 b0 b1) (z := pZ zl zb - 1 / 1000000000) (by
      rcases cl (eqZ1 l0 l1 b0 b1) with h | ⟨h, g⟩ | ⟨h, g⟩
      · rw [h]; grind
      · rw [h, cn]
        have g := icast g
        rw [cn] at g; grind
      · rw [h, cp]; grind)
    grind
/-- A small rectangle around a point off the axis. -/
theorem box_of {yl yh xl xh : Int} {x y A B r ρ κ : Rat} (ix : InU xl xh x (1/10)) (iy : InU yl yh y (1/10)) (hx : xl ≤ xh) (hy : yl ≤ yh) (wx : (xh : Rat) - xl ≤ A) (wy : (yh : Rat) - yl ≤ B) (bx : rabs x ≤ 1 + 1 / 1000000) (by' : rabs y ≤ 1 + 1 / 1000000)
    (hr : r ≤ x * x + y * y) (hρ : 100000000 ≤ ρ) (k0 : 0 ≤ κ) (k1 : κ ≤ 1/20) (hA : A ≤ 50000000) (hB : B ≤ 50000000) (hnum : ρ * ρ + 2100000000 * (A + B + 4/10) ≤ 1000000000000000000 * r) (hd : A * A + B * B ≤ κ * ρ * (κ * ρ)) : Box yl yh xl xh ρ κ := by
  obtain ⟨x1, x2⟩ := ix
  obtain ⟨y1, y2⟩ := iy
  have hx := icast hx
  have hy := icast hy
  have bx := rabs_le.1 bx
  have by' := rabs_le.1 by'
  have sq : ∀ z : Rat, 0 ≤ z * z := fun z => by rw [← rabs_sq]; exact Rat.mul_nonneg (rabs_nonneg z) (rabs_nonneg z)
  refine ⟨hρ, k0, k1, ?_, ?_⟩
  · intro x' y' hx' hy'
    have gx : rabs ((x' : Rat) - 1000000000 * x) ≤ A + 1/10 := by rcases hx' with rfl | rfl <;> exact rabs_le.2 ⟨by clear sq; grind, by clear sq; grind⟩
    have gy : rabs ((y' : Rat) - 1000000000 * y) ≤ B + 1/10 := by rcases hy' with rfl | rfl <;> exact rabs_le.2 ⟨by clear sq; grind, by clear sq; grind⟩
    have gx' := rabs_le.1 gx
    have gy' := rabs_le.1 gy
    refine ⟨rabs_le.2 ⟨by clear sq; grind, by clear sq; grind⟩, rabs_le.2 ⟨by clear sq; grind, by clear sq; grind⟩, ?_⟩
    have m1 := rabs_le.1 (mul_rabs (a := x) (rabs_le.2 bx) gx)
    have m2 := rabs_le.1 (mul_rabs (a := y) (rabs_le.2 by') gy)
    have s1 := sq ((x' : Rat) - 1000000000 * x)
    have s2 := sq ((y' : Rat) - 1000000000 * y)
    have e : (x' : Rat) * x' + (y' : Rat) * y' = 1000000000000000000 * (x * x + y * y) + 2000000000 * (x * ((x' : Rat) - 1000000000 * x)) + 2000000000 * (y * ((y' : Rat) - 1000000000 * y)) + ((x' : Rat) - 1000000000 * x) * ((x' : Rat) - 1000000000 * x) + ((y' : Rat) - 1000000000 * y) * ((y' : Rat) - 1000000000 * y) := by grind
    rw [e]
    generalize x * ((x' : Rat) - 1000000000 * x) = u at *
    generalize y * ((y' : Rat) - 1000000000 * y) = v at *
    generalize ((x' : Rat) - 1000000000 * x) * ((x' : Rat) - 1000000000 * x) = p at *
    generalize ((y' : Rat) - 1000000000 * y) * ((y' : Rat) - 1000000000 * y) = q at *
    generalize x * x + y * y = n at *
    generalize ρ * ρ = rr at *
    have A0 : 0 ≤ A + 1/10 := by have := rabs_nonneg ((x' : Rat) - 1000000000 * x); clear sq; grind
    have B0 : 0 ≤ B + 1/10 := by have := rabs_nonneg ((y' : Rat) - 1000000000 * y); clear sq; grind
    clear sq e gx gy gx' gy' hd
    grind
  · have a := sq_le_sq (show 0 ≤ (xh : Rat) - xl by clear sq; grind) wx
    have b := sq_le_sq (show 0 ≤ (yh : Rat) - yl by clear sq; grind) wy
    generalize κ * ρ * (κ * ρ) = K at *
    clear sq
    grind
theorem Box.off {yl yh xl xh : Int} {ρ κ : Rat} (b : Box yl yh xl xh ρ κ) : ¬ (yl ≤ 0 ∧ 0 ≤ yh ∧ xl ≤ 0 ∧ 0 ≤ xh) := by
  rintro ⟨h1, h2, h3, h4⟩
  obtain ⟨hr, k0, k1, hb, hd⟩ := b
  obtain ⟨-, -, hn⟩ := hb xl yl (.inl rfl) (.inl rfl)
  have h1 := icast h1
  have h2 := icast h2
  have h3 := icast h3
  have h4 := icast h4
  have c0 : ((0 : Int) : Rat) = 0 := rfl
  rw [c0] at h1 h2 h3 h4
  have a := sq_le_sq (show 0 ≤ -(xl : Rat) by grind) (show -(xl : Rat) ≤ (xh : Rat) - xl by grind)
  have c := sq_le_sq (show 0 ≤ -(yl : Rat) by grind) (show -(yl : Rat) ≤ (yh : Rat) - yl by grind)
  have p := Rat.mul_le_mul_of_nonneg_right k1 (show 0 ≤ ρ by grind)
  have q := sq_le_sq (Rat.mul_nonneg k0 (show 0 ≤ ρ by grind)) p
  have r2 := sq_le_sq (show (0 : Rat) ≤ 100000000 by grind) hr
  clear hb
  grind
theorem Box.narrow {yl yh xl xh : Int} {ρ κ D0 L H : Rat} {E : Nat → Rat} (b : Box yl yh xl xh ρ κ) (hv : ArcV yl yh xl xh D0 E L H) : arcHi yl yh xl xh - arcLo yl yh xl xh ≤ 400000000 := by
  have h := arc_wide b hv
  have k1 := b.k1
  obtain ⟨t1, t2, -⟩ := tq_num
  generalize arcHi yl yh xl xh - arcLo yl yh xl xh = n at *
  by_cases q : n ≤ 400000000
  · exact q
  · exfalso
    have := tq_le (icast (show 400000000 ≤ n by omega))
    have c : ((400000000 : Int) : Rat) = 400000000 := rfl
    rw [c] at this
    have lim : tq * 400000000 ≥ 2 := by decide +kernel
    grind
/-- The width of a converted interval. -/
theorem eq_widths {l0 l1 b0 b1 : Int} (hl : l0 ≤ l1) (hb : b0 ≤ b1) {wl wb : Rat} (h1 : 62832 / 10000 * ((l1 - l0 : Int) : Rat) + 225/100 ≤ wl) (h2 : 62832 / 10000 * ((b1 - b0 : Int) : Rat) + 225/100 ≤ wb) :
    ((eqX1 l0 l1 b0 b1 : Int) : Rat) - eqX0 l0 l1 b0 b1 ≤ wl + wb + 2 ∧ ((eqY1 l0 l1 b0 b1 : Int) : Rat) - eqY0 l0 l1 b0 b1 ≤ 9175/10000 * (wl + wb + 2) + 3978/10000 * wb + 6 ∧ ((eqZ1 l0 l1 b0 b1 : Int) : Rat) - eqZ0 l0 l1 b0 b1 ≤ 3978/10000 * (wl + wb + 2) + 9175/10000 * wb + 6 := by
  obtain ⟨-, -, tes, tcs⟩ := tilt_in
  have one : ∀ {l h : Int}, Sp1 l h → rabs (l : Rat) ≤ 1000000000 ∧ rabs (h : Rat) ≤ 1000000000 := by
    intro l h s
    obtain ⟨o, a, b⟩ := s
    exact ⟨rabs_int (B := 1000000000) (by omega) (by omega), rabs_int (B := 1000000000) (by omega) (by omega)⟩
  have v1 := (over_ok l0 l1 hl).w
  have v2 := (over_ok b0 b1 hb).w
  have v3 := (over_ok (covB l0) (covE l0 l1) (by unfold covB covE; omega)).w
  have v4 := (over_ok (covB b0) (covE b0 b1) (by unfold covB covE; omega)).w
  have w3 := icast (show covE l0 l1 - covB l0 ≤ l1 - l0 by unfold covB covE; omega)
  have w4 := icast (show covE b0 b1 - covB b0 ≤ b1 - b0 by unfold covB covE; omega)
  have sB := sov_sp _ _ hb
  have sL := sov_sp _ _ hl
  have cB := cov_sp hb
  have cL := cov_sp hl
  have A := eqA_sp hl hb
  have pa := prod_wide cB sL (one cB).1 (one cB).2 (one sL).1 (one sL).2
  have px := prod_wide cB cL (one cB).1 (one cB).2 (one cL).1 (one cL).2
  have t1 := rabs_int (n := 917482416) (B := 917482417) (by decide) (by decide)
  have t2 := rabs_int (n := 917482417) (B := 917482417) (by decide) (by decide)
  have t3 := rabs_int (n := 397776337) (B := 397776338) (by decide) (by decide)
  have t4 := rabs_int (n := 397776338) (B := 397776338) (by decide) (by decide)
  have pp := prod_wide A tcs (one A).1 (one A).2 t1 t2
  have pq := prod_wide sB tes (one sB).1 (one sB).2 t3 t4
  have pr := prod_wide A tes (one A).1 (one A).2 t3 t4
  have ps := prod_wide sB tcs (one sB).1 (one sB).2 t1 t2
  have n1 : ((917482417 : Int) : Rat) = 917482417 := rfl
  have n2 : ((917482416 : Int) : Rat) = 917482416 := rfl
  have n3 : ((397776338 : Int) : Rat) = 397776338 := rfl
  have n4 : ((397776337 : Int) : Rat) = 397776337 := rfl
  rw [n1, n2] at pp ps
  rw [n3, n4] at pq pr
  have oa := icast A.o
  have ob := icast sB.o
  clear t1 t2 t3 t4 n1 n2 n3 n4 one tes tcs A cL cB sL
  have fa : ((eqA1 l0 l1 b0 b1 : Int) : Rat) - eqA0 l0 l1 b0 b1 ≤ wl + wb + 2 := by
    unfold eqA0 eqA1
    clear pp pq pr ps px
    push_cast at pa v1 v2 v3 v4 w3 w4 h1 h2
    grind
  refine ⟨?_, ?_, ?_⟩
  · unfold eqX0 eqX1
    clear pa pp pq pr ps
    push_cast at px v1 v2 v3 v4 w3 w4 h1 h2
    grind
  · unfold eqY0 eqY1 eqP0 eqP1 eqQ0 eqQ1
    clear pa px pr ps v3 v4 w3 w4
    push_cast at pp pq v1 v2 h1 h2
    push_cast
    grind
  · unfold eqZ0 eqZ1 eqR0 eqR1 eqS0 eqS1
    clear pa px pp pq v3 v4 w3 w4
    push_cast at pr ps v1 v2 h1 h2
    push_cast
    grind
/-- The width of the interval of an arc sine. -/
theorem asin_wide {m n : Int} {s c0 : Rat} (hmn : m ≤ n) (m1 : -1000000000 ≤ m) (n1 : n ≤ 1000000000) (hm : rabs (m : Rat) ≤ 1000000000 * s) (hn : rabs (n : Rat) ≤ 1000000000 * s) (s1 : s ≤ 1) (hc : 1/10 ≤ c0) (hsc : c0 * c0 + (s + 1 / 1000000000) * (s + 1 / 1000000000) ≤ 1 - 1 / 1000000000) :
    c0 * (48/100) * (tq * ((asHi n - asLo m : Int) : Rat)) ≤ ((n - m : Int) : Rat) / 1000000000 + 2 / 100000000 := by
  have cm : cl9 m = m := by unfold cl9; omega
  have cn : cl9 n = n := by unfold cl9; omega
  obtain ⟨-, Dm, -, am, -, a1, a2, -, -⟩ := asin_run m m1 (by omega)
  obtain ⟨-, Dn, -, an, -, -, -, b3, b4⟩ := asin_run n (by omega) n1
  have lo : arLo (asinW m) ≤ asLo m := by unfold asLo; rw [cm]; omega
  have hi : asHi n ≤ arHi (asinW n) := by unfold asHi; rw [cn]; omega
  have lo := icast lo
  have hi := icast hi
  obtain ⟨t1, t2, -⟩ := tq_num
  have hp := pi_num
  have w : ((asHi n - asLo m : Int) : Rat) ≤ Dn - Dm + 3 := by push_cast; grind
  have w := tq_le w
  have hcn := icast hmn
  have s0 : 0 ≤ s := by have := rabs_nonneg (m : Rat); grind
  have c1 : c0 ≤ 1 := by
    by_cases q : c0 ≤ 1
    · exact q
    · exfalso
      have := sq_le_sq (show (0 : Rat) ≤ 1 by decide +kernel) (show 1 ≤ c0 by grind)
      have := Rat.mul_nonneg (show 0 ≤ s + 1 / 1000000000 by grind) (show 0 ≤ s + 1 / 1000000000 by grind)
      grind
  by_cases h : Dn ≤ Dm
  · have := tq_le (show Dn - Dm + 3 ≤ 3 by grind)
    have w2 : tq * ((asHi n - asLo m : Int) : Rat) ≤ 2 / 100000000 := by grind
    have k : 0 ≤ c0 * (48/100) := by grind
    have m2 := Rat.mul_le_mul_of_nonneg_left w2 k
    push_cast
    push_cast at m2
    grind
  · have bm := rabs_le.1 am.b
    have bn := rabs_le.1 an.b
    have sm := rabs_le.1 am.s
    have sn := rabs_le.1 an.s
    have hm := rabs_le.1 hm
    have hn := rabs_le.1 hn
    have dd := tq_le (show 0 ≤ Dn - Dm by grind)
    obtain ⟨x, hx⟩ : ∃ x, tq * Dm = x := ⟨_, rfl⟩
    obtain ⟨y, hy⟩ : ∃ y, tq * Dn = y := ⟨_, rfl⟩
    rw [hx] at bm sm
    rw [hy] at bn sn
    have xy : x ≤ y := by grind
    obtain ⟨e1, -⟩ := sin_diff (m := (x + y) / 2) (d := (y - x) / 2) (rabs_le.2 ⟨by grind, by grind⟩) (rabs_le.2 ⟨by grind, by grind⟩)
    rw [show (x + y) / 2 + (y - x) / 2 = y by grind, show (x + y) / 2 - (y - x) / 2 = x by grind] at e1
    have e1 := rabs_le.1 e1
    have q1 := sin_mono (x := x) (y := (x + y) / 2) (by grind) (rabs_le.2 ⟨by grind, by grind⟩) (rabs_le.2 ⟨by grind, by grind⟩)
    have q2 := sin_mono (x := (x + y) / 2) (y := y) (by grind) (rabs_le.2 ⟨by grind, by grind⟩) (rabs_le.2 ⟨by grind, by grind⟩)
    have cu := C_up (d := 1 / 1000000000) (x := (x + y) / 2) (by grind) (by grind) (by grind) (by grind)
    have ci := rabs_le.1 (circ9 (y := (x + y) / 2) (rabs_le.2 ⟨by grind, by grind⟩))
    have sl := (S_lin (x := (y - x) / 2) (by grind) (by grind)).1
    have sb : rabs (S ((x + y) / 2)) ≤ s + 1 / 1000000000 := rabs_le.2 ⟨by grind, by grind⟩
    have sq := sq_le_sq (rabs_nonneg _) sb
    rw [rabs_sq] at sq
    generalize S ((x + y) / 2) = sM at *
    generalize C ((x + y) / 2) = cM at *
    generalize S ((y - x) / 2) = sD at *
    have cc : c0 * c0 ≤ rabs cM * rabs cM := by rw [rabs_sq]; grind
    have c2 := (rabs_le.1 (sq_rabs (rabs_nonneg cM) cc)).1
    have c3 : c0 ≤ cM := by
      unfold rabs at c2
      split at c2
      · exact c2
      · grind
    have d0 : 0 ≤ (y - x) / 2 := by grind
    have d1 : 48/100 * ((y - x) / 2) ≤ sD := by grind
    have p1 := Rat.mul_le_mul_of_nonneg_right c3 (show 0 ≤ sD by grind)
    have p2 := Rat.mul_le_mul_of_nonneg_left d1 (show 0 ≤ c0 by grind)
    have fin : c0 * (48/100) * (y - x) ≤ ((n : Rat) - m) / 1000000000 + 3 / 10000000000 := by grind
    have k : 0 ≤ c0 * (48/100) := by grind
    have w2 : tq * ((asHi n - asLo m : Int) : Rat) ≤ (y - x) + 19 / 1000000000 := by rw [← hx, ← hy]; grind
    have m2 := Rat.mul_le_mul_of_nonneg_left w2 k
    push_cast
    push_cast at m2
    clear w w2 p1 p2 e1 q1 q2 cu ci sl sb sq cc c2 lo hi a1 a2 b3 b4
    grind
end Go.Proofs.YtaaiamcpdicnhaaDoor
