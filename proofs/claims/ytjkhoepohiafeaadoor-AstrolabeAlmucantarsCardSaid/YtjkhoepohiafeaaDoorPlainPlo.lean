/- The direction of a planet from the earth: the interval of its angle. No program in sight. -/
import Derived.Test.YtjkhoepohiafeaaDoorSnA
import Derived.Test.YtjkhoepohiafeaaDoorPlainHead
import Derived.Test.YtjkhoepohiafeaaDoorPlainPt
set_option linter.unusedVariables false
set_option linter.unusedSimpArgs false
namespace Go.Proofs.YtjkhoepohiafeaaDoor
open Ieee
/-- The angle of an argument is held by an interval that holds its whole sum. -/
theorem kl_argP {a lo hi : Int} (a0 : 0 ≤ a) (a1 : a < 1000000000000000) (hn : hi - lo ≤ 100000000) (h : (a / 1000000 * 1048576 + a % 1000000 * 1048576 / 1000000 - lo * 1048576 + 2000) % 1048576000000000 ≤ (hi - lo) * 1048576 + 4000) : ∃ k : Int, (lo : Rat) - 1/500 ≤ zA a + (k : Rat) * 1000000000 ∧ zA a + (k : Rat) * 1000000000 ≤ (hi : Rat) + 1/500 := by
  generalize hm : a / 1000000 * 1048576 + a % 1000000 * 1048576 / 1000000 = m at *
  have b1 : m * 1000000 ≤ a * 1048576 := by omega
  have b2 : a * 1048576 < m * 1000000 + 1000000 := by omega
  refine ⟨-((m - lo * 1048576 + 2000) / 1048576000000000), ?_⟩
  have e := Int.emod_add_mul_ediv (m - lo * 1048576 + 2000) 1048576000000000
  have r0 := Int.emod_nonneg (m - lo * 1048576 + 2000) (show (1048576000000000 : Int) ≠ 0 by decide)
  generalize (m - lo * 1048576 + 2000) / 1048576000000000 = q at *
  generalize (m - lo * 1048576 + 2000) % 1048576000000000 = r at *
  have c1 := icast (show lo * 1048576 - 2000 ≤ m - 1048576000000000 * q by omega)
  have c2 := icast (show m - 1048576000000000 * q ≤ hi * 1048576 + 2000 by omega)
  have c3 := icast b1
  have c4 := icast (show a * 1048576 ≤ m * 1000000 + 1000000 by omega)
  push_cast at c1 c2 c3 c4
  push_cast
  unfold zA
  constructor <;> grind
theorem rabs_tm {t a : Rat} (ht : 0 ≤ t) : rabs (t * a) = t * rabs a := by rw [rabs_mul, rabs_pos ht]
theorem angle_pairT {xi yi xj yj : Int} {Di Dj ρ κ t : Rat} (t0 : 0 ≤ t) (hi : HeadI xi yi Di) (hj : HeadI xj yj Dj) (hρ : 100000000 ≤ ρ) (k0 : 0 ≤ κ) (k1 : κ ≤ 1/20) (bi : rabs (t * (xi : Rat)) + rabs (t * (yi : Rat)) ≤ 2200000000) (bj : rabs (t * (xj : Rat)) + rabs (t * (yj : Rat)) ≤ 2200000000)
    (ri : ρ * ρ ≤ (t * (xi : Rat)) * (t * xi) + (t * (yi : Rat)) * (t * yi)) (rj : ρ * ρ ≤ (t * (xj : Rat)) * (t * xj) + (t * (yj : Rat)) * (t * yj)) (hd : (t * (xj : Rat) - t * xi) * (t * (xj : Rat) - t * xi) + (t * (yj : Rat) - t * yi) * (t * (yj : Rat) - t * yi) ≤ κ * ρ * (κ * ρ)) :
    ∃ n : Int, rabs (tq * (Di - Dj) - (n : Rat) * (2 * piQ)) ≤ κ * (1004/1000) + 1 / 100000000 := by
  obtain ⟨ni, pi, di⟩ := hi
  obtain ⟨nj, pj, dj⟩ := hj
  obtain ⟨t1, t2, -⟩ := tq_num
  have ht : rabs tq ≤ 628319 / 100000000000000 := rabs_le.2 ⟨by grind, by grind⟩
  have ai : rabs (tq * Di) ≤ 16/5 := by have := mul_rabs ht di; grind
  have aj : rabs (tq * Dj) ≤ 16/5 := by have := mul_rabs ht dj; grind
  have ai' := rabs_le.1 (mul_rabs ht di)
  have aj' := rabs_le.1 (mul_rabs ht dj)
  have mi : rabs (t * (xi : Rat) * S (tq * Di) - t * (yi : Rat) * C (tq * Di)) ≤ 12/100 := by
    rw [show t * (xi : Rat) * S (tq * Di) - t * (yi : Rat) * C (tq * Di) = t * ((xi : Rat) * S (tq * Di) - (yi : Rat) * C (tq * Di)) by grind, rabs_tm t0]
    have := Rat.mul_le_mul_of_nonneg_left ni t0
    rw [rabs_tm t0, rabs_tm t0] at bi
    grind
  have mj : rabs (t * (xj : Rat) * S (tq * Dj) - t * (yj : Rat) * C (tq * Dj)) ≤ 12/100 := by
    rw [show t * (xj : Rat) * S (tq * Dj) - t * (yj : Rat) * C (tq * Dj) = t * ((xj : Rat) * S (tq * Dj) - (yj : Rat) * C (tq * Dj)) by grind, rabs_tm t0]
    have := Rat.mul_le_mul_of_nonneg_left nj t0
    rw [rabs_tm t0, rabs_tm t0] at bj
    grind
  have qi : 0 ≤ t * (xi : Rat) * C (tq * Di) + t * (yi : Rat) * S (tq * Di) := by
    have a := rabs_nonneg (xi : Rat)
    have b := rabs_nonneg (yi : Rat)
    have := Rat.mul_nonneg t0 (show 0 ≤ (xi : Rat) * C (tq * Di) + (yi : Rat) * S (tq * Di) by grind)
    grind
  have qj : 0 ≤ t * (xj : Rat) * C (tq * Dj) + t * (yj : Rat) * S (tq * Dj) := by
    have a := rabs_nonneg (xj : Rat)
    have b := rabs_nonneg (yj : Rat)
    have := Rat.mul_nonneg t0 (show 0 ≤ (xj : Rat) * C (tq * Dj) + (yj : Rat) * S (tq * Dj) by grind)
    grind
  obtain ⟨g1, g2⟩ := pair_alg (circ9 ai) (circ9 aj) rfl rfl rfl rfl mi mj qi qj hρ k0 k1 ri rj hd
  have e1 := rabs_le.1 (sin_sub (x := tq * Di) (y := tq * Dj) (by grind) aj)
  have e2 := rabs_le.1 (cos_sub (x := tq * Di) (y := tq * Dj) (by grind) aj)
  have g1 := rabs_le.1 g1
  have e : tq * (Di - Dj) = tq * Di - tq * Dj := by grind
  clear mi mj qi qj ri rj hd bi bj ni nj pi pj
  obtain ⟨n, -, -, hn⟩ := small_angle (δ := tq * Di - tq * Dj) (σ := κ + 4 / 1000000000) (rabs_le.2 ⟨by grind, by grind⟩) (rabs_le.2 ⟨by grind, by grind⟩) (by grind) (by grind)
  refine ⟨n, ?_⟩
  rw [e]
  grind
/-- A rectangle far from the origin, in another measure. -/
structure BoxT (yl yh xl xh : Int) (ρ κ t : Rat) : Prop where
  t0 : 0 ≤ t
  r : 100000000 ≤ ρ
  k0 : 0 ≤ κ
  k1 : κ ≤ 1/20
  b : ∀ x y : Int, (x = xl ∨ x = xh) → (y = yl ∨ y = yh) → rabs (t * (x : Rat)) ≤ 1100000000 ∧ rabs (t * (y : Rat)) ≤ 1100000000 ∧ ρ * ρ ≤ (t * (x : Rat)) * (t * x) + (t * (y : Rat)) * (t * y)
  d : ((xh : Rat) - xl) * ((xh : Rat) - xl) * (t * t) + ((yh : Rat) - yl) * ((yh : Rat) - yl) * (t * t) ≤ κ * ρ * (κ * ρ)
theorem cn_pairT {yl yh xl xh : Int} {D0 E F ρ κ t : Rat} (hb : BoxT yl yh xl xh ρ κ t) (he : Cn yl yh xl xh D0 E) (hf : Cn yl yh xl xh D0 F) (hs : rabs (tq * (E - F)) ≤ 4) : rabs (tq * (E - F)) ≤ κ * (1004/1000) + 2 / 100000000 := by
  obtain ⟨x, y, D, j, hx, hy, hd, he1, he2⟩ := he
  obtain ⟨x', y', D', j', hx', hy', hd', hf1, hf2⟩ := hf
  obtain ⟨t0, hr, hk0, hk1, hbb, hdd⟩ := hb
  obtain ⟨b1, b2, b3⟩ := hbb x y hx hy
  obtain ⟨c1, c2, c3⟩ := hbb x' y' hx' hy'
  have q1 := Rat.mul_le_mul_of_nonneg_right (sq_diff hx hx') (Rat.mul_nonneg t0 t0)
  have q2 := Rat.mul_le_mul_of_nonneg_right (sq_diff hy hy') (Rat.mul_nonneg t0 t0)
  obtain ⟨n, hn⟩ := angle_pairT t0 hd hd' hr hk0 hk1 (by grind) (by grind) b3 c3 (by grind)
  clear b1 b2 b3 c1 c2 c3 q1 q2 hdd hbb
  obtain ⟨t1, t2, -⟩ := tq_num
  have ht : rabs tq ≤ 628319 / 100000000000000 := rabs_le.2 ⟨by grind, by grind⟩
  have hdif : rabs ((E - F) - (D - D') - ((j - j' : Int) : Rat) * 1000000000) ≤ 8 / 10000000 := by
    have a := rabs_le.1 he1
    have b := rabs_le.1 hf1
    rw [rabs_le]; push_cast
    constructor <;> grind
  have m := rabs_le.1 (mul_rabs ht hdif)
  have e : tq * ((E - F) - (D - D') - ((j - j' : Int) : Rat) * 1000000000) = tq * (E - F) - tq * (D - D') - ((j - j' : Int) : Rat) * (2 * piQ) := by rw [← tq_turn]; grind
  rw [e] at m
  have hn := rabs_le.1 hn
  have z : n + (j - j') = 0 := by
    refine turn_zero (z := tq * (E - F)) ?_ hs
    rw [rabs_le]; push_cast; push_cast at m
    constructor <;> grind
  have z2 : ((j - j' : Int) : Rat) = -(n : Rat) := by
    have : j - j' = -n := by omega
    rw [this]; push_cast; rfl
  rw [z2] at m
  rw [rabs_le]
  constructor <;> grind
theorem arc_wideT {yl yh xl xh : Int} {D0 L H ρ κ t : Rat} {E : Nat → Rat} (hb : BoxT yl yh xl xh ρ κ t) (hv : ArcV yl yh xl xh D0 E L H) : tq * ((arcHi yl yh xl xh - arcLo yl yh xl xh : Int) : Rat) ≤ κ * (1004/1000) + 1 / 10000000 := by
  obtain ⟨h0, hk, bE, l0, lk, le, g0, gk, ge, lo1, lo2, hi1, hi2⟩ := hv
  obtain ⟨t1, t2, -⟩ := tq_num
  have ht : rabs tq ≤ 628319 / 100000000000000 := rabs_le.2 ⟨by grind, by grind⟩
  have z0 : ((0 : Int) : Rat) = 0 := rfl
  have base : Cn yl yh xl xh D0 0 := ⟨xl, yl, D0, 0, .inl rfl, .inl rfl, h0, by rw [z0, show D0 + 0 - (D0 + 0 * 1000000000) = 0 by grind]; decide +kernel, by decide +kernel⟩
  have arcC_in : ∀ k, ((arcC yl yh xl xh k).2 = xl ∨ (arcC yl yh xl xh k).2 = xh) ∧ ((arcC yl yh xl xh k).1 = yl ∨ (arcC yl yh xl xh k).1 = yh) := by
    intro k; unfold arcC; split <;> simp
  have crn : ∀ k, k < 3 → Cn yl yh xl xh D0 (E k) := by
    intro k hk3
    obtain ⟨D, j, d1, d2⟩ := hk k hk3
    exact ⟨_, _, D, j, (arcC_in k).1, (arcC_in k).2, d1, d2, bE k hk3⟩
  have small : ∀ k, k < 3 → rabs (tq * E k) ≤ 1/10 := by
    intro k hk3
    have m := mul_rabs ht (bE k hk3)
    have c := cn_pairT hb (crn k hk3) base (by rw [show E k - 0 = E k by grind]; grind)
    rw [show E k - 0 = E k by grind] at c
    have := hb.k1
    grind
  have pr : ∀ A B : Rat, (A = 0 ∨ ∃ k, k < 3 ∧ A = E k) → (B = 0 ∨ ∃ k, k < 3 ∧ B = E k) → rabs (tq * (A - B)) ≤ κ * (1004/1000) + 2 / 100000000 := by
    have c : ∀ A : Rat, (A = 0 ∨ ∃ k, k < 3 ∧ A = E k) → Cn yl yh xl xh D0 A ∧ rabs (tq * A) ≤ 1/10 := by
      intro A hA
      rcases hA with rfl | ⟨k, k3, rfl⟩
      · exact ⟨base, by rw [show tq * 0 = 0 by grind]; decide +kernel⟩
      · exact ⟨crn k k3, small k k3⟩
    intro A B hA hB
    obtain ⟨a1, a2⟩ := c A hA
    obtain ⟨b1, b2⟩ := c B hB
    have a2 := rabs_le.1 a2
    have b2 := rabs_le.1 b2
    exact cn_pairT hb a1 b1 (rabs_le.2 ⟨by grind, by grind⟩)
  have p := (rabs_le.1 (pr H L ge le)).1
  have w : ((arcHi yl yh xl xh - arcLo yl yh xl xh : Int) : Rat) ≤ H - L + 3 := by push_cast; grind
  have := tq_le w
  grind
/-- The length of a corner of a rectangle that holds a far point. -/
theorem far_corner {X Y x y P D : Rat} (hP : P * P ≤ X * X + Y * Y) (hd : (x - X) * (x - X) + (y - Y) * (y - Y) ≤ D * D) (d0 : 0 ≤ D) (hpd : D ≤ P) : (P - D) * (P - D) ≤ x * x + y * y := by
  by_cases q : (P - D) * (P - D) ≤ x * x + y * y
  · exact q
  · exfalso
    have cs : (x * (x - X) + y * (y - Y)) * (x * (x - X) + y * (y - Y)) ≤ (x * x + y * y) * ((x - X) * (x - X) + (y - Y) * (y - Y)) := by
      have s : 0 ≤ (x * (y - Y) - y * (x - X)) * (x * (y - Y) - y * (x - X)) := by rw [← rabs_sq]; exact Rat.mul_nonneg (rabs_nonneg _) (rabs_nonneg _)
      grind
    have n1 : 0 ≤ (x - X) * (x - X) + (y - Y) * (y - Y) := by
      have a : 0 ≤ (x - X) * (x - X) := by rw [← rabs_sq]; exact Rat.mul_nonneg (rabs_nonneg _) (rabs_nonneg _)
      have b : 0 ≤ (y - Y) * (y - Y) := by rw [← rabs_sq]; exact Rat.mul_nonneg (rabs_nonneg _) (rabs_nonneg _)
      grind
    have m1 := Rat.mul_le_mul_of_nonneg_right (show x * x + y * y ≤ (P - D) * (P - D) by grind) n1
    have m2 := Rat.mul_le_mul_of_nonneg_left hd (show 0 ≤ (P - D) * (P - D) from Rat.mul_nonneg (by grind) (by grind))
    have b := sq_rabs (a := x * (x - X) + y * (y - Y)) (b := (P - D) * D) (Rat.mul_nonneg (by grind) d0) (by grind)
    have b := rabs_le.1 b
    generalize hu : x * (x - X) + y * (y - Y) = u at *
    have e : X * X + Y * Y = (x * x + y * y) - 2 * u + ((x - X) * (x - X) + (y - Y) * (y - Y)) := by rw [← hu]; grind
    grind
/-- The true parts, in millionths of a millionth. -/
def pvY (r : Rat) (p s : Rat) : Rat := 1000000000 * (r * S (tq * p) + 1000 * S (tq * s))
def pvX (r : Rat) (p s : Rat) : Rat := 1000000000 * (r * C (tq * p) + 1000 * C (tq * s))
def ploY0 (r a0 a1 b0 b1 : Int) : Int := r * sovLo a0 a1 + 1000 * sovLo b0 b1
def ploY1 (r a0 a1 b0 b1 : Int) : Int := r * sovHi a0 a1 + 1000 * sovHi b0 b1
def ploX0 (r a0 a1 b0 b1 : Int) : Int := r * sovLo (covB a0) (covE a0 a1) + 1000 * sovLo (covB b0) (covE b0 b1)
def ploX1 (r a0 a1 b0 b1 : Int) : Int := r * sovHi (covB a0) (covE a0 a1) + 1000 * sovHi (covB b0) (covE b0 b1)
/-- A planet's angle and the sun's, with their intervals. -/
structure PlT (r a0 a1 b0 b1 : Int) (p s : Rat) : Prop where
  r0 : 0 < r
  r1 : r ≤ 9537
  ha : a0 ≤ a1
  wa : a1 - a0 ≤ 10004
  hb : b0 ≤ b1
  wb : b1 - b0 ≤ 4010
  p0 : 0 ≤ p
  p1 : p ≤ 1000000000
  s0 : 0 ≤ s
  s1 : s ≤ 1000000000
  kp : ∃ k : Int, (a0 : Rat) - 1/500 ≤ p + (k : Rat) * 1000000000 ∧ p + (k : Rat) * 1000000000 ≤ (a1 : Rat) + 1/500
  ks : ∃ k : Int, (b0 : Rat) - 1/500 ≤ s + (k : Rat) * 1000000000 ∧ s + (k : Rat) * 1000000000 ≤ (b1 : Rat) + 1/500
theorem lin_in {r P0 P1 S0 S1 : Int} {x y : Rat} (r0 : 0 < r) (hp : InU P0 P1 x (25/1000)) (hs : InU S0 S1 y (25/1000)) : ((r * P0 + 1000 * S0 : Int) : Rat) - ((r : Rat) + 1000) * (25/1000) ≤ 1000000000 * ((r : Rat) * x + 1000 * y) ∧ 1000000000 * ((r : Rat) * x + 1000 * y) ≤ ((r * P1 + 1000 * S1 : Int) : Rat) + ((r : Rat) + 1000) * (25/1000) := by
  have q : (0 : Rat) ≤ (r : Rat) := by exact_mod_cast (show 0 ≤ r by omega)
  obtain ⟨h1, h2⟩ := hp
  obtain ⟨h3, h4⟩ := hs
  have m1 := Rat.mul_le_mul_of_nonneg_left h1 q
  have m2 := Rat.mul_le_mul_of_nonneg_left h2 q
  push_cast
  constructor <;> grind
theorem plo_in {r a0 a1 b0 b1 : Int} {p s : Rat} (h : PlT r a0 a1 b0 b1 p s) :
    ((ploY0 r a0 a1 b0 b1 : Int) : Rat) - ((r : Rat) + 1000) * (25/1000) ≤ pvY r p s ∧ pvY r p s ≤ ((ploY1 r a0 a1 b0 b1 : Int) : Rat) + ((r : Rat) + 1000) * (25/1000) ∧
    ((ploX0 r a0 a1 b0 b1 : Int) : Rat) - ((r : Rat) + 1000) * (25/1000) ≤ pvX r p s ∧ pvX r p s ≤ ((ploX1 r a0 a1 b0 b1 : Int) : Rat) + ((r : Rat) + 1000) * (25/1000) := by
  obtain ⟨k, k1, k2⟩ := h.kp
  obtain ⟨m, m1, m2⟩ := h.ks
  have A := (over_any h.ha h.p0 h.p1 k1 k2).1
  have B := cov_any h.ha h.p0 h.p1 k1 k2
  have A' := (over_any h.hb h.s0 h.s1 m1 m2).1
  have B' := cov_any h.hb h.s0 h.s1 m1 m2
  have y := lin_in h.r0 A A'
  have x := lin_in h.r0 B B'
  exact ⟨y.1, y.2, x.1, x.2⟩
theorem lin_bd {r u v : Int} (r0 : 0 < r) (r1 : r ≤ 9537) (u0 : -1000000000 ≤ u) (u1 : u ≤ 1000000000) (v0 : -1000000000 ≤ v) (v1 : v ≤ 1000000000) : -(1000000000 * (r + 1000)) ≤ r * u + 1000 * v ∧ r * u + 1000 * v ≤ 1000000000 * (r + 1000) := by
  have m1 := Int.mul_le_mul_of_nonneg_left u0 (show 0 ≤ r by omega)
  have m2 := Int.mul_le_mul_of_nonneg_left u1 (show 0 ≤ r by omega)
  omega
theorem plo_bd {r a0 a1 b0 b1 : Int} {p s : Rat} (h : PlT r a0 a1 b0 b1 p s) :
    (ploY0 r a0 a1 b0 b1 ≤ ploY1 r a0 a1 b0 b1 ∧ ploX0 r a0 a1 b0 b1 ≤ ploX1 r a0 a1 b0 b1) ∧
    (ploY1 r a0 a1 b0 b1 - ploY0 r a0 a1 b0 b1 ≤ 70031 * r + 28073000 ∧ ploX1 r a0 a1 b0 b1 - ploX0 r a0 a1 b0 b1 ≤ 70031 * r + 28073000) ∧
    (-(1000000000 * (r + 1000)) ≤ ploY0 r a0 a1 b0 b1 ∧ ploY1 r a0 a1 b0 b1 ≤ 1000000000 * (r + 1000) ∧ -(1000000000 * (r + 1000)) ≤ ploX0 r a0 a1 b0 b1 ∧ ploX1 r a0 a1 b0 b1 ≤ 1000000000 * (r + 1000)) := by
  obtain ⟨r0, r1, ha, wa, hb, wb, -, -, -, -, -, -⟩ := h
  have A := sov_sp a0 a1 ha
  have B := sov_sp b0 b1 hb
  have A' := cov_sp ha
  have B' := cov_sp hb
  obtain ⟨w1, w2⟩ := over_wide a0 a1 ha (by omega)
  obtain ⟨w3, w4⟩ := over_wide b0 b1 hb (by omega)
  unfold ploY0 ploY1 ploX0 ploX1
  obtain ⟨A1, A2, A3⟩ := A
  obtain ⟨B1, B2, B3⟩ := B
  obtain ⟨A1', A2', A3'⟩ := A'
  obtain ⟨B1', B2', B3'⟩ := B'
  generalize sovLo a0 a1 = p0 at *
  generalize sovHi a0 a1 = p1 at *
  generalize sovLo b0 b1 = s0 at *
  generalize sovHi b0 b1 = s1 at *
  generalize sovLo (covB a0) (covE a0 a1) = c0 at *
  generalize sovHi (covB a0) (covE a0 a1) = c1 at *
  generalize sovLo (covB b0) (covE b0 b1) = d0 at *
  generalize sovHi (covB b0) (covE b0 b1) = d1 at *
  have m1 := Int.mul_le_mul_of_nonneg_left A1 (show 0 ≤ r by omega)
  have m2 := Int.mul_le_mul_of_nonneg_left A1' (show 0 ≤ r by omega)
  have m3 := Int.mul_le_mul_of_nonneg_left (show p1 - p0 ≤ 70031 by omega) (show 0 ≤ r by omega)
  have m4 := Int.mul_le_mul_of_nonneg_left (show c1 - c0 ≤ 70031 by omega) (show 0 ≤ r by omega)
  rw [Int.mul_sub] at m3 m4
  have y0 := (lin_bd (u := p0) (v := s0) r0 r1 (by omega) (by omega) (by omega) (by omega)).1
  have y1 := (lin_bd (u := p1) (v := s1) r0 r1 (by omega) (by omega) (by omega) (by omega)).2
  have x0 := (lin_bd (u := c0) (v := d0) r0 r1 (by omega) (by omega) (by omega) (by omega)).1
  have x1 := (lin_bd (u := c1) (v := d1) r0 r1 (by omega) (by omega) (by omega) (by omega)).2
  refine ⟨⟨by omega, by omega⟩, ⟨by omega, by omega⟩, y0, y1, x0, x1⟩
/-- The distance of a planet is at least the difference of the radii. -/
theorem pv_len {r p s : Rat} (r0 : 0 ≤ r) (r1 : r ≤ 9537) (p0 : 0 ≤ p) (p1 : p ≤ 1000000000) (s0 : 0 ≤ s) (s1 : s ≤ 1000000000) : (r - 1000) * (r - 1000) - 1 / 100 ≤ (r * S (tq * p) + 1000 * S (tq * s)) * (r * S (tq * p) + 1000 * S (tq * s)) + (r * C (tq * p) + 1000 * C (tq * s)) * (r * C (tq * p) + 1000 * C (tq * s)) := by
  have cp := rabs_le.1 (circT p0 p1)
  have cs := rabs_le.1 (circT s0 s1)
  generalize S (tq * p) = a at *
  generalize C (tq * p) = b at *
  generalize S (tq * s) = c at *
  generalize C (tq * s) = d at *
  have sq : ∀ z : Rat, 0 ≤ z * z := fun z => by rw [← rabs_sq]; exact Rat.mul_nonneg (rabs_nonneg z) (rabs_nonneg z)
  have k1 := sq (a + c)
  have k2 := sq (b + d)
  have m : -(1 + 1 / 100000000000) ≤ a * c + b * d := by grind
  have q1 := Rat.mul_le_mul_of_nonneg_left m r0
  have q2 := Rat.mul_le_mul_of_nonneg_left (show 1 - 1 / 100000000000 ≤ a * a + b * b by grind) (Rat.mul_nonneg r0 r0)
  have q3 := Rat.mul_le_mul_of_nonneg_left r1 r0
  have e : (r * a + 1000 * c) * (r * a + 1000 * c) + (r * b + 1000 * d) * (r * b + 1000 * d) = r * r * (a * a + b * b) + 1000000 * (c * c + d * d) + 2000 * (r * (a * c + b * d)) := by grind
  rw [e]
  grind
end Go.Proofs.YtjkhoepohiafeaaDoor
