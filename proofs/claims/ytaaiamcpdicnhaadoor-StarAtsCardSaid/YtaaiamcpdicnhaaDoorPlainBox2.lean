/- The arc of a small rectangle is narrow. No program in sight. -/
import Derived.Test.YtaaiamcpdicnhaaDoorPlainBox
set_option linter.unusedVariables false
set_option linter.unusedSimpArgs false
namespace Go.Proofs.YtaaiamcpdicnhaaDoor
open Ieee
theorem sq_rabs {a b : Rat} (b0 : 0 ≤ b) (h : a * a ≤ b * b) : rabs a ≤ b := by
  rw [rabs_le]
  constructor
  · by_cases q : a ≤ b
    · exact q
    · exfalso
      have h1 := Rat.mul_lt_mul_of_pos_right (show b < a by grind) (show 0 < a by grind)
      have h2 := Rat.mul_le_mul_of_nonneg_left (show b ≤ a by grind) b0
      grind
  · by_cases q : -b ≤ a
    · exact q
    · exfalso
      have h1 := Rat.mul_lt_mul_of_pos_right (show b < -a by grind) (show 0 < -a by grind)
      have h2 := Rat.mul_le_mul_of_nonneg_left (show b ≤ -a by grind) b0
      grind
theorem sq_le_sq {a b : Rat} (a0 : 0 ≤ a) (h : a ≤ b) : a * a ≤ b * b := by
  have h1 := Rat.mul_le_mul_of_nonneg_left h a0
  have h2 := Rat.mul_le_mul_of_nonneg_right h (show 0 ≤ b by grind)
  grind
/-- The length of a direction along its own angle. -/
theorem head_len {x y s c ρ nn r : Rat} (hc : rabs (s * s + c * c - 1) ≤ 1 / 1000000000000000) (en : x * s - y * c = nn) (er : x * c + y * s = r) (hn : rabs nn ≤ 12/100) (r0 : 0 ≤ r) (hρ : 100000000 ≤ ρ) (hq : ρ * ρ ≤ x * x + y * y) : ρ * (1 - 1 / 1000000000) ≤ r := by
  have e : r * r + nn * nn = (x * x + y * y) * (s * s + c * c) := by rw [← en, ← er]; grind
  have hc := rabs_le.1 hc
  have n2 := mul_rabs hn hn
  have n2 := (rabs_le.1 n2).1
  have p0 := Rat.mul_nonneg (show 0 ≤ ρ by grind) (show 0 ≤ ρ by grind)
  have q1 := Rat.mul_le_mul_of_nonneg_left (show 1 - 1 / 1000000000000000 ≤ s * s + c * c by grind) (show 0 ≤ x * x + y * y by grind)
  have q2 := sq_le_sq (show (0 : Rat) ≤ 100000000 by grind) hρ
  have k : (ρ * (1 - 1 / 1000000000)) * (ρ * (1 - 1 / 1000000000)) ≤ r * r := by
    have e2 : (ρ * (1 - 1 / 1000000000)) * (ρ * (1 - 1 / 1000000000)) = ρ * ρ * (1 - 2 / 1000000000 + 1 / 1000000000000000000) := by grind
    rw [e2]
    generalize ρ * ρ = P at *
    generalize x * x + y * y = Q at *
    generalize r * r = R at *
    generalize nn * nn = N at *
    generalize s * s + c * c = W at *
    generalize Q * W = QW at *
    grind
  have m := sq_rabs r0 k
  exact (rabs_le.1 m).1
theorem proj_bd {dx dy s c p : Rat} (hc : rabs (s * s + c * c - 1) ≤ 1 / 1000000000000000) (p0 : 0 ≤ p) (hd : dx * dx + dy * dy ≤ p * p) : rabs (dy * c - dx * s) ≤ p * (1 + 1 / 1000000000) ∧ rabs (dx * c + dy * s) ≤ p * (1 + 1 / 1000000000) := by
  have hc := rabs_le.1 hc
  have q0 := Rat.mul_nonneg p0 p0
  have sq : ∀ z : Rat, 0 ≤ z * z := fun z => by rw [← rabs_sq]; exact Rat.mul_nonneg (rabs_nonneg z) (rabs_nonneg z)
  have s1 := sq (dy * c - dx * s)
  have s2 := sq (dx * c + dy * s)
  have e : (dy * c - dx * s) * (dy * c - dx * s) + (dx * c + dy * s) * (dx * c + dy * s) = (dx * dx + dy * dy) * (s * s + c * c) := by grind
  have w0 : 0 ≤ s * s + c * c := by grind
  have m1 := Rat.mul_le_mul_of_nonneg_right hd w0
  have m2 := Rat.mul_le_mul_of_nonneg_left (show s * s + c * c ≤ 1 + 1 / 1000000000000000 by grind) q0
  have e2 : (p * (1 + 1 / 1000000000)) * (p * (1 + 1 / 1000000000)) = p * p * (1 + 2 / 1000000000 + 1 / 1000000000000000000) := by grind
  have b0 : 0 ≤ p * (1 + 1 / 1000000000) := Rat.mul_nonneg p0 (by grind)
  refine ⟨sq_rabs b0 ?_, sq_rabs b0 ?_⟩
  · rw [e2]
    generalize (dy * c - dx * s) * (dy * c - dx * s) = A at *
    generalize (dx * c + dy * s) * (dx * c + dy * s) = B at *
    generalize (dx * dx + dy * dy) * (s * s + c * c) = F at *
    generalize p * p = P at *
    generalize s * s + c * c = W at *
    generalize P * W = PW at *
    grind
  · rw [e2]
    generalize (dy * c - dx * s) * (dy * c - dx * s) = A at *
    generalize (dx * c + dy * s) * (dx * c + dy * s) = B at *
    generalize (dx * dx + dy * dy) * (s * s + c * c) = F at *
    generalize p * p = P at *
    generalize s * s + c * c = W at *
    generalize P * W = PW at *
    grind
/-- The sine and the cosine of the angle between two directions near each other. -/
theorem pair_alg {xi yi xj yj si ci sj cj ρ κ ni nj ri rj : Rat} (hci : rabs (si * si + ci * ci - 1) ≤ 1 / 1000000000000000) (hcj : rabs (sj * sj + cj * cj - 1) ≤ 1 / 1000000000000000)
    (eni : xi * si - yi * ci = ni) (enj : xj * sj - yj * cj = nj) (eri : xi * ci + yi * si = ri) (erj : xj * cj + yj * sj = rj) (hni : rabs ni ≤ 12/100) (hnj : rabs nj ≤ 12/100) (ri0 : 0 ≤ ri) (rj0 : 0 ≤ rj)
    (hρ : 100000000 ≤ ρ) (k0 : 0 ≤ κ) (k1 : κ ≤ 1/20) (hi : ρ * ρ ≤ xi * xi + yi * yi) (hj : ρ * ρ ≤ xj * xj + yj * yj) (hd : (xj - xi) * (xj - xi) + (yj - yi) * (yj - yi) ≤ κ * ρ * (κ * ρ)) :
    rabs (si * cj - ci * sj) ≤ κ + 3 / 1000000000 ∧ 1/2 ≤ ci * cj + si * sj := by
  have li := head_len hci eni eri hni ri0 hρ hi
  have lj := head_len hcj enj erj hnj rj0 hρ hj
  have p0 := Rat.mul_nonneg k0 (show 0 ≤ ρ by grind)
  have p1 := Rat.mul_le_mul_of_nonneg_right k1 (show 0 ≤ ρ by grind)
  obtain ⟨t1, t2⟩ := proj_bd hci p0 hd
  have hci' := rabs_le.1 hci
  have hcj' := rabs_le.1 hcj
  have both : (si * cj - ci * sj) * (si * cj - ci * sj) + (ci * cj + si * sj) * (ci * cj + si * sj) = (si * si + ci * ci) * (sj * sj + cj * cj) := by grind
  have prod : 1 - 1 / 100000000000000 ≤ (si * si + ci * ci) * (sj * sj + cj * cj) ∧ (si * si + ci * ci) * (sj * sj + cj * cj) ≤ 1 + 1 / 100000000000000 := by
    have m1 := Rat.mul_le_mul_of_nonneg_left (show sj * sj + cj * cj ≤ 1 + 1 / 1000000000000000 by grind) (show 0 ≤ si * si + ci * ci by grind)
    have m2 := Rat.mul_le_mul_of_nonneg_left (show 1 - 1 / 1000000000000000 ≤ sj * sj + cj * cj by grind) (show 0 ≤ si * si + ci * ci by grind)
    constructor <;> grind
  have sq : ∀ z : Rat, 0 ≤ z * z := fun z => by rw [← rabs_sq]; exact Rat.mul_nonneg (rabs_nonneg z) (rabs_nonneg z)
  -- across
  have eS : rj * (si * cj - ci * sj) * (sj * sj + cj * cj) = rj * (si * cj - ci * sj) * (sj * sj + cj * cj) := rfl
  have xj' : xj * (sj * sj + cj * cj) = rj * cj + nj * sj := by rw [← erj, ← enj]; grind
  have yj' : yj * (sj * sj + cj * cj) = rj * sj - nj * cj := by rw [← erj, ← enj]; grind
  have a1 : (yj * ci - xj * si) * (sj * sj + cj * cj) = -(rj * (si * cj - ci * sj)) - nj * (ci * cj + si * sj) := by
    have : (yj * ci - xj * si) * (sj * sj + cj * cj) = (yj * (sj * sj + cj * cj)) * ci - (xj * (sj * sj + cj * cj)) * si := by grind
    rw [this, xj', yj']; grind
  have a2 : (xj * ci + yj * si) * (sj * sj + cj * cj) = rj * (ci * cj + si * sj) - nj * (si * cj - ci * sj) := by
    have : (xj * ci + yj * si) * (sj * sj + cj * cj) = (xj * (sj * sj + cj * cj)) * ci + (yj * (sj * sj + cj * cj)) * si := by grind
    rw [this, xj', yj']; grind
  have b1 : yj * ci - xj * si = ((yj - yi) * ci - (xj - xi) * si) - ni := by rw [← eni]; grind
  have b2 : xj * ci + yj * si = ri + ((xj - xi) * ci + (yj - yi) * si) := by rw [← eri]; grind
  have s0 := sq (si * cj - ci * sj)
  have c0 := sq (ci * cj + si * sj)
  have bS : rabs (si * cj - ci * sj) ≤ 101/100 := sq_rabs (by grind) (by grind)
  have bC : rabs (ci * cj + si * sj) ≤ 101/100 := sq_rabs (by grind) (by grind)
  have n1 := rabs_le.1 (mul_rabs hnj bC)
  have n2 := rabs_le.1 (mul_rabs hnj bS)
  have hni' := rabs_le.1 hni
  have t1' := rabs_le.1 t1
  have t2' := rabs_le.1 t2
  generalize hT : (yj - yi) * ci - (xj - xi) * si = T at *
  generalize hU : (xj - xi) * ci + (yj - yi) * si = U at *
  rw [b1] at a1
  rw [b2] at a2
  generalize hW : sj * sj + cj * cj = W at *
  have w1 : rabs ((T - ni) * W) ≤ (κ * ρ * (1 + 1 / 1000000000) + 12/100) * (1 + 1 / 1000000000000000) := mul_rabs (rabs_le.2 ⟨by grind, by grind⟩) (rabs_le.2 ⟨by grind, by grind⟩)
  have w1 := rabs_le.1 w1
  generalize hS : si * cj - ci * sj = Sd at *
  generalize hC : ci * cj + si * sj = Cd at *
  generalize hp : κ * ρ = p at *
  have key : rabs Sd ≤ κ + 3 / 1000000000 := by
    -- rj |S| is small
    have z1 : rj * Sd ≤ p * (1 + 2 / 1000000000) + 25/100 := by grind
    have z2 : -(p * (1 + 2 / 1000000000) + 25/100) ≤ rj * Sd := by grind
    have m : rj * rabs Sd ≤ p * (1 + 2 / 1000000000) + 25/100 := by
      have e := rabs_mul rj Sd
      rw [rabs_pos rj0] at e
      rw [← e]
      exact rabs_le.2 ⟨z1, z2⟩
    have m2 := Rat.mul_le_mul_of_nonneg_right lj (rabs_nonneg Sd)
    have pos : 0 < ρ * (1 - 1 / 1000000000) := by grind
    refine Rat.le_of_mul_le_mul_left (c := ρ * (1 - 1 / 1000000000)) ?_ pos
    have e3 : ρ * (1 - 1 / 1000000000) * (κ + 3 / 1000000000) = (p + 3 / 1000000000 * ρ) * (1 - 1 / 1000000000) := by rw [← hp]; grind
    rw [e3]
    grind
  refine ⟨key, ?_⟩
  have kS := rabs_le.1 key
  -- along
  have w2 : rabs ((ri + U) * W - (ri + U)) ≤ (rabs (ri + U)) * (1 / 1000000000000000) := by
    have e : (ri + U) * W - (ri + U) = (ri + U) * (W - 1) := by grind
    rw [e]
    exact mul_rabs Rat.le_refl (rabs_le.2 ⟨by grind, by grind⟩)
  have u0 : 0 ≤ ri + U := by grind
  rw [rabs_pos u0] at w2
  have w2 := rabs_le.1 w2
  have cp : 0 < rj * Cd := by grind
  have Cpos : 0 < Cd := by
    by_cases q : 0 < Cd
    · exact q
    · exfalso
      have := Rat.mul_le_mul_of_nonneg_left (show Cd ≤ 0 by grind) rj0
      grind
  have s2 := sq_le_sq (rabs_nonneg Sd) (show rabs Sd ≤ 6/100 by grind)
  rw [rabs_sq] at s2
  have c2 : 9/10 ≤ Cd * Cd := by grind
  by_cases q : 1/2 ≤ Cd
  · exact q
  · exfalso
    have := sq_le_sq (show 0 ≤ Cd by grind) (show Cd ≤ 1/2 by grind)
    grind
theorem angle_pair {xi yi xj yj : Int} {Di Dj ρ κ : Rat} (hi : HeadI xi yi Di) (hj : HeadI xj yj Dj) (hρ : 100000000 ≤ ρ) (k0 : 0 ≤ κ) (k1 : κ ≤ 1/20) (bi : rabs (xi : Rat) + rabs (yi : Rat) ≤ 2200000000) (bj : rabs (xj : Rat) + rabs (yj : Rat) ≤ 2200000000)
    (ri : ρ * ρ ≤ (xi : Rat) * xi + (yi : Rat) * yi) (rj : ρ * ρ ≤ (xj : Rat) * xj + (yj : Rat) * yj) (hd : ((xj : Rat) - xi) * ((xj : Rat) - xi) + ((yj : Rat) - yi) * ((yj : Rat) - yi) ≤ κ * ρ * (κ * ρ)) :
    ∃ n : Int, rabs (tq * (Di - Dj) - (n : Rat) * (2 * piQ)) ≤ κ * (1004/1000) + 1 / 100000000 := by
  obtain ⟨ni, pi, di⟩ := hi
  obtain ⟨nj, pj, dj⟩ := hj
  obtain ⟨t1, t2, -⟩ := tq_num
  have ht : rabs tq ≤ 628319 / 100000000000000 := rabs_le.2 ⟨by grind, by grind⟩
  have ai : rabs (tq * Di) ≤ 16/5 := by have := mul_rabs ht di; grind
  have aj : rabs (tq * Dj) ≤ 16/5 := by have := mul_rabs ht dj; grind
  have ai' := rabs_le.1 (mul_rabs ht di)
  have aj' := rabs_le.1 (mul_rabs ht dj)
  have xi0 := rabs_nonneg (xi : Rat)
  have yi0 := rabs_nonneg (yi : Rat)
  have xj0 := rabs_nonneg (xj : Rat)
  have yj0 := rabs_nonneg (yj : Rat)
  obtain ⟨g1, g2⟩ := pair_alg (circ9 ai) (circ9 aj) rfl rfl rfl rfl (by grind) (by grind) (by grind) (by grind) hρ k0 k1 ri rj hd
  have e1 := rabs_le.1 (sin_sub (x := tq * Di) (y := tq * Dj) (by grind) aj)
  have e2 := rabs_le.1 (cos_sub (x := tq * Di) (y := tq * Dj) (by grind) aj)
  have g1 := rabs_le.1 g1
  have e : tq * (Di - Dj) = tq * Di - tq * Dj := by grind
  obtain ⟨n, -, -, hn⟩ := small_angle (δ := tq * Di - tq * Dj) (σ := κ + 4 / 1000000000) (rabs_le.2 ⟨by grind, by grind⟩) (rabs_le.2 ⟨by grind, by grind⟩) (by grind) (by grind)
  refine ⟨n, ?_⟩
  rw [e]
  grind
/-- A corner with its angle behind the first one's. -/
def Cn (yl yh xl xh : Int) (D0 E : Rat) : Prop := ∃ (x y : Int) (D : Rat) (j : Int), (x = xl ∨ x = xh) ∧ (y = yl ∨ y = yh) ∧ HeadI x y D ∧ rabs (D0 + E - (D + (j : Rat) * 1000000000)) ≤ 4 / 10000000 ∧ rabs E ≤ 500000001
theorem turn_zero {m : Int} {z : Rat} (h : rabs ((m : Rat) * (2 * piQ) - z) ≤ 1/2) (hz : rabs z ≤ 4) : m = 0 := by
  have hp := pi_num
  have h := rabs_le.1 h
  have hz := rabs_le.1 hz
  have a : m < 1 := by
    by_cases q : m < 1
    · exact q
    · exfalso
      have := icast (show 1 ≤ m by omega)
      have e : ((1 : Int) : Rat) = 1 := rfl
      rw [e] at this
      have := Rat.mul_le_mul_of_nonneg_right this (show 0 ≤ 2 * piQ by grind)
      grind
  have b : -1 < m := by
    by_cases q : -1 < m
    · exact q
    · exfalso
      have := icast (show m ≤ -1 by omega)
      have e : ((-1 : Int) : Rat) = -1 := rfl
      rw [e] at this
      have := Rat.mul_le_mul_of_nonneg_right this (show 0 ≤ 2 * piQ by grind)
      grind
  omega
structure Box (yl yh xl xh : Int) (ρ κ : Rat) : Prop where
  r : 100000000 ≤ ρ
  k0 : 0 ≤ κ
  k1 : κ ≤ 1/20
  b : ∀ x y : Int, (x = xl ∨ x = xh) → (y = yl ∨ y = yh) → rabs (x : Rat) ≤ 1100000000 ∧ rabs (y : Rat) ≤ 1100000000 ∧ ρ * ρ ≤ (x : Rat) * x + (y : Rat) * y
  d : ((xh : Rat) - xl) * ((xh : Rat) - xl) + ((yh : Rat) - yl) * ((yh : Rat) - yl) ≤ κ * ρ * (κ * ρ)
theorem sq_diff {x x' xl xh : Int} (h : x = xl ∨ x = xh) (h' : x' = xl ∨ x' = xh) : ((x' : Rat) - x) * ((x' : Rat) - x) ≤ ((xh : Rat) - xl) * ((xh : Rat) - xl) := by
  have sq : ∀ z : Rat, 0 ≤ z * z := fun z => by rw [← rabs_sq]; exact Rat.mul_nonneg (rabs_nonneg z) (rabs_nonneg z)
  have := sq ((xh : Rat) - xl)
  rcases h with rfl | rfl <;> rcases h' with rfl | rfl <;> grind
theorem cn_pair {yl yh xl xh : Int} {D0 E F ρ κ : Rat} (hb : Box yl yh xl xh ρ κ) (he : Cn yl yh xl xh D0 E) (hf : Cn yl yh xl xh D0 F) (hs : rabs (tq * (E - F)) ≤ 4) : rabs (tq * (E - F)) ≤ κ * (1004/1000) + 2 / 100000000 := by
  obtain ⟨x, y, D, j, hx, hy, hd, he1, he2⟩ := he
  obtain ⟨x', y', D', j', hx', hy', hd', hf1, hf2⟩ := hf
  obtain ⟨hr, hk0, hk1, hbb, hdd⟩ := hb
  obtain ⟨b1, b2, b3⟩ := hbb x y hx hy
  obtain ⟨c1, c2, c3⟩ := hbb x' y' hx' hy'
  have q1 := sq_diff hx hx'
  have q2 := sq_diff hy hy'
  obtain ⟨n, hn⟩ := angle_pair hd hd' hr hk0 hk1 (by grind) (by grind) b3 c3 (by grind)
  obtain ⟨t1, t2, -⟩ := tq_num
  have ht : rabs tq ≤ 628319 / 100000000000000 := rabs_le.2 ⟨by grind, by grind⟩
  have hdif : rabs ((E - F) - (D - D') - ((j - j' : Int) : Rat) * 1000000000) ≤ 8 / 10000000 := by
    have a := rabs_le.1 he1
    have b := rabs_le.1 hf1
    rw [rabs_le]; push_cast
    constructor <;> grind
  have m := rabs_le.1 (mul_rabs ht hdif)
  have e : tq * ((E - F) - (D - D') - ((j - j' : Int) : Rat) * 1000000000) = tq * (E - F) - tq * (D - D') - ((j - j' : Int) : Rat) * (2 * piQ) := by rw [← tq_turn]; grind
  rw [e] at m
  have hn := rabs_le.1 hn
  have z : n + (j - j') = 0 := by
    refine turn_zero (z := tq * (E - F)) ?_ hs
    rw [rabs_le]; push_cast; push_cast at m
    constructor <;> grind
  have z2 : ((j - j' : Int) : Rat) = -(n : Rat) := by
    have : j - j' = -n := by omega
    rw [this]; push_cast; rfl
  rw [z2] at m
  rw [rabs_le]
  constructor <;> grind
theorem arc_wide {yl yh xl xh : Int} {D0 L H ρ κ : Rat} {E : Nat → Rat} (hb : Box yl yh xl xh ρ κ) (hv : ArcV yl yh xl xh D0 E L H) : tq * ((arcHi yl yh xl xh - arcLo yl yh xl xh : Int) : Rat) ≤ κ * (1004/1000) + 1 / 10000000 := by
  obtain ⟨h0, hk, bE, l0, lk, le, g0, gk, ge, lo1, lo2, hi1, hi2⟩ := hv
  obtain ⟨t1, t2, -⟩ := tq_num
  have ht : rabs tq ≤ 628319 / 100000000000000 := rabs_le.2 ⟨by grind, by grind⟩
  have z0 : ((0 : Int) : Rat) = 0 := rfl
  have base : Cn yl yh xl xh D0 0 := ⟨xl, yl, D0, 0, .inl rfl, .inl rfl, h0, by rw [z0, show D0 + 0 - (D0 + 0 * 1000000000) = 0 by grind]; decide +kernel, by decide +kernel⟩
  have arcC_in : ∀ k, ((arcC yl yh xl xh k).2 = xl ∨ (arcC yl yh xl xh k).2 = xh) ∧ ((arcC yl yh xl xh k).1 = yl ∨ (arcC yl yh xl xh k).1 = yh) := by
    intro k; unfold arcC; split <;> simp
  have crn : ∀ k, k < 3 → Cn yl yh xl xh D0 (E k) := by
    intro k hk3
    obtain ⟨D, j, d1, d2⟩ := hk k hk3
    exact ⟨_, _, D, j, (arcC_in k).1, (arcC_in k).2, d1, d2, bE k hk3⟩
  have small : ∀ k, k < 3 → rabs (tq * E k) ≤ 1/10 := by
    intro k hk3
    have m := mul_rabs ht (bE k hk3)
    have c := cn_pair hb (crn k hk3) base (by rw [show E k - 0 = E k by grind]; grind)
    rw [show E k - 0 = E k by grind] at c
    have := hb.k1
    grind
  have pr : ∀ A B : Rat, (A = 0 ∨ ∃ k, k < 3 ∧ A = E k) → (B = 0 ∨ ∃ k, k < 3 ∧ B = E k) → rabs (tq * (A - B)) ≤ κ * (1004/1000) + 2 / 100000000 := by
    have c : ∀ A : Rat, (A = 0 ∨ ∃ k, k < 3 ∧ A = E k) → Cn yl yh xl xh D0 A ∧ rabs (tq * A) ≤ 1/10 := by
      intro A hA
      rcases hA with rfl | ⟨k, k3, rfl⟩
      · exact ⟨base, by rw [show tq * 0 = 0 by grind]; decide +kernel⟩
      · exact ⟨crn k k3, small k k3⟩
    intro A B hA hB
    obtain ⟨a1, a2⟩ := c A hA
    obtain ⟨b1, b2⟩ := c B hB
    have a2 := rabs_le.1 a2
    have b2 := rabs_le.1 b2
    exact cn_pair hb a1 b1 (rabs_le.2 ⟨by grind, by grind⟩)
  have p := (rabs_le.1 (pr H L ge le)).1
  have w : ((arcHi yl yh xl xh - arcLo yl yh xl xh : Int) : Rat) ≤ H - L + 3 := by push_cast; grind
  have := tq_le w
  grind
end Go.Proofs.YtaaiamcpdicnhaaDoor
