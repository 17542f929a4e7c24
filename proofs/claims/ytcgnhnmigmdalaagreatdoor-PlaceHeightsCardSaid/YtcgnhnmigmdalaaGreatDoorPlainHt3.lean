/- The interval of an arc holds the directions of a whole rectangle, closely; the arc sine's bounds. No program in sight. -/
import Derived.Test.YtcgnhnmigmdalaaGreatDoorPlainHt2
set_option linter.unusedVariables false
set_option linter.unusedSimpArgs false
namespace Go.Proofs.YtcgnhnmigmdalaaGreatDoor
open Ieee
theorem S_posX {x : Rat} (x0 : 56 / 10000000000000 ≤ x) (x1 : x ≤ 252/100) : 26 / 10000000000000 ≤ S x := by
  obtain ⟨q1, q2⟩ := pi_lim
  by_cases h : x ≤ 8/5
  · have := (S_lin (x := x) (by grind) h).1
    grind
  · obtain ⟨p1, p2, -⟩ := pi20
    have hx : rabs x ≤ 33/10 := rabs_le.2 ⟨by grind, by grind⟩
    have h1 := rabs_le.1 (sin_sub20 (x := piQ) (y := x) (rabs_le.2 ⟨by grind, by grind⟩) hx)
    have hb := SC_bd (y := x) (by grind)
    have m1 := rabs_le.1 (mul_rabs p1 hb.2)
    have m2 := rabs_le.1 (mul_rabs p2 hb.1)
    have l := (S_lin (x := piQ - x) (by grind) (by grind)).1
    generalize S piQ = sp at *
    generalize C piQ = cp at *
    grind
theorem sc_shiftX {a : Int} (a0 : 0 ≤ a) (a1 : a < 1000000000) {θ : Rat} (h : θ = tq * a ∨ θ = tq * a - 2 * piQ) : rabs (S θ - S (tq * a)) ≤ 1 / 1000000000000000000 ∧ rabs (C θ - C (tq * a)) ≤ 1 / 1000000000000000000 := by
  obtain ⟨q1, q2⟩ := pi_lim
  have r0 : (0 : Rat) ≤ (a : Rat) := by exact_mod_cast a0
  have r1 : (a : Rat) ≤ 1000000000 := by
    have := icast (show a ≤ 1000000000 by omega)
    rw [show ((1000000000 : Int) : Rat) = 1000000000 from rfl] at this; exact this
  rcases h with rfl | rfl
  · rw [show S (tq * a) - S (tq * a) = 0 by grind, show C (tq * a) - C (tq * a) = 0 by grind]
    decide +kernel
  · have k0 := tq_le r0
    have k1 := tq_le r1
    rw [tq_turn] at k1
    exact turn20 (by grind) (by grind)
/-- A direction lies between two angles of whole units, without any error. -/
structure BetX (a h : Int) (x y : Rat) : Prop where
  c1 : 0 ≤ C (tq * a) * y - S (tq * a) * x
  c2 : 0 ≤ S (tq * h) * x - C (tq * h) * y
theorem big_part {X Y s c N P : Rat} (hc : rabs (s * s + c * c - 1) ≤ 1 / 1000000000000000) (hN : X * s - Y * c = N) (hP : X * c + Y * s = P) (n : rabs N ≤ 130 / 100000000000000 * (rabs X + rabs Y)) (p : (rabs X + rabs Y) / 6 ≤ P) : (rabs X + rabs Y) * (2/3) ≤ P := by
  have x0 := rabs_nonneg X
  have y0 := rabs_nonneg Y
  have xx := rabs_sq X
  have yy := rabs_sq Y
  have hc := rabs_le.1 hc
  have nn := sq_bd n
  have e : P * P + N * N = (X * X + Y * Y) * (s * s + c * c) := by rw [← hN, ← hP]; grind
  rw [← xx, ← yy] at e
  clear hN hP
  generalize rabs X = A at *
  generalize rabs Y = B at *
  by_cases q : (A + B) * (2/3) ≤ P
  · exact q
  · exfalso
    have p2 := Rat.mul_nonneg (show 0 ≤ (A + B) * (2/3) - P by grind) (show 0 ≤ (A + B) * (2/3) + P by grind)
    have m := Rat.mul_le_mul_of_nonneg_left (show 1 - 1 / 1000000000000000 ≤ s * s + c * c by grind) (show 0 ≤ A * A + B * B by have := Rat.mul_nonneg x0 x0; have := Rat.mul_nonneg y0 y0; grind)
    rw [← e] at m
    have d := sq_nonneg (A - B)
    have t : 0 < A + B := by grind
    have tt := Rat.mul_pos t t
    have p3 : P * P ≤ 4/9 * ((A + B) * (A + B)) := by clear m nn e; grind
    have n3 : N * N ≤ 1 / 10000000000 * ((A + B) * (A + B)) := by clear m p2 p3 e; grind
    have hf : (A + B) * (A + B) ≤ 2 * (A * A + B * B) := by clear m p2 p3 e nn n3; grind
    clear e q p2 nn d
    generalize P * P = PP at *
    generalize N * N = NN at *
    generalize (A + B) * (A + B) = T at *
    generalize A * A + B * B = R at *
    grind
theorem betweenX {lo hi m m2 k : Int} {x y : Int} {D φ : Rat} (hD : HeadI x y D) (hφ : rabs (φ - (D + (k : Rat) * 1000000000)) ≤ 1 / 1000000) (h1 : (lo : Rat) + 9 / 10000 ≤ φ) (h2 : φ + 9 / 10000 ≤ (hi : Rat)) (hw : hi - lo ≤ 400000000) {a h : Int}
    (ha : a = lo - m * 1000000000) (a0 : 0 ≤ a) (a1 : a < 1000000000) (hh : h = hi - m2 * 1000000000) (g0 : 0 ≤ h) (g1 : h < 1000000000) : BetX a h (x : Rat) (y : Rat) := by
  obtain ⟨n, p, b⟩ := hD
  have hp := pi_num
  obtain ⟨t1, t2, -⟩ := tq_num
  have R0 : (0 : Rat) ≤ (a : Rat) := by exact_mod_cast a0
  have R1 : (a : Rat) ≤ 1000000000 := by
    have := icast (show a ≤ 1000000000 by omega)
    rw [show ((1000000000 : Int) : Rat) = 1000000000 from rfl] at this; exact this
  have G0 : (0 : Rat) ≤ (h : Rat) := by exact_mod_cast g0
  have G1 : (h : Rat) ≤ 1000000000 := by
    have := icast (show h ≤ 1000000000 by omega)
    rw [show ((1000000000 : Int) : Rat) = 1000000000 from rfl] at this; exact this
  have W : (hi : Rat) - (lo : Rat) ≤ 400000000 := by
    have := icast hw
    rw [show ((400000000 : Int) : Rat) = 400000000 from rfl] at this; push_cast at this; exact this
  have eA : (a : Rat) = (lo : Rat) - (m : Rat) * 1000000000 := by
    rw [ha]; push_cast; rfl
  have eH : (h : Rat) = (hi : Rat) - (m2 : Rat) * 1000000000 := by
    rw [hh]; push_cast; rfl
  have hb := rabs_le.1 b
  have hφ := rabs_le.1 hφ
  have j1 : k - m = 0 ∨ k - m = 1 := by
    have u1 : ((k - m : Int) : Rat) * 1000000000 ≤ 1950000000 := by push_cast; grind
    have u2 : -950000000 ≤ ((k - m : Int) : Rat) * 1000000000 := by push_cast; grind
    have v1 : ((k - m : Int) : Rat) < ((2 : Int) : Rat) := by rw [show ((2 : Int) : Rat) = 2 from rfl]; grind
    have v2 : ((-1 : Int) : Rat) < ((k - m : Int) : Rat) := by rw [show ((-1 : Int) : Rat) = -1 from rfl]; grind
    have w1 : k - m < 2 := by exact_mod_cast v1
    have w2 : -1 < k - m := by exact_mod_cast v2
    omega
  have j2 : m2 - k = 0 ∨ m2 - k = -1 := by
    have u1 : ((m2 - k : Int) : Rat) * 1000000000 ≤ 950000000 := by push_cast; grind
    have u2 : -1950000000 ≤ ((m2 - k : Int) : Rat) * 1000000000 := by push_cast; grind
    have v1 : ((m2 - k : Int) : Rat) < ((1 : Int) : Rat) := by rw [show ((1 : Int) : Rat) = 1 from rfl]; grind
    have v2 : ((-2 : Int) : Rat) < ((m2 - k : Int) : Rat) := by rw [show ((-2 : Int) : Rat) = -2 from rfl]; grind
    have w1 : m2 - k < 1 := by exact_mod_cast v1
    have w2 : -2 < m2 - k := by exact_mod_cast v2
    omega
  obtain ⟨β, hβ⟩ : ∃ β, D - ((lo : Rat) - (k : Rat) * 1000000000) = β := ⟨_, rfl⟩
  obtain ⟨γ, hγ⟩ : ∃ γ, (hi : Rat) - (k : Rat) * 1000000000 - D = γ := ⟨_, rfl⟩
  have β0 : 899 / 1000000 ≤ β := by grind
  have γ0 : 899 / 1000000 ≤ γ := by grind
  have β1 : β ≤ 400000000 := by grind
  have γ1 : γ ≤ 400000000 := by grind
  have b1 := tq_le β0
  have c1 := tq_le γ0
  have b2 := tq_le β1
  have c2 := tq_le γ1
  have tb : rabs (tq * D) ≤ 16/5 := by
    have := mul_rabs (show rabs tq ≤ 628319 / 100000000000000 from rabs_le.2 ⟨by grind, by grind⟩) b
    grind
  have A := sc_shiftX a0 a1 (θ := tq * D - tq * β) (by
    rcases j1 with j | j
    · left
      have : (k : Rat) = (m : Rat) := by have : k = m := by omega
                                         rw [this]
      rw [eA, ← hβ, this]; grind
    · right
      have : (k : Rat) = (m : Rat) + 1 := by have : k = m + 1 := by omega
                                             rw [this]; push_cast; rfl
      rw [eA, ← hβ, this, ← tq_turn]; grind)
  have H := sc_shiftX g0 g1 (θ := tq * D + tq * γ) (by
    rcases j2 with j | j
    · left
      have : (m2 : Rat) = (k : Rat) := by have : m2 = k := by omega
                                          rw [this]
      rw [eH, ← hγ, this]; grind
    · right
      have : (m2 : Rat) = (k : Rat) - 1 := by have : m2 = k - 1 := by omega
                                              rw [this]; push_cast; rfl
      rw [eH, ← hγ, this, ← tq_turn]; grind)
  have lim1 : tq * 400000000 ≤ 252/100 := by decide +kernel
  have lim2 : 56 / 10000000000000 ≤ tq * (899 / 1000000) := by decide +kernel
  have Bb : rabs (tq * β) ≤ 33/10 := rabs_le.2 ⟨by grind, by grind⟩
  have Cb : rabs (tq * γ) ≤ 33/10 := rabs_le.2 ⟨by grind, by grind⟩
  have pb := S_posX (x := tq * β) (by grind) (by grind)
  have pc := S_posX (x := tq * γ) (by grind) (by grind)
  have tb3 : rabs (tq * D) ≤ 33/10 := by grind
  have a1' := sin_sub20 tb3 Bb
  have a2' := cos_sub20 tb3 Bb
  have h1' := sin_add20 tb3 Cb
  have h2' := cos_add20 tb3 Cb
  have qb := (SC_bd (y := tq * β) (by grind)).2
  have qc := (SC_bd (y := tq * γ) (by grind)).2
  have ci := circ9 (y := tq * D) tb
  have eA1 : rabs (S (tq * a) - (S (tq * D) * C (tq * β) - C (tq * D) * S (tq * β))) ≤ 2 / 1000000000000000000 := by
    have u := rabs_le.1 a1'; have v := rabs_le.1 A.1; exact rabs_le.2 ⟨by grind, by grind⟩
  have eA2 : rabs (C (tq * a) - (C (tq * D) * C (tq * β) + S (tq * D) * S (tq * β))) ≤ 2 / 1000000000000000000 := by
    have u := rabs_le.1 a2'; have v := rabs_le.1 A.2; exact rabs_le.2 ⟨by grind, by grind⟩
  have eH1 : rabs (S (tq * h) - (S (tq * D) * C (tq * γ) + C (tq * D) * S (tq * γ))) ≤ 2 / 1000000000000000000 := by
    have u := rabs_le.1 h1'; have v := rabs_le.1 H.1; exact rabs_le.2 ⟨by grind, by grind⟩
  have eH2 : rabs (C (tq * h) - (C (tq * D) * C (tq * γ) - S (tq * D) * S (tq * γ))) ≤ 2 / 1000000000000000000 := by
    have u := rabs_le.1 h2'; have v := rabs_le.1 H.2; exact rabs_le.2 ⟨by grind, by grind⟩
  clear a1' a2' h1' h2' A H tb Bb Cb lim1 lim2 b1 c1 b2 c2 β0 γ0 β1 γ1 hβ hγ j1 j2 eA eH hb hφ b R0 R1 G0 G1 W h1 h2 tb3
  have x0 := rabs_nonneg (x : Rat)
  have y0 := rabs_nonneg (y : Rat)
  have rx : rabs (x : Rat) ≤ rabs (x : Rat) := Rat.le_refl
  have ry : rabs (y : Rat) ≤ rabs (y : Rat) := Rat.le_refl
  have m1 := rabs_le.1 (mul_rabs rx eA1)
  have m2' := rabs_le.1 (mul_rabs ry eA2)
  have m3 := rabs_le.1 (mul_rabs rx eH1)
  have m4 := rabs_le.1 (mul_rabs ry eH2)
  generalize S (tq * β) = sb at *
  generalize C (tq * β) = cb at *
  generalize S (tq * γ) = sc at *
  generalize C (tq * γ) = cc at *
  generalize S (tq * D) = s at *
  generalize C (tq * D) = c at *
  generalize (x : Rat) = X at *
  generalize (y : Rat) = Y at *
  obtain ⟨N, hN⟩ : ∃ N, X * s - Y * c = N := ⟨_, rfl⟩
  obtain ⟨P, hP⟩ : ∃ P, X * c + Y * s = P := ⟨_, rfl⟩
  rw [hN] at n
  rw [hP] at p
  have P0 := big_part ci hN hP n p
  have N1 := rabs_le.1 (mul_rabs n qb)
  have N2 := rabs_le.1 (mul_rabs n qc)
  have P1 := Rat.mul_le_mul_of_nonneg_right pb (show 0 ≤ P by grind)
  have P2 := Rat.mul_le_mul_of_nonneg_right pc (show 0 ≤ P by grind)
  have id1 : (c * cb + s * sb) * Y - (s * cb - c * sb) * X = sb * P - N * cb := by rw [← hN, ← hP]; grind
  have id2 : (s * cc + c * sc) * X - (c * cc - s * sc) * Y = sc * P + N * cc := by rw [← hN, ← hP]; grind
  refine ⟨?_, ?_⟩
  · have e : C (tq * a) * Y - S (tq * a) * X = (sb * P - N * cb) + Y * (C (tq * a) - (c * cb + s * sb)) - X * (S (tq * a) - (s * cb - c * sb)) := by rw [← id1]; grind
    rw [e]
    clear id1 id2 e hN hP
    generalize sb * P = u1 at *
    generalize N * cb = u2 at *
    generalize Y * (C (tq * a) - (c * cb + s * sb)) = u3 at *
    generalize X * (S (tq * a) - (s * cb - c * sb)) = u4 at *
    grind
  · have e : S (tq * h) * X - C (tq * h) * Y = (sc * P + N * cc) + X * (S (tq * h) - (s * cc + c * sc)) - Y * (C (tq * h) - (c * cc - s * sc)) := by rw [← id2]; grind
    rw [e]
    clear id1 id2 e hN hP
    generalize sc * P = u1 at *
    generalize N * cc = u2 at *
    generalize X * (S (tq * h) - (s * cc + c * sc)) = u3 at *
    generalize Y * (C (tq * h) - (c * cc - s * sc)) = u4 at *
    grind
/-- Each corner lies between the bounds of Arc's interval. -/
theorem arc_cornersX {yl yh xl xh : Int} {D0 L H : Rat} {E : Nat → Rat} (hv : ArcV yl yh xl xh D0 E L H) (hw : arcHi yl yh xl xh - arcLo yl yh xl xh ≤ 400000000) {y x : Int} (hy : y = yl ∨ y = yh) (hx : x = xl ∨ x = xh) :
    BetX (arcLo yl yh xl xh % 1000000000) (arcHi yl yh xl xh % 1000000000) (x : Rat) (y : Rat) := by
  obtain ⟨h0, hk, -, l0, lk, -, g0, gk, -, lo1, lo2, hi1, hi2⟩ := hv
  have key : ∀ {y x : Int} {D φ : Rat} {k : Int}, HeadI x y D → rabs (φ - (D + (k : Rat) * 1000000000)) ≤ 1 / 1000000 → (arcLo yl yh xl xh : Rat) + 9 / 10000 ≤ φ → φ + 9 / 10000 ≤ (arcHi yl yh xl xh : Rat) → BetX (arcLo yl yh xl xh % 1000000000) (arcHi yl yh xl xh % 1000000000) (x : Rat) (y : Rat) := by
    intro y x D φ k hd hφ f1 f2
    have m0 := Int.emod_nonneg (arcLo yl yh xl xh) (show (1000000000 : Int) ≠ 0 by omega)
    have m1 := Int.emod_lt_of_pos (arcLo yl yh xl xh) (show (0 : Int) < 1000000000 by omega)
    have m2 := Int.emod_nonneg (arcHi yl yh xl xh) (show (1000000000 : Int) ≠ 0 by omega)
    have m3 := Int.emod_lt_of_pos (arcHi yl yh xl xh) (show (0 : Int) < 1000000000 by omega)
    exact betweenX (m := arcLo yl yh xl xh / 1000000000) (m2 := arcHi yl yh xl xh / 1000000000) hd hφ f1 f2 hw (by omega) m0 m1 (by omega) m2 m3
  have ck : ∀ k, k < 3 → BetX (arcLo yl yh xl xh % 1000000000) (arcHi yl yh xl xh % 1000000000) ((arcC yl yh xl xh k).2 : Rat) ((arcC yl yh xl xh k).1 : Rat) := by
    intro k hk3
    obtain ⟨D, j, d1, d2⟩ := hk k hk3
    have a1 := lk k hk3
    have a2 := gk k hk3
    exact key d1 (φ := D0 + E k) (k := j) (by grind) (by grind) (by grind)
  rcases hy with rfl | rfl <;> rcases hx with rfl | rfl
  · have z : rabs (D0 - (D0 + ((0 : Int) : Rat) * 1000000000)) ≤ 1 / 1000000 := by
      have e : D0 - (D0 + ((0 : Int) : Rat) * 1000000000) = 0 := by have : ((0 : Int) : Rat) = 0 := rfl
                                                                    rw [this]; grind
      rw [e]; decide +kernel
    exact key h0 (φ := D0) (k := 0) z (by grind) (by grind)
  · exact ck 0 (by omega)
  · exact ck 1 (by omega)
  · exact ck 2 (by omega)
theorem lin_cl {p q xl xh yl yh x y e d K : Rat} (hx : xl ≤ xh) (hy : yl ≤ yh) (e0 : 0 ≤ e) (d0 : 0 ≤ d) (bp : rabs p ≤ 1 + 1 / 1000000000000) (bq : rabs q ≤ 1 + 1 / 1000000000000) (hK : (1 + 1 / 1000000000000) * e + (1 + 1 / 1000000000000) * d ≤ K) (h1 : 0 ≤ p * xl + q * yl) (h2 : 0 ≤ p * xl + q * yh) (h3 : 0 ≤ p * xh + q * yl) (h4 : 0 ≤ p * xh + q * yh)
    (x1 : xl - e ≤ x) (x2 : x ≤ xh + e) (y1 : yl - d ≤ y) (y2 : y ≤ yh + d) : -K ≤ p * x + q * y := by
  obtain ⟨X, X1, X2, X3⟩ := clamp_ex hx e0 x1 x2
  obtain ⟨Y, Y1, Y2, Y3⟩ := clamp_ex hy d0 y1 y2
  have lin : ∀ s u v z : Rat, u ≤ z → z ≤ v → s * u ≤ s * z ∨ s * v ≤ s * z := by
    intro s u v z h1 h2
    by_cases h : 0 ≤ s
    · exact .inl (Rat.mul_le_mul_of_nonneg_left h1 h)
    · right
      have := Rat.mul_le_mul_of_nonneg_left h2 (show 0 ≤ -s by grind)
      grind
  have m1 := rabs_le.1 (mul_rabs bp X3)
  have m2 := rabs_le.1 (mul_rabs bq Y3)
  rcases lin p xl xh X X1 X2 with a | a <;> rcases lin q yl yh Y Y1 Y2 with b | b <;> clear lin <;> grind
end Go.Proofs.YtcgnhnmigmdalaaGreatDoor
