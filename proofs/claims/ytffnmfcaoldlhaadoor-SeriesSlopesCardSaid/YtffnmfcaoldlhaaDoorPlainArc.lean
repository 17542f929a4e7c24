/- The interval of an arc holds the directions of the corners. No program in sight. -/
import Derived.Test.YtffnmfcaoldlhaaDoorPlainDirW
set_option linter.unusedVariables false
set_option linter.unusedSimpArgs false
namespace Go.Proofs.YtffnmfcaoldlhaaDoor
open Ieee
theorem turn_back {a : Rat} (h0 : 0 ≤ a) (h1 : a ≤ 2 * piQ) : rabs (S (a - 2 * piQ) - S a) ≤ 1 / 1000000000000 ∧ rabs (C (a - 2 * piQ) - C a) ≤ 1 / 1000000000000 := by
  have hp := pi_num
  by_cases h : piQ ≤ a
  · have t := sin_turn (x := a - 2 * piQ) (rabs_le.2 ⟨by grind, by grind⟩)
    have e : a - 2 * piQ + 2 * piQ = a := by grind
    rw [e] at t
    have t1 := rabs_le.1 t.1
    have t2 := rabs_le.1 t.2
    constructor <;> rw [rabs_le] <;> constructor <;> grind
  · have t := sin_turn (x := -a) (rabs_le.2 ⟨by grind, by grind⟩)
    have e : -a + 2 * piQ = -(a - 2 * piQ) := by grind
    rw [e, S_neg, S_neg, C_neg, C_neg] at t
    have t1 := rabs_le.1 t.1
    have t2 := rabs_le.1 t.2
    constructor <;> rw [rabs_le] <;> constructor <;> grind
/-- A direction lies between two angles of whole units. -/
structure Between (a h : Int) (x y : Rat) : Prop where
  c1 : -(1 / 10000000000 * (rabs x + rabs y)) ≤ C (tq * a) * y - S (tq * a) * x
  c2 : -(1 / 10000000000 * (rabs x + rabs y)) ≤ S (tq * h) * x - C (tq * h) * y
  c3 : 0 ≤ (C (tq * a) + C (tq * h)) * x + (S (tq * a) + S (tq * h)) * y
theorem tq_le {z w : Rat} (h : z ≤ w) : tq * z ≤ tq * w := by
  obtain ⟨t1, -⟩ := tq_num
  exact Rat.mul_le_mul_of_nonneg_left h (by grind)
theorem tq_turn : tq * 1000000000 = 2 * piQ := by decide +kernel
/-- The sine and the cosine at an angle that differs by whole turns. -/
theorem sc_shift {a : Int} (a0 : 0 ≤ a) (a1 : a < 1000000000) {θ : Rat} (h : θ = tq * a ∨ θ = tq * a - 2 * piQ) : rabs (S θ - S (tq * a)) ≤ 1 / 1000000000000 ∧ rabs (C θ - C (tq * a)) ≤ 1 / 1000000000000 := by
  have r0 : (0 : Rat) ≤ (a : Rat) := by exact_mod_cast a0
  have r1 : (a : Rat) ≤ 1000000000 := by
    have := Rat.intCast_le_intCast.2 (show a ≤ 1000000000 by omega)
    have e : ((1000000000 : Int) : Rat) = 1000000000 := rfl
    rw [e] at this; exact this
  have z : rabs 0 = 0 := by decide +kernel
  rcases h with rfl | rfl
  · have e1 : S (tq * a) - S (tq * a) = 0 := by grind
    have e2 : C (tq * a) - C (tq * a) = 0 := by grind
    rw [e1, e2, z]
    constructor <;> grind
  · have := tq_le r0
    have := tq_le r1
    rw [tq_turn] at this
    exact turn_back (by grind) (by grind)
theorem C_lin {z : Rat} (hz : rabs z ≤ 8/5) : 1 - z * z / 2 ≤ C z := by
  have e : cT = 1 :: 0 :: -1/2 :: 0 :: 1/24 :: cT.tail.tail.tail.tail.tail := by decide +kernel
  have hb := pv_bd hz cT.tail.tail.tail.tail.tail
  have hk : pbd cT.tail.tail.tail.tail.tail (8/5) ≤ 1/100 := by decide +kernel
  have hx2 := rabs_le.1 hz
  unfold C
  rw [e]
  simp only [pv_cons]
  generalize cT.tail.tail.tail.tail.tail = t at *
  have m := rabs_le.1 (mul_rabs hz (show rabs (pv t z) ≤ 1/100 by grind))
  generalize pv t z = v at *
  have q0 : 0 ≤ 1/24 + z * v := by grind
  have q1 := Rat.mul_nonneg (sq_nonneg z) (sq_nonneg z)
  have q2 := Rat.mul_nonneg (sq_nonneg z) (Rat.mul_nonneg (sq_nonneg z) q0)
  grind
theorem cos_pair {b c : Rat} (b0 : -(1 / 1000000000000) ≤ b) (c0 : -(1 / 1000000000000) ≤ c) (hs : b + c ≤ 252/100) : 1/20 ≤ C b + C c := by
  have hp := pi_num
  have hm : rabs ((b + c) / 2) ≤ 32/5 := rabs_le.2 ⟨by grind, by grind⟩
  have hd : rabs ((b - c) / 2) ≤ 16/5 := rabs_le.2 ⟨by grind, by grind⟩
  have h1 := rabs_le.1 (cos_add hm hd)
  have h2 := rabs_le.1 (cos_sub hm hd)
  have e1 : (b + c) / 2 + (b - c) / 2 = b := by grind
  have e2 : (b + c) / 2 - (b - c) / 2 = c := by grind
  rw [e1] at h1
  rw [e2] at h2
  have lo : ∀ z : Rat, rabs z ≤ 1261/1000 → 1/5 ≤ C z := by
    intro z hz
    have l := C_lin (z := z) (by grind)
    have := sq_le (by grind) hz
    grind
  have p1 := lo ((b + c) / 2) (rabs_le.2 ⟨by grind, by grind⟩)
  have p2 := lo ((b - c) / 2) (rabs_le.2 ⟨by grind, by grind⟩)
  have m := Rat.mul_nonneg (show 0 ≤ C ((b + c) / 2) - 1/5 by grind) (show 0 ≤ C ((b - c) / 2) - 1/5 by grind)
  have m2 : 1/25 ≤ C ((b + c) / 2) * C ((b - c) / 2) := by grind
  clear m
  generalize C ((b + c) / 2) * C ((b - c) / 2) = u at *
  grind
/-- A direction within the interval lies between its bounds. -/
theorem between {lo hi m m2 k : Int} {x y : Int} {D φ : Rat} (hD : HeadI x y D) (hφ : rabs (φ - (D + (k : Rat) * 1000000000)) ≤ 1 / 1000000) (h1 : (lo : Rat) ≤ φ) (h2 : φ ≤ (hi : Rat)) (hw : hi - lo ≤ 400000000) {a h : Int}
    (ha : a = lo - m * 1000000000) (a0 : 0 ≤ a) (a1 : a < 1000000000) (hh : h = hi - m2 * 1000000000) (g0 : 0 ≤ h) (g1 : h < 1000000000) : Between a h (x : Rat) (y : Rat) := by
  obtain ⟨n, p, b⟩ := hD
  have hp := pi_num
  obtain ⟨t1, t2, -⟩ := tq_num
  have R0 : (0 : Rat) ≤ (a : Rat) := by exact_mod_cast a0
  have R1 : (a : Rat) ≤ 1000000000 := by
    have := Rat.intCast_le_intCast.2 (show a ≤ 1000000000 by omega)
    have e : ((1000000000 : Int) : Rat) = 1000000000 := rfl
    rw [e] at this; exact this
  have G0 : (0 : Rat) ≤ (h : Rat) := by exact_mod_cast g0
  have G1 : (h : Rat) ≤ 1000000000 := by
    have := Rat.intCast_le_intCast.2 (show h ≤ 1000000000 by omega)
    have e : ((1000000000 : Int) : Rat) = 1000000000 := rfl
    rw [e] at this; exact this
  have W : (hi : Rat) - (lo : Rat) ≤ 400000000 := by
    have := Rat.intCast_le_intCast.2 hw
    have e : ((400000000 : Int) : Rat) = 400000000 := rfl
    rw [e] at this; push_cast at this; exact this
  have eA : (a : Rat) = (lo : Rat) - (m : Rat) * 1000000000 := by
    rw [ha]; push_cast; rfl
  have eH : (h : Rat) = (hi : Rat) - (m2 : Rat) * 1000000000 := by
    rw [hh]; push_cast; rfl
  have hb := rabs_le.1 b
  have hφ := rabs_le.1 hφ
  -- whole turns
  have j1 : k - m = 0 ∨ k - m = 1 := by
    have u1 : ((k - m : Int) : Rat) * 1000000000 ≤ 1950000000 := by push_cast; grind
    have u2 : -950000000 ≤ ((k - m : Int) : Rat) * 1000000000 := by push_cast; grind
    have v1 : ((k - m : Int) : Rat) < ((2 : Int) : Rat) := by have e : ((2 : Int) : Rat) = 2 := rfl
                                                              rw [e]; grind
    have v2 : ((-1 : Int) : Rat) < ((k - m : Int) : Rat) := by have e : ((-1 : Int) : Rat) = -1 := rfl
                                                               rw [e]; grind
    have w1 : k - m < 2 := by exact_mod_cast v1
    have w2 : -1 < k - m := by exact_mod_cast v2
    omega
  have j2 : m2 - k = 0 ∨ m2 - k = -1 := by
    have u1 : ((m2 - k : Int) : Rat) * 1000000000 ≤ 950000000 := by push_cast; grind
    have u2 : -1950000000 ≤ ((m2 - k : Int) : Rat) * 1000000000 := by push_cast; grind
    have v1 : ((m2 - k : Int) : Rat) < ((1 : Int) : Rat) := by have e : ((1 : Int) : Rat) = 1 := rfl
                                                               rw [e]; grind
    have v2 : ((-2 : Int) : Rat) < ((m2 - k : Int) : Rat) := by have e : ((-2 : Int) : Rat) = -2 := rfl
                                                                rw [e]; grind
    have w1 : m2 - k < 1 := by exact_mod_cast v1
    have w2 : -2 < m2 - k := by exact_mod_cast v2
    omega
  obtain ⟨β, hβ⟩ : ∃ β, D - ((lo : Rat) - (k : Rat) * 1000000000) = β := ⟨_, rfl⟩
  obtain ⟨γ, hγ⟩ : ∃ γ, (hi : Rat) - (k : Rat) * 1000000000 - D = γ := ⟨_, rfl⟩
  have β0 : -(1 / 1000000) ≤ β := by grind
  have γ0 : -(1 / 1000000) ≤ γ := by grind
  have sβ : β + γ ≤ 400000000 := by grind
  have b1 := tq_le β0
  have c1 := tq_le γ0
  have s1 := tq_le sβ
  have tb : rabs (tq * D) ≤ 32/5 := by
    have := mul_rabs (show rabs tq ≤ 628319 / 100000000000000 from rabs_le.2 ⟨by grind, by grind⟩) b
    grind
  have A := sc_shift a0 a1 (θ := tq * D - tq * β) (by
    rcases j1 with j | j
    · left
      have : (k : Rat) = (m : Rat) := by have : k = m := by omega
                                         rw [this]
      rw [eA, ← hβ, this]; grind
    · right
      have : (k : Rat) = (m : Rat) + 1 := by have : k = m + 1 := by omega
                                             rw [this]; push_cast; rfl
      rw [eA, ← hβ, this, ← tq_turn]; grind)
  have H := sc_shift g0 g1 (θ := tq * D + tq * γ) (by
    rcases j2 with j | j
    · left
      have : (m2 : Rat) = (k : Rat) := by have : m2 = k := by omega
                                          rw [this]
      rw [eH, ← hγ, this]; grind
    · right
      have : (m2 : Rat) = (k : Rat) - 1 := by have : m2 = k - 1 := by omega
                                              rw [this]; push_cast; rfl
      rw [eH, ← hγ, this, ← tq_turn]; grind)
  have lim1 : tq * 400000000 ≤ 2514/1000 := by decide +kernel
  have lim2 : tq * -(1 / 1000000) ≥ -(1 / 100000000000000) := by decide +kernel
  have pr := cos_pair (b := tq * β) (c := tq * γ) (by grind) (by grind) (by grind)
  have Bb : rabs (tq * β) ≤ 16/5 := rabs_le.2 ⟨by grind, by grind⟩
  have Cb : rabs (tq * γ) ≤ 16/5 := rabs_le.2 ⟨by grind, by grind⟩
  have pb := S_up (d := 1 / 100000000000000) (x := tq * β) (by grind) (by grind) (by grind) (by grind)
  have pc := S_up (d := 1 / 100000000000000) (x := tq * γ) (by grind) (by grind) (by grind) (by grind)
  have a1' := sin_sub tb Bb
  have a2' := cos_sub tb Bb
  have h1' := sin_add tb Cb
  have h2' := cos_add tb Cb
  have qb := SC_bd (y := tq * β) (by grind)
  have qc := SC_bd (y := tq * γ) (by grind)
  have qd := SC_bd tb
  -- the exact angles' parts
  have eA1 : rabs (S (tq * a) - (S (tq * D) * C (tq * β) - C (tq * D) * S (tq * β))) ≤ 2 / 1000000000000 := by
    have u := rabs_le.1 a1'; have v := rabs_le.1 A.1; exact rabs_le.2 ⟨by grind, by grind⟩
  have eA2 : rabs (C (tq * a) - (C (tq * D) * C (tq * β) + S (tq * D) * S (tq * β))) ≤ 2 / 1000000000000 := by
    have u := rabs_le.1 a2'; have v := rabs_le.1 A.2; exact rabs_le.2 ⟨by grind, by grind⟩
  have eH1 : rabs (S (tq * h) - (S (tq * D) * C (tq * γ) + C (tq * D) * S (tq * γ))) ≤ 2 / 1000000000000 := by
    have u := rabs_le.1 h1'; have v := rabs_le.1 H.1; exact rabs_le.2 ⟨by grind, by grind⟩
  have eH2 : rabs (C (tq * h) - (C (tq * D) * C (tq * γ) - S (tq * D) * S (tq * γ))) ≤ 2 / 1000000000000 := by
    have u := rabs_le.1 h2'; have v := rabs_le.1 H.2; exact rabs_le.2 ⟨by grind, by grind⟩
  clear a1' a2' h1' h2' A H tb Bb Cb lim1 lim2 b1 c1 s1 β0 γ0 sβ hβ hγ j1 j2 eA eH hb hφ b R0 R1 G0 G1 W h1 h2
  have x0 := rabs_nonneg (x : Rat)
  have y0 := rabs_nonneg (y : Rat)
  have rx : rabs (x : Rat) ≤ rabs (x : Rat) := Rat.le_refl
  have ry : rabs (y : Rat) ≤ rabs (y : Rat) := Rat.le_refl
  have m1 := rabs_le.1 (mul_rabs rx eA1)
  have m2' := rabs_le.1 (mul_rabs ry eA2)
  have m3 := rabs_le.1 (mul_rabs rx eH1)
  have m4 := rabs_le.1 (mul_rabs ry eH2)
  have m5 := rabs_le.1 (mul_rabs rx eA2)
  have m6 := rabs_le.1 (mul_rabs ry eA1)
  have m7 := rabs_le.1 (mul_rabs rx eH2)
  have m8 := rabs_le.1 (mul_rabs ry eH1)
  generalize S (tq * β) = sb at *
  generalize C (tq * β) = cb at *
  generalize S (tq * γ) = sc at *
  generalize C (tq * γ) = cc at *
  generalize S (tq * D) = s at *
  generalize C (tq * D) = c at *
  generalize (x : Rat) = X at *
  generalize (y : Rat) = Y at *
  obtain ⟨N, hN⟩ : ∃ N, X * s - Y * c = N := ⟨_, rfl⟩
  obtain ⟨P, hP⟩ : ∃ P, X * c + Y * s = P := ⟨_, rfl⟩
  rw [hN] at n
  rw [hP] at p
  have N1 := rabs_le.1 (mul_rabs n qb.2)
  have N2 := rabs_le.1 (mul_rabs n qc.2)
  have N3 := rabs_le.1 (mul_rabs n qb.1)
  have N4 := rabs_le.1 (mul_rabs n qc.1)
  have PP : P ≤ 2 * (rabs X + rabs Y) := by
    have v1 := rabs_le.1 (mul_rabs rx qd.2)
    have v2 := rabs_le.1 (mul_rabs ry qd.1)
    rw [← hP]
    generalize X * c = z1 at *
    generalize Y * s = z2 at *
    grind
  have P1 := Rat.mul_nonneg (show 0 ≤ P by grind) (show 0 ≤ sb + 102 / 100000000000000 by grind)
  have P2 := Rat.mul_nonneg (show 0 ≤ P by grind) (show 0 ≤ sc + 102 / 100000000000000 by grind)
  have P3 := Rat.mul_nonneg (show 0 ≤ P by grind) (show 0 ≤ cb + cc - 1/20 by grind)
  have id1 : (c * cb + s * sb) * Y - (s * cb - c * sb) * X = sb * P - N * cb := by rw [← hN, ← hP]; grind
  have id2 : (s * cc + c * sc) * X - (c * cc - s * sc) * Y = sc * P + N * cc := by rw [← hN, ← hP]; grind
  have id3 : ((c * cb + s * sb) + (c * cc - s * sc)) * X + ((s * cb - c * sb) + (s * cc + c * sc)) * Y = (cb + cc) * P + (N * sb - N * sc) := by rw [← hN, ← hP]; grind
  refine ⟨?_, ?_, ?_⟩
  · have e : C (tq * a) * Y - S (tq * a) * X = (sb * P - N * cb) + Y * (C (tq * a) - (c * cb + s * sb)) - X * (S (tq * a) - (s * cb - c * sb)) := by rw [← id1]; grind
    rw [e]
    have e2 : 0 ≤ sb * P + P * (102 / 100000000000000) := by grind
    clear id1 id2 id3 e P1 P2 P3 hN hP
    generalize sb * P = u1 at *
    generalize N * cb = u2 at *
    generalize Y * (C (tq * a) - (c * cb + s * sb)) = u3 at *
    generalize X * (S (tq * a) - (s * cb - c * sb)) = u4 at *
    grind
  · have e : S (tq * h) * X - C (tq * h) * Y = (sc * P + N * cc) + X * (S (tq * h) - (s * cc + c * sc)) - Y * (C (tq * h) - (c * cc - s * sc)) := by rw [← id2]; grind
    rw [e]
    have e2 : 0 ≤ sc * P + P * (102 / 100000000000000) := by grind
    clear id1 id2 id3 e P1 P2 P3 hN hP
    generalize sc * P = u1 at *
    generalize N * cc = u2 at *
    generalize Y * (C (tq * h) - (c * cc - s * sc)) = u3 at *
    generalize X * (S (tq * h) - (s * cc + c * sc)) = u4 at *
    grind
  · have e : (C (tq * a) + C (tq * h)) * X + (S (tq * a) + S (tq * h)) * Y = ((cb + cc) * P + (N * sb - N * sc)) + X * (C (tq * a) - (c * cb + s * sb)) + X * (C (tq * h) - (c * cc - s * sc)) + Y * (S (tq * a) - (s * cb - c * sb)) + Y * (S (tq * h) - (s * cc + c * sc)) := by rw [← id3]; grind
    rw [e]
    have e2 : 0 ≤ (cb + cc) * P - P / 20 := by grind
    clear id1 id2 id3 e P1 P2 P3 hN hP
    generalize (cb + cc) * P = u0 at *
    generalize N * sb = u1 at *
    generalize N * sc = u2 at *
    generalize X * (C (tq * a) - (c * cb + s * sb)) = u3 at *
    generalize X * (C (tq * h) - (c * cc - s * sc)) = u4 at *
    generalize Y * (S (tq * a) - (s * cb - c * sb)) = u5 at *
    generalize Y * (S (tq * h) - (s * cc + c * sc)) = u6 at *
    grind
end Go.Proofs.YtffnmfcaoldlhaaDoor
