/- A point of a circle lies between the bounds of an interval that holds its angle. No program in sight. The corners of a rectangle, turned back by an angle, lie between the bounds of the arc that is turned back as well. No program in sight. The reference's offsets of the shadow and the program's intervals. No program in sight. The point in the axis of the shadow lies within the program's intervals. No program in sight. The reference's point in the axis of the shadow passes the tests. No program in sight. The program's intervals pass the reference's tests at the reference's point. No program in sight. -/
import Derived.Test.YtcgnhnmigmdalaaGreatDoorEqB
import Derived.Test.YtcgnhnmigmdalaaGreatDoorLkA
import Derived.Test.YtcgnhnmigmdalaaGreatDoorPhC
import Derived.Test.YtcgnhnmigmdalaaGreatDoorSnA
set_option linter.unusedVariables false
set_option linter.unusedSimpArgs false
namespace Go.Proofs.YtcgnhnmigmdalaaGreatDoor
section
open Ieee
/-- Two directions of length 1, one a little behind the other: the parts across and along. -/
theorem across {sa ca sz cz s c : Rat} (h1 : rabs (sz - (sa * c + ca * s)) ≤ 2 / 1000000000000) (h2 : rabs (cz - (ca * c - sa * s)) ≤ 2 / 1000000000000) (ha : rabs (sa * sa + ca * ca - 1) ≤ 1 / 100000000000) (b1 : rabs sa ≤ 101/100) (b2 : rabs ca ≤ 101/100) (b3 : rabs s ≤ 101/100) (b4 : rabs c ≤ 101/100) :
    rabs (ca * sz - sa * cz - s) ≤ 2 / 100000000000 ∧ rabs (ca * cz + sa * sz - c) ≤ 2 / 100000000000 := by
  have m1 := rabs_le.1 (mul_rabs b2 h1)
  have m2 := rabs_le.1 (mul_rabs b1 h2)
  have m3 := rabs_le.1 (mul_rabs b2 h2)
  have m4 := rabs_le.1 (mul_rabs b1 h1)
  have m5 := rabs_le.1 (mul_rabs ha b3)
  have m6 := rabs_le.1 (mul_rabs ha b4)
  constructor
  · have e : ca * sz - sa * cz - s = ca * (sz - (sa * c + ca * s)) - sa * (cz - (ca * c - sa * s)) + (sa * sa + ca * ca - 1) * s := by grind
    rw [e, rabs_le]
    clear e h1 h2 ha b1 b2 b3 b4 m3 m4 m6
    generalize ca * (sz - (sa * c + ca * s)) = p at *
    generalize sa * (cz - (ca * c - sa * s)) = q at *
    generalize (sa * sa + ca * ca - 1) * s = r at *
    constructor <;> grind
  · have e : ca * cz + sa * sz - c = ca * (cz - (ca * c - sa * s)) + sa * (sz - (sa * c + ca * s)) + (sa * sa + ca * ca - 1) * c := by grind
    rw [e, rabs_le]
    clear e h1 h2 ha b1 b2 b3 b4 m1 m2 m5
    generalize ca * (cz - (ca * c - sa * s)) = p at *
    generalize sa * (sz - (sa * c + ca * s)) = q at *
    generalize (sa * sa + ca * ca - 1) * c = r at *
    constructor <;> grind
end
section
open Ieee
theorem cos_pairW {b c : Rat} (b0 : -(1 / 1000000000) ≤ b) (c0 : -(1 / 1000000000) ≤ c) (hs : b + c ≤ 252/100) : 1/20 ≤ C b + C c := by
  have hp := pi_num
  have hm : rabs ((b + c) / 2) ≤ 32/5 := rabs_le.2 ⟨by grind, by grind⟩
  have hd : rabs ((b - c) / 2) ≤ 16/5 := rabs_le.2 ⟨by grind, by grind⟩
  have h1 := rabs_le.1 (cos_add hm hd)
  have h2 := rabs_le.1 (cos_sub hm hd)
  have e1 : (b + c) / 2 + (b - c) / 2 = b := by grind
  have e2 : (b + c) / 2 - (b - c) / 2 = c := by grind
  rw [e1] at h1
  rw [e2] at h2
  have lo : ∀ z : Rat, rabs z ≤ 1261/1000 → 1/5 ≤ C z := by
    intro z hz
    have l := C_lin (z := z) (by grind)
    have := sq_le (by grind) hz
    grind
  have p1 := lo ((b + c) / 2) (rabs_le.2 ⟨by grind, by grind⟩)
  have p2 := lo ((b - c) / 2) (rabs_le.2 ⟨by grind, by grind⟩)
  have m := Rat.mul_nonneg (show 0 ≤ C ((b + c) / 2) - 1/5 by grind) (show 0 ≤ C ((b - c) / 2) - 1/5 by grind)
  have m2 : 1/25 ≤ C ((b + c) / 2) * C ((b - c) / 2) := by grind
  clear m
  generalize C ((b + c) / 2) * C ((b - c) / 2) = u at *
  grind
/-- The sine and the cosine a little further, up to whole turns. -/
theorem sc_furtherW {a z δ : Rat} {k : Int} (a0 : 0 ≤ a) (a1 : a ≤ 1000000000) (z0 : 0 ≤ z) (z1 : z ≤ 1000000000) (h : z + (k : Rat) * 1000000000 = a + δ) (d0 : -(1/100) ≤ δ) (d1 : δ ≤ 450000000) :
    rabs (S (tq * z) - (S (tq * a) * C (tq * δ) + C (tq * a) * S (tq * δ))) ≤ 2 / 1000000000000 ∧ rabs (C (tq * z) - (C (tq * a) * C (tq * δ) - S (tq * a) * S (tq * δ))) ≤ 2 / 1000000000000 := by
  have hp := pi_num
  obtain ⟨t1, t2, -⟩ := tq_num
  have lim : tq * 450000000 ≤ 2828/1000 := by decide +kernel
  have limn : -(1/100000) ≤ tq * -(1/100) := by decide +kernel
  have A0 := tq_le a0
  have A1 := tq_le a1
  have Z0 := tq_le z0
  have Z1 := tq_le z1
  have D0 := tq_le d0
  have D1 := tq_le d1
  rw [tq_turn] at A1 Z1
  have hA : rabs (tq * a) ≤ 32/5 := rabs_le.2 ⟨by grind, by grind⟩
  have hD : rabs (tq * δ) ≤ 16/5 := rabs_le.2 ⟨by grind, by grind⟩
  have s := sin_add hA hD
  have c := cos_add hA hD
  have e : tq * a + tq * δ = tq * z + (k : Rat) * (2 * piQ) := by rw [← tq_turn]; grind
  rw [e] at s c
  have hk : k = 0 ∨ k = 1 ∨ k = -1 := by
    have c2 : ((2 : Int) : Rat) = 2 := rfl
    have cm : ((-2 : Int) : Rat) = -2 := rfl
    have a1 : k < 2 := by
      by_cases q : k < 2
      · exact q
      · exfalso
        have := icast (show 2 ≤ k by omega)
        rw [c2] at this; grind
    have a2 : -2 < k := by
      by_cases q : -2 < k
      · exact q
      · exfalso
        have := icast (show k ≤ -2 by omega)
        rw [cm] at this; grind
    omega
  rcases hk with rfl | rfl | rfl
  · have c0 : ((0 : Int) : Rat) = 0 := rfl
    rw [c0, show tq * z + 0 * (2 * piQ) = tq * z by grind] at s c
    exact ⟨by grind, by grind⟩
  · have c1 : ((1 : Int) : Rat) = 1 := rfl
    rw [c1] at s c h
    rw [show tq * z + 1 * (2 * piQ) = tq * z + 2 * piQ by grind] at s c
    have zs := tq_le (show z ≤ 450000000 by grind)
    obtain ⟨k1, k2⟩ := sin_turn (x := tq * z) (rabs_le.2 ⟨by grind, by grind⟩)
    have s := rabs_le.1 s
    have c := rabs_le.1 c
    have k1 := rabs_le.1 k1
    have k2 := rabs_le.1 k2
    clear hA hD e
    constructor <;> rw [rabs_le] <;> constructor <;> grind
  · have c1 : ((-1 : Int) : Rat) = -1 := rfl
    rw [c1] at s c h
    rw [show tq * z + -1 * (2 * piQ) = tq * z - 2 * piQ by grind] at s c
    have zs := tq_le (show 999999999 ≤ z by grind)
    have lim2 : tq * 999999999 ≥ 62/10 := by decide +kernel
    obtain ⟨k1, k2⟩ := sin_turn (x := tq * z - 2 * piQ) (rabs_le.2 ⟨by grind, by grind⟩)
    rw [show tq * z - 2 * piQ + 2 * piQ = tq * z by grind] at k1 k2
    have s := rabs_le.1 s
    have c := rabs_le.1 c
    have k1 := rabs_le.1 k1
    have k2 := rabs_le.1 k2
    clear hA hD e
    constructor <;> rw [rabs_le] <;> constructor <;> grind
/-- An angle between two whole ones, at most 0.4 of a turn apart: what the tests of its direction give. -/
structure PtW (lo h : Int) (z : Rat) : Prop where
  a1 : -(5 / 100000000000) ≤ C (tq * lo) * S (tq * z) - S (tq * lo) * C (tq * z)
  a2 : -(5 / 100000000000) ≤ S (tq * h) * C (tq * z) - C (tq * h) * S (tq * z)
  a3 : 1/25 ≤ C (tq * lo) * C (tq * z) + S (tq * lo) * S (tq * z) + (C (tq * h) * C (tq * z) + S (tq * h) * S (tq * z))
  a4 : rabs (C (tq * lo) * C (tq * z) + S (tq * lo) * S (tq * z)) ≤ 1001/1000
  a5 : rabs (C (tq * h) * C (tq * z) + S (tq * h) * S (tq * z)) ≤ 1001/1000
theorem ptW {lo hi k : Int} {z : Rat} (l0 : 0 ≤ lo) (l1 : lo < 1000000000) (hh : lo ≤ hi) (hw : hi - lo ≤ 400000000) (z0 : 0 ≤ z) (z1 : z ≤ 1000000000) (h1 : (lo : Rat) - 1/400 ≤ z + (k : Rat) * 1000000000) (h2 : z + (k : Rat) * 1000000000 ≤ (hi : Rat) + 1/400) :
    PtW lo (hi % 1000000000) z := by
  have hp := pi_num
  obtain ⟨t1, t2, -⟩ := tq_num
  obtain ⟨e0, e1⟩ := emod_bd hi
  have es := turn_split hi
  have L0 := icast l0
  have L1 := icast (show lo ≤ 1000000000 by omega)
  have E0 := icast e0
  have E1 := icast (show hi % 1000000000 ≤ 1000000000 by omega)
  have W := icast hw
  have c0 : ((0 : Int) : Rat) = 0 := rfl
  have c1 : ((1000000000 : Int) : Rat) = 1000000000 := rfl
  have c2 : ((400000000 : Int) : Rat) = 400000000 := rfl
  rw [c0] at L0 E0
  rw [c1] at L1 E1
  rw [c2] at W
  push_cast at W
  generalize hi % 1000000000 = h at *
  generalize hi / 1000000000 = q at *
  obtain ⟨δ, hδ⟩ : ∃ δ, z + (k : Rat) * 1000000000 - (lo : Rat) = δ := ⟨_, rfl⟩
  obtain ⟨ε, hε⟩ : ∃ ε, (hi : Rat) - (z + (k : Rat) * 1000000000) = ε := ⟨_, rfl⟩
  obtain ⟨p1, p2⟩ := sc_furtherW (a := (lo : Rat)) (z := z) (δ := δ) (k := k) L0 L1 z0 z1 (by grind) (by grind) (by grind)
  obtain ⟨p3, p4⟩ := sc_furtherW (a := z) (z := (h : Rat)) (δ := ε) (k := q - k) z0 z1 E0 E1 (by push_cast; grind) (by grind) (by grind)
  have lim : tq * (400000000 + 1/100) ≤ 2514/1000 := by decide +kernel
  have limn : -(16 / 1000000000000) ≤ tq * -(1/400) := by decide +kernel
  have D0 := tq_le (show -(1/400) ≤ δ by grind)
  have D1 := tq_le (show δ ≤ 400000000 + 1/100 by grind)
  have F0 := tq_le (show -(1/400) ≤ ε by grind)
  have F1 := tq_le (show ε ≤ 400000000 + 1/100 by grind)
  have DE := tq_le (show δ + ε ≤ 400000000 + 1/100 by grind)
  rw [show tq * (δ + ε) = tq * δ + tq * ε by grind] at DE
  have ba := sc_one L0 L1
  have bz := sc_one z0 z1
  have bd := SC_bd (y := tq * δ) (rabs_le.2 ⟨by grind, by grind⟩)
  have be := SC_bd (y := tq * ε) (rabs_le.2 ⟨by grind, by grind⟩)
  have sd := S_up (d := 16 / 1000000000000) (x := tq * δ) (by grind) (by grind) (by grind) (by grind)
  have se := S_up (d := 16 / 1000000000000) (x := tq * ε) (by grind) (by grind) (by grind) (by grind)
  have cc := cos_pairW (b := tq * δ) (c := tq * ε) (by grind) (by grind) (by grind)
  obtain ⟨g1, g2⟩ := across p1 p2 (circT L0 L1) (by grind) (by grind) (by grind) (by grind)
  obtain ⟨g3, g4⟩ := across p3 p4 (circT z0 z1) (by grind) (by grind) (by grind) (by grind)
  have bd2 := rabs_le.1 bd.2
  have be2 := rabs_le.1 be.2
  have g1 := rabs_le.1 g1
  have g2 := rabs_le.1 g2
  have g3 := rabs_le.1 g3
  have g4 := rabs_le.1 g4
  clear p1 p2 p3 p4 ba bz bd be D0 D1 F0 F1 hδ hε DE
  refine ⟨?_, ?_, ?_, rabs_le.2 ⟨?_, ?_⟩, rabs_le.2 ⟨?_, ?_⟩⟩
  all_goals generalize S (tq * (lo : Rat)) = sa at *
  all_goals generalize C (tq * (lo : Rat)) = ca at *
  all_goals generalize S (tq * (h : Rat)) = sh at *
  all_goals generalize C (tq * (h : Rat)) = ch at *
  all_goals generalize S (tq * z) = sz at *
  all_goals generalize C (tq * z) = cz at *
  all_goals clear hp t1 t2 e0 e1 es L0 L1 E0 E1 W c0 c1 c2 lim limn l0 l1 hh hw z0 z1 h1 h2
  all_goals grind
/-- A corner by its angle. -/
structure CorZ (x y D z r n : Rat) : Prop where
  z0 : 0 ≤ z
  z1 : z ≤ 1000000000
  j : z = D ∨ z = D + 1000000000
  ex : rabs (x - (r * C (tq * z) + n * S (tq * z))) ≤ 11 / 1000000000000 * (rabs x + rabs y)
  ey : rabs (y - (r * S (tq * z) - n * C (tq * z))) ≤ 11 / 1000000000000 * (rabs x + rabs y)
  bn : rabs n ≤ 6 / 100000000000 * (rabs x + rabs y)
  r0 : (rabs x + rabs y) / 7 ≤ r
  r1 : r ≤ 1001/1000 * (rabs x + rabs y)
theorem corZ {x y : Int} {D : Rat} (h : HeadI x y D) : ∃ z r n, CorZ (x : Rat) (y : Rat) D z r n := by
  obtain ⟨hn, hp, hb⟩ := h
  have hb := rabs_le.1 hb
  obtain ⟨z, j, z0, z1, e, ej⟩ : ∃ (z : Rat) (j : Int), 0 ≤ z ∧ z ≤ 1000000000 ∧ z = D + (j : Rat) * 1000000000 ∧ (z = D ∨ z = D + 1000000000) := by
    by_cases q : 0 ≤ D
    · exact ⟨D, 0, q, by grind, by rw [show ((0 : Int) : Rat) = 0 from rfl]; grind, .inl rfl⟩
    · exact ⟨D + 1000000000, 1, by grind, by grind, by rw [show ((1 : Int) : Rat) = 1 from rfl]; grind, .inr rfl⟩
  obtain ⟨k1, k2⟩ := sc_any (θ := D) (z := z) (by grind) (by grind) z0 z1 e
  obtain ⟨b1, b2⟩ := sc_one z0 z1
  have cz := circT z0 z1
  generalize (x : Rat) = X at *
  generalize (y : Rat) = Y at *
  have X0 := rabs_nonneg X
  have Y0 := rabs_nonneg Y
  have xx : rabs X ≤ rabs X := Rat.le_refl
  have yy : rabs Y ≤ rabs Y := Rat.le_refl
  have m1 := rabs_le.1 (mul_rabs xx k1)
  have m2 := rabs_le.1 (mul_rabs yy k2)
  have m3 := rabs_le.1 (mul_rabs xx k2)
  have m4 := rabs_le.1 (mul_rabs yy k1)
  have m5 := rabs_le.1 (mul_rabs xx cz)
  have m6 := rabs_le.1 (mul_rabs yy cz)
  have m7 := rabs_le.1 (mul_rabs xx b2)
  have m8 := rabs_le.1 (mul_rabs yy b1)
  have hn := rabs_le.1 hn
  generalize hs' : S (tq * z) = s at *
  generalize hc' : C (tq * z) = c at *
  generalize S (tq * D) = sD at *
  generalize C (tq * D) = cD at *
  generalize hA : rabs X = A at *
  generalize hB : rabs Y = B at *
  have d1 : X * (s - sD) = X * s - X * sD := by grind
  have d2 : Y * (c - cD) = Y * c - Y * cD := by grind
  have d3 : X * (c - cD) = X * c - X * cD := by grind
  have d4 : Y * (s - sD) = Y * s - Y * sD := by grind
  rw [d1] at m1
  rw [d2] at m2
  rw [d3] at m3
  rw [d4] at m4
  clear k1 k2 b1 b2 cz d1 d2 d3 d4 xx yy hb e
  refine ⟨z, X * c + Y * s, X * s - Y * c, z0, z1, ej, ?_, ?_, ?_, ?_, ?_⟩
  all_goals clear ej z0 z1
  · have e : X - ((X * c + Y * s) * c + (X * s - Y * c) * s) = -(X * (s * s + c * c - 1)) := by grind
    rw [hs', hc', e, rabs_le, hA, hB]
    clear m1 m2 m3 m4 m6 m7 m8 hn hp e hs' hc'
    generalize X * (s * s + c * c - 1) = v at *
    constructor <;> grind
  · have e : Y - ((X * c + Y * s) * s - (X * s - Y * c) * c) = -(Y * (s * s + c * c - 1)) := by grind
    rw [hs', hc', e, rabs_le, hA, hB]
    clear m1 m2 m3 m4 m5 m7 m8 hn hp e hs' hc'
    generalize Y * (s * s + c * c - 1) = v at *
    constructor <;> grind
  · rw [rabs_le, hA, hB]; clear m3 m4 m5 m6 m7 m8 hp; constructor <;> grind
  · rw [hA, hB]; clear m1 m2 m5 m6 m7 m8 hn; grind
  · rw [hA, hB]; clear m1 m2 m3 m4 m5 m6 hn hp; grind
/-- The test's three parts at a turned corner. -/
structure Turned (lo h : Int) (x y N : Rat) : Prop where
  c1 : -(24 / 100000000000 * N) ≤ C (tq * lo) * y - S (tq * lo) * x
  c2 : -(24 / 100000000000 * N) ≤ S (tq * h) * x - C (tq * h) * y
  c3 : 0 ≤ (C (tq * lo) + C (tq * h)) * x + (S (tq * lo) + S (tq * h)) * y
theorem cor_turn {x y D z r n σ h : Rat} {j : Int} (hc : CorZ x y D z r n) (s0 : 0 ≤ σ) (s1 : σ ≤ 1000000000) (h0 : 0 ≤ h) (h1 : h ≤ 1000000000) (e : h = z - σ + (j : Rat) * 1000000000) :
    rabs (x * C (tq * σ) + y * S (tq * σ) - (r * C (tq * h) + n * S (tq * h))) ≤ 6 / 100000000000 * (rabs x + rabs y) ∧ rabs (y * C (tq * σ) - x * S (tq * σ) - (r * S (tq * h) - n * C (tq * h))) ≤ 6 / 100000000000 * (rabs x + rabs y) := by
  obtain ⟨z0, z1, -, ex, ey, bn, r0, r1⟩ := hc
  obtain ⟨k1, k2⟩ := sc_minus z0 z1 s0 s1 h0 h1 e
  obtain ⟨b1, b2⟩ := sc_one s0 s1
  have N0 : 0 ≤ rabs x + rabs y := by have := rabs_nonneg x; have := rabs_nonneg y; grind
  generalize rabs x + rabs y = N at *
  have rr : rabs r ≤ 1001/1000 * N := rabs_le.2 ⟨r1, by grind⟩
  have m1 := rabs_le.1 (mul_rabs rr k1)
  have m2 := rabs_le.1 (mul_rabs rr k2)
  have m3 := rabs_le.1 (mul_rabs bn k1)
  have m4 := rabs_le.1 (mul_rabs bn k2)
  have m5 := rabs_le.1 (mul_rabs ex b2)
  have m6 := rabs_le.1 (mul_rabs ey b1)
  have m7 := rabs_le.1 (mul_rabs ey b2)
  have m8 := rabs_le.1 (mul_rabs ex b1)
  clear k1 k2 b1 b2 ex ey bn rr e r0 r1
  generalize S (tq * σ) = ss at *
  generalize C (tq * σ) = cs at *
  generalize S (tq * z) = s at *
  generalize C (tq * z) = c at *
  generalize S (tq * h) = sh at *
  generalize C (tq * h) = ch at *
  constructor
  · have e1 : x * cs + y * ss - (r * ch + n * sh) = (x - (r * c + n * s)) * cs + (y - (r * s - n * c)) * ss - r * (ch - (c * cs + s * ss)) - n * (sh - (s * cs - c * ss)) := by grind
    rw [e1, rabs_le]
    clear m1 m4 m7 m8 e1
    generalize (x - (r * c + n * s)) * cs = q1 at *
    generalize (y - (r * s - n * c)) * ss = q2 at *
    generalize r * (ch - (c * cs + s * ss)) = q3 at *
    generalize n * (sh - (s * cs - c * ss)) = q4 at *
    constructor <;> grind
  · have e1 : y * cs - x * ss - (r * sh - n * ch) = (y - (r * s - n * c)) * cs - (x - (r * c + n * s)) * ss - r * (sh - (s * cs - c * ss)) + n * (ch - (c * cs + s * ss)) := by grind
    rw [e1, rabs_le]
    clear m2 m3 m5 m6 e1
    generalize (x - (r * c + n * s)) * ss = q1 at *
    generalize (y - (r * s - n * c)) * cs = q2 at *
    generalize n * (ch - (c * cs + s * ss)) = q3 at *
    generalize r * (sh - (s * cs - c * ss)) = q4 at *
    constructor <;> grind
theorem turned_of {x y D z r n σ t : Rat} {lo h : Int} {j : Int} (hc : CorZ x y D z r n) (s0 : 0 ≤ σ) (s1 : σ ≤ 1000000000) (h0 : 0 ≤ t) (h1 : t ≤ 1000000000) (e : t = z - σ + (j : Rat) * 1000000000) (hp : PtW lo h t) (l0 : 0 ≤ lo) (l1 : lo < 1000000000) (k0 : 0 ≤ h) (k1 : h < 1000000000) :
    Turned lo h (x * C (tq * σ) + y * S (tq * σ)) (y * C (tq * σ) - x * S (tq * σ)) (rabs x + rabs y) := by
  obtain ⟨ux, uy⟩ := cor_turn hc s0 s1 h0 h1 e
  obtain ⟨-, -, -, -, -, bn, r0, r1⟩ := hc
  obtain ⟨a1, a2, a3, a4, a5⟩ := hp
  have L0 := icast l0
  have L1 := icast (show lo ≤ 1000000000 by omega)
  have K0 := icast k0
  have K1 := icast (show h ≤ 1000000000 by omega)
  have c0 : ((0 : Int) : Rat) = 0 := rfl
  have c1 : ((1000000000 : Int) : Rat) = 1000000000 := rfl
  rw [c0] at L0 K0
  rw [c1] at L1 K1
  obtain ⟨bl1, bl2⟩ := sc_one L0 L1
  obtain ⟨bh1, bh2⟩ := sc_one K0 K1
  have N0 : 0 ≤ rabs x + rabs y := by have := rabs_nonneg x; have := rabs_nonneg y; grind
  generalize rabs x + rabs y = N at *
  generalize x * C (tq * σ) + y * S (tq * σ) = X at *
  generalize y * C (tq * σ) - x * S (tq * σ) = Y at *
  have rn : 0 ≤ r := by grind
  have p1 := Rat.mul_le_mul_of_nonneg_left a1 rn
  have p2 := Rat.mul_le_mul_of_nonneg_left a2 rn
  have p3 := Rat.mul_le_mul_of_nonneg_left a3 rn
  have q4 := rabs_le.1 (mul_rabs bn a4)
  have q5 := rabs_le.1 (mul_rabs bn a5)
  have n1 := rabs_le.1 (mul_rabs bn (show rabs (C (tq * lo) * S (tq * t) - S (tq * lo) * C (tq * t)) ≤ 21/10 by
    obtain ⟨bt1, bt2⟩ := sc_one h0 h1
    have v1 := rabs_le.1 (mul_rabs bl2 bt1)
    have v2 := rabs_le.1 (mul_rabs bl1 bt2)
    rw [rabs_le]; constructor <;> grind))
  have n2 := rabs_le.1 (mul_rabs bn (show rabs (S (tq * h) * C (tq * t) - C (tq * h) * S (tq * t)) ≤ 21/10 by
    obtain ⟨bt1, bt2⟩ := sc_one h0 h1
    have v1 := rabs_le.1 (mul_rabs bh1 bt2)
    have v2 := rabs_le.1 (mul_rabs bh2 bt1)
    rw [rabs_le]; constructor <;> grind))
  have w1 := rabs_le.1 (mul_rabs bl2 uy)
  have w2 := rabs_le.1 (mul_rabs bl1 ux)
  have w3 := rabs_le.1 (mul_rabs bh1 ux)
  have w4 := rabs_le.1 (mul_rabs bh2 uy)
  have w5 := rabs_le.1 (mul_rabs bl2 ux)
  have w6 := rabs_le.1 (mul_rabs bl1 uy)
  have w7 := rabs_le.1 (mul_rabs bh2 ux)
  have w8 := rabs_le.1 (mul_rabs bh1 uy)
  clear ux uy bl1 bl2 bh1 bh2 a1 a2 a3 a4 a5 bn L0 L1 K0 K1 e
  refine ⟨?_, ?_, ?_⟩
  all_goals generalize S (tq * lo) = sl at *
  all_goals generalize C (tq * lo) = cl at *
  all_goals generalize S (tq * h) = sh at *
  all_goals generalize C (tq * h) = ch at *
  all_goals generalize S (tq * t) = st at *
  all_goals generalize C (tq * t) = ct at *
  · have e1 : cl * Y - sl * X = cl * (Y - (r * st - n * ct)) - sl * (X - (r * ct + n * st)) + r * (cl * st - sl * ct) - n * (cl * ct + sl * st) := by grind
    rw [e1]
    clear w3 w4 w5 w6 w7 w8 p2 p3 q5 n1 n2 e1
    generalize cl * (Y - (r * st - n * ct)) = v1 at *
    generalize sl * (X - (r * ct + n * st)) = v2 at *
    generalize r * (cl * st - sl * ct) = v3 at *
    generalize n * (cl * ct + sl * st) = v4 at *
    grind
  · have e1 : sh * X - ch * Y = sh * (X - (r * ct + n * st)) - ch * (Y - (r * st - n * ct)) + r * (sh * ct - ch * st) + n * (ch * ct + sh * st) := by grind
    rw [e1]
    clear w1 w2 w5 w6 w7 w8 p1 p3 q4 n1 n2 e1
    generalize ch * (Y - (r * st - n * ct)) = v1 at *
    generalize sh * (X - (r * ct + n * st)) = v2 at *
    generalize r * (sh * ct - ch * st) = v3 at *
    generalize n * (ch * ct + sh * st) = v4 at *
    grind
  · have e1 : (cl + ch) * X + (sl + sh) * Y = cl * (X - (r * ct + n * st)) + ch * (X - (r * ct + n * st)) + sl * (Y - (r * st - n * ct)) + sh * (Y - (r * st - n * ct)) + r * (cl * ct + sl * st + (ch * ct + sh * st)) + n * (cl * st - sl * ct) - n * (sh * ct - ch * st) := by grind
    have e2 : n * (cl * st - sl * ct) = n * (cl * st - sl * ct) := rfl
    rw [show (cl + ch) * X + (sl + sh) * Y = cl * (X - (r * ct + n * st)) + ch * (X - (r * ct + n * st)) + sl * (Y - (r * st - n * ct)) + sh * (Y - (r * st - n * ct)) + r * (cl * ct + sl * st + (ch * ct + sh * st)) + (n * (cl * st - sl * ct) - n * (sh * ct - ch * st)) by grind]
    clear w1 w2 w3 w4 p1 p2 q4 q5 e1 e2
    generalize cl * (X - (r * ct + n * st)) = v1 at *
    generalize ch * (X - (r * ct + n * st)) = v2 at *
    generalize sl * (Y - (r * st - n * ct)) = v3 at *
    generalize sh * (Y - (r * st - n * ct)) = v4 at *
    generalize r * (cl * ct + sl * st + (ch * ct + sh * st)) = v5 at *
    generalize n * (cl * st - sl * ct) = v6 at *
    generalize n * (sh * ct - ch * st) = v7 at *
    grind
end
section
/-- How far the moon is ahead of the sun; the offsets. -/
def ahV (t : Int) : Int := (moonW t % 1048576000000000 - sunW t % 1048576000000000 + 524288000000000) % 1048576000000000 - 524288000000000
def pca (t : Int) : Int := ahV t * 377 / 1048576
def pcb (t : Int) : Int := northV t * 377 / 1048576
theorem two_mod {K d w : Int} (h1 : K % 1048576000000000 ≤ w) (h2 : (K + d) % 1048576000000000 ≤ w) (d0 : 0 ≤ d) (dw : d + w < 1048576000000000) : (K + d) % 1048576000000000 = K % 1048576000000000 + d ∧ K % 1048576000000000 + d ≤ w := by
  have a := Int.emod_nonneg K (show (1048576000000000 : Int) ≠ 0 by decide)
  have e : (K + d) % 1048576000000000 = (K % 1048576000000000 + d) % 1048576000000000 := by omega
  rw [e, Int.emod_eq_of_lt (by omega) (by omega)] at h2
  rw [e, Int.emod_eq_of_lt (by omega) (by omega)]
  exact ⟨rfl, h2⟩
theorem mod_diff (x y k : Int) : ((x % 1048576000000000 - y % 1048576000000000) % 1048576000000000 - 0 * 1048576 - k + 8192) % 1048576000000000 = (x - y - k + 8192) % 1048576000000000 := by
  have e := Int.sub_emod x y 1048576000000000
  rw [← e]
  generalize x - y = z
  omega
theorem el_f1 (A B lo : Int) : (((A + 2500 * -8 * 1048576) % 1048576000000000 - (B + 250 * 8 * 1048576) % 1048576000000000) % 1048576000000000 - 0 * 1048576 - lo * 1048576 + 8192) % 1048576000000000 = (A - B - 22000 * 1048576 - lo * 1048576 + 8192) % 1048576000000000 := by
  rw [mod_diff]; congr 1; omega
theorem el_f2 (A B lo : Int) : (((A + 2500 * 8 * 1048576) % 1048576000000000 - (B + 250 * -8 * 1048576) % 1048576000000000) % 1048576000000000 - 0 * 1048576 - lo * 1048576 + 8192) % 1048576000000000 = (A - B - 22000 * 1048576 - lo * 1048576 + 8192 + 44000 * 1048576) % 1048576000000000 := by
  rw [mod_diff]; congr 1; omega
/-- Where the difference of the longitudes lies in the interval. -/
theorem el_mid (t : Int) : ∃ δ q : Int, moonW t - sunW t = elLo t * 1048576 + δ + 1048576000000000 * q ∧ 22000 * 1048576 - 8192 ≤ δ ∧ δ ≤ (elHi t - elLo t - 22000) * 1048576 + 8192 := by
  obtain ⟨-, e0, e1, ew⟩ := el_le t
  have h1 := el_contains t (-8) 8 (by decide) (by decide) (by decide) (by decide)
  have h2 := el_contains t 8 (-8) (by decide) (by decide) (by decide) (by decide)
  generalize elLo t = lo at *
  generalize elHi t = hi at *
  generalize moonW t = A at *
  generalize sunW t = B at *
  rw [el_f1] at h1
  rw [el_f2] at h2
  have k := two_mod h1 h2 (by decide) (by omega)
  have e := Int.emod_add_mul_ediv (A - B - 22000 * 1048576 - lo * 1048576 + 8192) 1048576000000000
  have n := Int.emod_nonneg (A - B - 22000 * 1048576 - lo * 1048576 + 8192) (show (1048576000000000 : Int) ≠ 0 by decide)
  generalize (A - B - 22000 * 1048576 - lo * 1048576 + 8192) / 1048576000000000 = q at *
  generalize (A - B - 22000 * 1048576 - lo * 1048576 + 8192) % 1048576000000000 = r at *
  exact ⟨22000 * 1048576 - 8192 + r, q, by omega, by omega, by omega⟩
theorem ah_mid (t : Int) : ∃ q : Int, ahV t = moonW t - sunW t + 1048576000000000 * q ∧ -524288000000000 ≤ ahV t ∧ ahV t < 524288000000000 := by
  unfold ahV
  generalize moonW t = A
  generalize sunW t = B
  refine ⟨-((A - B + 524288000000000) / 1048576000000000), ?_, by omega, by omega⟩
  omega
/-- The offset lies well within the interval, where either is near. -/
theorem pca_in {t : Int} (h : (-1000000000 ≤ pca t ∧ pca t ≤ 1000000000) ∨ (-1000000000 ≤ pxLo t ∧ pxHi t ≤ 1000000000)) : pxLo t + 8000000 ≤ pca t ∧ pca t + 8000000 ≤ pxHi t := by
  obtain ⟨-, e0, e1, ew⟩ := el_le t
  obtain ⟨δ, q, h1, d0, d1⟩ := el_mid t
  obtain ⟨p, h2, a0, a1⟩ := ah_mid t
  unfold pca pxLo pxHi pxB at *
  generalize ahV t = V at *
  generalize elLo t = lo at *
  generalize elHi t = hi at *
  generalize moonW t = A at *
  generalize sunW t = B at *
  have hz : V = (lo - (if 1000000000 < lo + hi then 1000000000 else 0)) * 1048576 + δ := by
    have hk : V = lo * 1048576 + δ + 1048576000000000 * (q + p) := by omega
    generalize q + p = k at *
    have hk2 : k = 0 ∨ k = -1 := by omega
    rcases hk2 with rfl | rfl
    · split
      · exfalso
        split at h <;> omega
      · omega
    · split
      · omega
      · exfalso
        split at h <;> omega
  rw [hz]
  split <;> omega
theorem pcb_in (t : Int) : pyLo t + 7500000 ≤ pcb t ∧ pcb t + 7500000 ≤ pyHi t := by
  obtain ⟨a, b, c, d, e⟩ := north_facts t
  unfold pyLo pyHi pcb
  generalize northV t = V at *
  omega
theorem ratHi_ge {x : Int} (h0 : -4000000000 ≤ x) (h1 : x ≤ 4000000000) : x * x ≤ ratHi x x 1000000000 * 1000000000 := by
  rw [ratHi_sq]
  have n : 0 ≤ x * x := by
    rcases Int.le_total 0 x with h | h
    · exact Int.mul_nonneg h h
    · have := Int.mul_nonneg (show 0 ≤ -x by omega) (show 0 ≤ -x by omega)
      have e : -x * -x = x * x := by grind
      omega
  have b : x * x ≤ 1000000000000000000 * 1000000000 := by
    have m1 := Int.mul_nonneg (show 0 ≤ 4000000000 - x by omega) (show 0 ≤ 4000000000 + x by omega)
    have e : (4000000000 - x) * (4000000000 + x) = 16000000000000000000 - x * x := by grind
    omega
  exact (qUp_in n (by decide) b).1
theorem ratLo_le {x : Int} (h0 : -4000000000 ≤ x) (h1 : x ≤ 4000000000) : ratLo x x 1000000000 * 1000000000 ≤ x * x := by
  have e : absI x * absI x = x * x := by
    unfold absI
    split
    · grind
    · rfl
  rw [ratLo_pos (by unfold negB; simp), e]
  have n : 0 ≤ x * x := by
    rcases Int.le_total 0 x with h | h
    · exact Int.mul_nonneg h h
    · have := Int.mul_nonneg (show 0 ≤ -x by omega) (show 0 ≤ -x by omega)
      have e : -x * -x = x * x := by grind
      omega
  have b : x * x ≤ 1000000000000000000 * 1000000000 := by
    have m1 := Int.mul_nonneg (show 0 ≤ 4000000000 - x by omega) (show 0 ≤ 4000000000 + x by omega)
    have e : (4000000000 - x) * (4000000000 + x) = 16000000000000000000 - x * x := by grind
    omega
  exact (qDn_in n (by decide) b).1
/-- The square of a number well within an interval, a little farther out, is at most the interval's upper square. -/
theorem sqHi_ge {l h x m : Int} (l0 : -4000000000 ≤ l) (h0 : h ≤ 4000000000) (lh : l ≤ h) (h1 : l + m ≤ x) (h2 : x + m ≤ h) (m0 : 0 ≤ m) : (absI x + m) * (absI x + m) ≤ sqHi l h * 1000000000 := by
  have a := ratHi_ge (x := l) l0 (by omega)
  have b := ratHi_ge (x := h) (by omega) h0
  have g : ratHi l l 1000000000 ≤ sqHi l h ∧ ratHi h h 1000000000 ≤ sqHi l h := by unfold sqHi pHi; omega
  rcases Int.le_total 0 x with c | c
  · have e : absI x = x := absI_pos (by omega)
    rw [e]
    have := Int.mul_le_mul (show x + m ≤ h by omega) (show x + m ≤ h by omega) (by omega) (by omega)
    omega
  · have e : absI x = -x := by unfold absI; split <;> omega
    rw [e]
    have := Int.mul_le_mul (show -x + m ≤ -l by omega) (show -x + m ≤ -l by omega) (by omega) (by omega)
    have e2 : -l * -l = l * l := by grind
    omega
theorem sqLo_le {l h x : Int} (l0 : -4000000000 ≤ l) (h0 : h ≤ 4000000000) (h1 : l ≤ x) (h2 : x ≤ h) : sqLo l h * 1000000000 ≤ x * x := by
  unfold sqLo
  split
  · rcases Int.le_total 0 x with h | h
    · have := Int.mul_nonneg h h; omega
    · have := Int.mul_nonneg (show 0 ≤ -x by omega) (show 0 ≤ -x by omega)
      have e : -x * -x = x * x := by grind
      omega
  · rename_i hz
    have a := ratLo_le (x := l) l0 (by omega)
    have b := ratLo_le (x := h) (by omega) h0
    have g : pLo l h l h 1000000000 ≤ ratLo l l 1000000000 ∧ pLo l h l h 1000000000 ≤ ratLo h h 1000000000 := by unfold pLo; omega
    rcases (show 0 < l ∨ h < 0 by omega) with c | c
    · have := Int.mul_le_mul h1 h1 (by omega) (by omega)
      omega
    · have := Int.mul_le_mul (show -h ≤ -x by omega) (show -h ≤ -x by omega) (by omega) (by omega)
      have e2 : -h * -h = h * h := by grind
      have e3 : -x * -x = x * x := by grind
      omega
theorem pErr_vals (t : Int) : pErr t = 0 ∨ pErr t = 6 ∨ pErr t = 11 := by
  unfold pErr
  repeat' split
  all_goals simp
theorem pErr_zero {t : Int} (h : pErr t = 0) : ¬ pFar t ∧ psLo t ≤ 1000000000 ∧ psHi t ≤ 1000000000 ∧ ¬ pArcOpen t := by
  unfold pErr at h
  by_cases h1 : pFar t
  · rw [if_pos h1] at h; omega
  · rw [if_neg h1] at h
    by_cases h2 : 1000000000 < psLo t
    · rw [if_pos h2] at h; omega
    · rw [if_neg h2] at h
      by_cases h3 : 1000000000 < psHi t
      · rw [if_pos h3] at h; omega
      · rw [if_neg h3] at h
        by_cases h4 : pArcOpen t
        · rw [if_pos h4] at h; omega
        · exact ⟨h1, by omega, by omega, h4⟩
/-- Where the shadow falls, the offsets lie well within a radius. -/
theorem pc_ok {t : Int} (h : pErr t = 0) : -1000000000 ≤ pca t ∧ pca t ≤ 1000000000 ∧ -1000000000 ≤ pcb t ∧ pcb t ≤ 1000000000 ∧ (absI (pca t) + 8000000) * (absI (pca t) + 8000000) + (absI (pcb t) + 7500000) * (absI (pcb t) + 7500000) ≤ psHi t * 1000000000 ∧ pxLo t + 8000000 ≤ pca t ∧ pca t + 8000000 ≤ pxHi t := by
  obtain ⟨-, -, h3, -⟩ := pErr_zero h
  obtain ⟨⟨o1, x1, x2⟩, ⟨o2, y1, y2⟩⟩ := ps_sp h3
  obtain ⟨a1, a2⟩ := pca_in (t := t) (.inr ⟨x1, x2⟩)
  obtain ⟨b1, b2⟩ := pcb_in t
  have g1 := sqHi_ge (l := pxLo t) (h := pxHi t) (x := pca t) (m := 8000000) (by omega) (by omega) o1 a1 a2 (by omega)
  have g2 := sqHi_ge (l := pyLo t) (h := pyHi t) (x := pcb t) (m := 7500000) (by omega) (by omega) o2 b1 b2 (by omega)
  have e : psHi t * 1000000000 = sqHi (pxLo t) (pxHi t) * 1000000000 + sqHi (pyLo t) (pyHi t) * 1000000000 := by
    have e : psHi t = sqHi (pxLo t) (pxHi t) + sqHi (pyLo t) (pyHi t) := rfl
    rw [e, Int.add_mul]
  rw [e]
  exact ⟨by omega, by omega, by omega, by omega, Int.add_le_add g1 g2, a1, a2⟩
theorem abs_sq (x m : Int) (m0 : 0 ≤ m) : x * x + m * m ≤ (absI x + m) * (absI x + m) := by
  have n := absI_nn x
  have e : absI x * absI x = x * x := by
    unfold absI
    split
    · grind
    · rfl
  have k := Int.mul_nonneg n m0
  have e2 : (absI x + m) * (absI x + m) = absI x * absI x + 2 * (absI x * m) + m * m := by grind
  omega
theorem pc_sum {t : Int} (h : pErr t = 0) : pca t * pca t + pcb t * pcb t ≤ psHi t * 1000000000 - 120250000000000 ∧ pca t * pca t + pcb t * pcb t ≤ 1000000000000000000 - 120250000000000 := by
  obtain ⟨-, -, h3, -⟩ := pErr_zero h
  obtain ⟨-, -, -, -, g, -, -⟩ := pc_ok h
  have a := abs_sq (pca t) 8000000 (by omega)
  have b := abs_sq (pcb t) 7500000 (by omega)
  omega
theorem pc_low {t : Int} (h : (-1000000000 ≤ pca t ∧ pca t ≤ 1000000000)) (h' : -1000000000 ≤ pcb t ∧ pcb t ≤ 1000000000) : psLo t * 1000000000 ≤ pca t * pca t + pcb t * pcb t ∧ ¬ pFar t := by
  obtain ⟨a1, a2⟩ := pca_in (t := t) (.inl h)
  obtain ⟨b1, b2⟩ := pcb_in t
  obtain ⟨o1, o2, o3, o4, o5⟩ := px_le t
  obtain ⟨n1, n2, n3, n4, n5⟩ := north_facts t
  have w : pyHi t - pyLo t ≤ 15100000 := by unfold pyLo pyHi; omega
  have g1 := sqLo_le (l := pxLo t) (h := pxHi t) (x := pca t) (by omega) (by omega) (by omega) (by omega)
  have g2 := sqLo_le (l := pyLo t) (h := pyHi t) (x := pcb t) (by omega) (by omega) (by omega) (by omega)
  have e : psLo t = sqLo (pxLo t) (pxHi t) + sqLo (pyLo t) (pyHi t) := rfl
  refine ⟨by rw [e, Int.add_mul]; omega, ?_⟩
  unfold pFar
  omega
/-- Within a radius the error is at most that it is open. -/
theorem pc_open {t : Int} (h : (-1000000000 ≤ pca t ∧ pca t ≤ 1000000000)) (h' : -1000000000 ≤ pcb t ∧ pcb t ≤ 1000000000) (hs : pca t * pca t + pcb t * pcb t ≤ 1000000000000000000) : pErr t = 0 ∨ pErr t = 11 := by
  obtain ⟨g, hf⟩ := pc_low h h'
  unfold pErr
  rw [if_neg hf, if_neg (by omega)]
  repeat' split
  all_goals simp
end
section
open Ieee
/-- Bounds of products of wide intervals. -/
theorem prod_inW {al ah bl bh : Int} (a0 : -4000000000 ≤ al) (a1 : ah ≤ 4000000000) (ao : al ≤ ah) (b0 : -1000000000 ≤ bl) (b1 : bh ≤ 1000000000) (bo : bl ≤ bh) {X Y : Rat} (x1 : (al : Rat) ≤ X) (x2 : X ≤ (ah : Rat)) (y1 : (bl : Rat) ≤ Y) (y2 : Y ≤ (bh : Rat)) :
    ((ptL al ah bl bh : Int) : Rat) * 1000000000 ≤ X * Y ∧ X * Y ≤ ((ptH al ah bl bh : Int) : Rat) * 1000000000 := by
  have r9 : ∀ a b : Int, -4000000000 ≤ a → a ≤ 4000000000 → -1000000000 ≤ b → b ≤ 1000000000 → ratLo a b 1000000000 * 1000000000 ≤ a * b ∧ a * b ≤ ratHi a b 1000000000 * 1000000000 := by
    intro a b h1 h2 h3 h4
    have m1 := Int.mul_nonneg (show 0 ≤ 4000000000 - a by omega) (show 0 ≤ 1000000000 - b by omega)
    have m2 := Int.mul_nonneg (show 0 ≤ 4000000000 + a by omega) (show 0 ≤ 1000000000 + b by omega)
    have m3 := Int.mul_nonneg (show 0 ≤ 4000000000 - a by omega) (show 0 ≤ 1000000000 + b by omega)
    have m4 := Int.mul_nonneg (show 0 ≤ 4000000000 + a by omega) (show 0 ≤ 1000000000 - b by omega)
    have l1 : -4000000000000000000 ≤ a * b := by grind
    have l2 : a * b ≤ 4000000000000000000 := by grind
    obtain ⟨e1, e2⟩ := rat_x a b 1000000000
    rw [e1, e2]
    exact ⟨(rl_in (X := a * b) (d := 1000000000) (by decide) (by omega) (by omega)).1, (rh_in (X := a * b) (d := 1000000000) (by decide) (by omega) (by omega)).1⟩
  have r1 := r9 al bl (by omega) (by omega) (by omega) (by omega)
  have r2 := r9 al bh (by omega) (by omega) (by omega) (by omega)
  have r3 := r9 ah bl (by omega) (by omega) (by omega) (by omega)
  have r4 := r9 ah bh (by omega) (by omega) (by omega) (by omega)
  obtain ⟨⟨m1, m2, m3, m4⟩, -⟩ := min4 (ratLo al bl 1000000000) (ratLo al bh 1000000000) (ratLo ah bl 1000000000) (ratLo ah bh 1000000000)
  obtain ⟨⟨n1, n2, n3, n4⟩, -⟩ := max4 (ratHi al bl 1000000000) (ratHi al bh 1000000000) (ratHi ah bl 1000000000) (ratHi ah bh 1000000000)
  have eL : ptL al ah bl bh = min (min (min (ratLo al bl 1000000000) (ratLo al bh 1000000000)) (ratLo ah bl 1000000000)) (ratLo ah bh 1000000000) := rfl
  have eH : ptH al ah bl bh = max (max (max (ratHi al bl 1000000000) (ratHi al bh 1000000000)) (ratHi ah bl 1000000000)) (ratHi ah bh 1000000000) := rfl
  rw [← eL] at m1 m2 m3 m4
  rw [← eH] at n1 n2 n3 n4
  clear eL eH r9
  generalize ptL al ah bl bh = L at *
  generalize ptH al ah bl bh = H at *
  have q1 := icast (show L * 1000000000 ≤ al * bl by omega)
  have q2 := icast (show L * 1000000000 ≤ al * bh by omega)
  have q3 := icast (show L * 1000000000 ≤ ah * bl by omega)
  have q4 := icast (show L * 1000000000 ≤ ah * bh by omega)
  have q5 := icast (show al * bl ≤ H * 1000000000 by omega)
  have q6 := icast (show al * bh ≤ H * 1000000000 by omega)
  have q7 := icast (show ah * bl ≤ H * 1000000000 by omega)
  have q8 := icast (show ah * bh ≤ H * 1000000000 by omega)
  push_cast at q1 q2 q3 q4 q5 q6 q7 q8
  constructor
  · rcases bilin_lo x1 x2 y1 y2 with h | h | h | h
    · exact Rat.le_trans q1 h
    · exact Rat.le_trans q2 h
    · exact Rat.le_trans q3 h
    · exact Rat.le_trans q4 h
  · rcases bilin_hi x1 x2 y1 y2 with h | h | h | h
    · exact Rat.le_trans h q5
    · exact Rat.le_trans h q6
    · exact Rat.le_trans h q7
    · exact Rat.le_trans h q8
/-- The offset as a fraction. -/
def pcX (t : Int) : Rat := (pca t : Rat) / 1000000000
def pcY (t : Int) : Rat := (pcb t : Rat) / 1000000000
/-- A third part of the direction: near the root of what is left of 1. -/
structure RootZ (t : Int) (Z : Rat) : Prop where
  z0 : 0 ≤ Z
  z : rabs (Z * Z - (1 - pcX t * pcX t - pcY t * pcY t)) ≤ 1 / 10000000000000000
theorem rz_low {t : Int} (h : pErr t = 0) {Z : Rat} (hz : RootZ t Z) : 1/100 ≤ Z ∧ Z ≤ 1 + 1 / 1000000000 := by
  obtain ⟨z0, z⟩ := hz
  have z := rabs_le.1 z
  have s := icast (pc_sum h).2
  push_cast at s
  have e1 : pcX t * pcX t = (pca t : Rat) * (pca t : Rat) / 1000000000000000000 := by unfold pcX; grind
  have e2 : pcY t * pcY t = (pcb t : Rat) * (pcb t : Rat) / 1000000000000000000 := by unfold pcY; grind
  have n1 := sq_nonneg (pcX t)
  have n2 := sq_nonneg (pcY t)
  rw [e1, e2] at z
  rw [e2] at n2
  rw [e1] at n1
  generalize (pca t : Rat) * (pca t : Rat) = A at *
  generalize (pcb t : Rat) * (pcb t : Rat) = B at *
  constructor
  · by_cases q : 1/100 ≤ Z
    · exact q
    · exfalso
      have := sq_le_sq z0 (show Z ≤ 1/100 by grind)
      grind
  · by_cases q : Z ≤ 1 + 1 / 1000000000
    · exact q
    · exfalso
      have := sq_le_sq (show (0 : Rat) ≤ 1 + 1 / 1000000000 by decide +kernel) (show 1 + 1 / 1000000000 ≤ Z by grind)
      grind
theorem rz_in {t : Int} (h : pErr t = 0) {Z : Rat} (hz : RootZ t Z) : InU (pzLo t) (pzHi t) Z (1/1000) := by
  obtain ⟨l1, l2⟩ := rz_low h hz
  obtain ⟨z0, z⟩ := hz
  have z := rabs_le.1 z
  obtain ⟨-, h1, h2, -⟩ := pErr_zero h
  obtain ⟨s1, s2⟩ := pc_sum h
  obtain ⟨a1, a2, b1, b2, -, -, -⟩ := pc_ok h
  have s3 := (pc_low ⟨a1, a2⟩ ⟨b1, b2⟩).1
  have n0 := ps_nn t
  have o := (ps_le t).1
  have e1 : pcX t * pcX t = (pca t : Rat) * (pca t : Rat) / 1000000000000000000 := by unfold pcX; grind
  have e2 : pcY t * pcY t = (pcb t : Rat) * (pcb t : Rat) / 1000000000000000000 := by unfold pcY; grind
  rw [e1, e2] at z
  clear e1 e2
  obtain ⟨p0, p1, p2⟩ := isq_ok (n := (1000000000 - psHi t) * 1000000000) (by omega) (by omega)
  obtain ⟨q0, q1, q2⟩ := isq_ok (n := (1000000000 - psLo t) * 1000000000) (by omega) (by omega)
  have u : (1000000000 - psLo t) * 1000000000 ≤ pzHi t * pzHi t ∧ 0 ≤ pzHi t := by
    unfold pzHi isqU
    generalize isq ((1000000000 - psLo t) * 1000000000) = r at *
    split
    · exact ⟨by omega, by omega⟩
    · exact ⟨by omega, q0⟩
  have v : pzLo t * pzLo t ≤ (1000000000 - psHi t) * 1000000000 ∧ 0 ≤ pzLo t := ⟨p1, p0⟩
  clear p0 p1 p2 q0 q1 q2
  unfold InU
  generalize pzLo t = L at *
  generalize pzHi t = H at *
  generalize psLo t = sl at *
  generalize psHi t = sh at *
  have c1 := icast (show 1000000000000000000 - (pca t * pca t + pcb t * pcb t) ≤ H * H by omega)
  have c2 := icast (show L * L ≤ 1000000000000000000 - (pca t * pca t + pcb t * pcb t) - 120250000000000 by omega)
  have c3 := icast u.2
  have c4 := icast v.2
  have c0 : ((0 : Int) : Rat) = 0 := rfl
  rw [c0] at c3 c4
  push_cast at c1 c2
  generalize (pca t : Rat) * (pca t : Rat) = A at *
  generalize (pcb t : Rat) * (pcb t : Rat) = B at *
  generalize (L : Rat) = l at *
  generalize (H : Rat) = hh at *
  clear u v s1 s2 s3 n0 o a1 a2 b1 b2 h1 h2
  constructor
  · by_cases q : l - 1/1000 ≤ 1000000000 * Z
    · exact q
    · exfalso
      have := sq_le_sq (show 0 ≤ 1000000000 * Z by grind) (show 1000000000 * Z ≤ l by grind)
      grind
  · by_cases q : 1000000000 * Z ≤ hh + 1/1000
    · exact q
    · exfalso
      have m := Rat.mul_nonneg (show 0 ≤ 1000000000 * Z - hh - 1/1000 by grind) (show 0 ≤ 1000000000 * Z + hh by grind)
      grind
/-- The sines of the sun's longitude. -/
def psm (t : Int) : Int := sunW t % 1048576000000000
def psS (t : Int) : Rat := S (tq * zA (argU (psm t)))
def psC (t : Int) : Rat := C (tq * zA (argU (psm t)))
theorem slon0 (t : Int) : SLon t (psm t) := ⟨0, by decide, by decide, by unfold psm; congr 1; omega⟩
theorem ps_sc (t : Int) : InU (psA t) (psB t) (psS t) (25/1000) ∧ InU (pcA t) (pcB t) (psC t) (25/1000) ∧ rabs (psS t) ≤ 1 + 1 / 10000000 ∧ rabs (psC t) ≤ 1 + 1 / 10000000 := by
  obtain ⟨-, -, -, -, -, -, so⟩ := sun_facts t
  have h := slon0 t
  obtain ⟨a0, a1⟩ := argU_bd (psm t)
  obtain ⟨z0, z1⟩ := zA_bd a0 a1
  obtain ⟨k, k1, k2⟩ := kl_ang h.bd.1 h.bd.2 (slon_in h)
  have n := sc_one z0 z1
  exact ⟨(over_any so z0 z1 k1 k2).1, cov_any so z0 z1 k1 k2, by unfold psS; have := n.1; grind, by unfold psC; have := n.2; grind⟩
/-- The point's parts. -/
def pvV (t : Int) (Z : Rat) : Rat := Z * psS t + pcX t * psC t
def pvF (t : Int) (Z : Rat) : Rat := Z * psC t - pcX t * psS t
def pvG (t : Int) (Z : Rat) : Rat := pvV t Z * ce9 - pcY t * se9
def pvH (t : Int) (Z : Rat) : Rat := pvV t Z * se9 + pcY t * ce9
theorem pv_vf {t : Int} (h : pErr t = 0) {Z : Rat} (hz : RootZ t Z) : InU (pvLo t) (pvHi t) (pvV t Z) (53/1000) ∧ InU (p1Lo t) (p1Hi t) (pvF t Z) (53/1000) := by
  obtain ⟨-, -, h3, -⟩ := pErr_zero h
  obtain ⟨X, Y⟩ := ps_sp h3
  obtain ⟨q0, q1, q2⟩ := pz_sp h3 (ps_le t).1
  have ZS : Sp1 (pzLo t) (pzHi t) := ⟨q1, by omega, q2⟩
  obtain ⟨-, -, -, -, -, -, so⟩ := sun_facts t
  have SS : Sp1 (psA t) (psB t) := sov_sp _ _ so
  have CC : Sp1 (pcA t) (pcB t) := cov_sp so
  obtain ⟨is, ic, bs, bc⟩ := ps_sc t
  have iz := rz_in h hz
  obtain ⟨l1, l2⟩ := rz_low h hz
  obtain ⟨a1, a2, b1, b2, -, x1, x2⟩ := pc_ok h
  have bz : rabs Z ≤ 1 + 1 / 10000000 := rabs_le.2 ⟨by grind, by grind⟩
  have ix : InU (pxLo t) (pxHi t) (pcX t) 0 := by
    unfold InU pcX
    have u := icast (show pxLo t ≤ pca t by omega)
    have v := icast (show pca t ≤ pxHi t by omega)
    constructor <;> grind
  have bx : rabs (pcX t) ≤ 1 + 1 / 10000000 := by
    unfold pcX
    have u := icast a1
    have v := icast a2
    have c1 : ((-1000000000 : Int) : Rat) = -1000000000 := rfl
    have c2 : ((1000000000 : Int) : Rat) = 1000000000 := rfl
    rw [c1] at u
    rw [c2] at v
    rw [rabs_le]; constructor <;> grind
  have m := times_in ZS SS iz is (by grind) (by grind) (by grind) (by grind) bz
  have n := times_in X CC ix ic (by grind) (by grind) (by grind) (by grind) bx
  have o := times_in ZS CC iz ic (by grind) (by grind) (by grind) (by grind) bz
  have p := times_in X SS ix is (by grind) (by grind) (by grind) (by grind) bx
  have v := m.add n
  have f := o.sub p
  refine ⟨?_, ?_⟩
  · unfold pvLo pvHi pvV ptL ptH
    unfold InU at v ⊢
    constructor <;> grind
  · unfold p1Lo p1Hi pvF ptL ptH
    unfold InU at f ⊢
    constructor <;> grind
theorem pv_gh {t : Int} (h : pErr t = 0) {Z : Rat} (hz : RootZ t Z) : ((p2Lo t : Rat) ≤ 1000000000 * pvG t Z ∧ 1000000000 * pvG t Z ≤ (p2Hi t : Rat)) ∧ ((p3Lo t : Rat) ≤ 1000000000 * pvH t Z ∧ 1000000000 * pvH t Z ≤ (p3Hi t : Rat)) := by
  obtain ⟨⟨i1, i2⟩, -⟩ := pv_vf h hz
  obtain ⟨-, -, h3, -⟩ := pErr_zero h
  obtain ⟨-, ⟨yo, y1, y2⟩⟩ := ps_sp h3
  obtain ⟨⟨v0, v1, v2⟩, -, -, -⟩ := pc_all h3
  obtain ⟨b1, b2⟩ := pcb_in t
  obtain ⟨-, -, bb1, bb2, -, -, -⟩ := pc_ok h
  obtain ⟨t1, t2, t3, t4⟩ := tilt_num
  obtain ⟨V, V1, V2, V3⟩ := clamp_ex (icast v0) (show (0 : Rat) ≤ 53/1000 by decide +kernel) i1 i2
  have V3 := rabs_le.1 V3
  have s1 : ((397776337 : Int) : Rat) = 397776337 := rfl
  have s2 : ((397776338 : Int) : Rat) = 397776338 := rfl
  have s3 : ((917482416 : Int) : Rat) = 917482416 := rfl
  have s4 : ((917482417 : Int) : Rat) = 917482417 := rfl
  have es1 : (((397776337 : Int) : Rat)) ≤ 1000000000 * se9 := by rw [s1]; grind
  have es2 : 1000000000 * se9 ≤ (((397776338 : Int) : Rat)) := by rw [s2]; grind
  have ec1 : (((917482416 : Int) : Rat)) ≤ 1000000000 * ce9 := by rw [s3]; grind
  have ec2 : 1000000000 * ce9 ≤ (((917482417 : Int) : Rat)) := by rw [s4]; grind
  obtain ⟨c1, c2⟩ := prod_inW (al := pvLo t) (ah := pvHi t) (bl := 917482416) (bh := 917482417) (by omega) (by omega) v0 (by decide) (by decide) (by decide) V1 V2 ec1 ec2
  obtain ⟨d1, d2⟩ := prod_inW (al := pvLo t) (ah := pvHi t) (bl := 397776337) (bh := 397776338) (by omega) (by omega) v0 (by decide) (by decide) (by decide) V1 V2 es1 es2
  have yl := icast (show pyLo t ≤ pcb t - 7500000 by omega)
  have yh := icast (show pcb t + 7500000 ≤ pyHi t by omega)
  have ym := icast (show pyLo t ≤ pcb t + 7500000 by omega)
  have yn := icast (show pcb t - 7500000 ≤ pyHi t by omega)
  push_cast at yl yh ym yn
  obtain ⟨-, e2⟩ := prod_inW (al := pyLo t) (ah := pyHi t) (bl := 397776337) (bh := 397776338) (by omega) (by omega) yo (by decide) (by decide) (by decide) ym yh es1 es2
  obtain ⟨e1, -⟩ := prod_inW (al := pyLo t) (ah := pyHi t) (bl := 397776337) (bh := 397776338) (by omega) (by omega) yo (by decide) (by decide) (by decide) yl yn es1 es2
  obtain ⟨-, f2⟩ := prod_inW (al := pyLo t) (ah := pyHi t) (bl := 917482416) (bh := 917482417) (by omega) (by omega) yo (by decide) (by decide) (by decide) ym yh ec1 ec2
  obtain ⟨f1, -⟩ := prod_inW (al := pyLo t) (ah := pyHi t) (bl := 917482416) (bh := 917482417) (by omega) (by omega) yo (by decide) (by decide) (by decide) yl yn ec1 ec2
  have eY : 1000000000 * pcY t = (pcb t : Rat) := by unfold pcY; grind
  unfold pvG pvH p2Lo p2Hi p3Lo p3Hi
  generalize pvV t Z = W at *
  generalize pcY t = y at *
  generalize (pcb t : Rat) = b at *
  have g1 := Rat.mul_le_mul_of_nonneg_right V3.1 (show 0 ≤ ce9 by grind)
  have g2 := Rat.mul_le_mul_of_nonneg_right V3.2 (show 0 ≤ ce9 by grind)
  have g3 := Rat.mul_le_mul_of_nonneg_right V3.1 (show 0 ≤ se9 by grind)
  have g4 := Rat.mul_le_mul_of_nonneg_right V3.2 (show 0 ≤ se9 by grind)
  push_cast
  clear i1 i2 s1 s2 s3 s4 es1 es2 ec1 ec2 yl yh ym yn V1 V2 V3
  generalize ((ptL (pvLo t) (pvHi t) 917482416 917482417 : Int) : Rat) = A1 at *
  generalize ((ptH (pvLo t) (pvHi t) 917482416 917482417 : Int) : Rat) = A2 at *
  generalize ((ptL (pvLo t) (pvHi t) 397776337 397776338 : Int) : Rat) = B1 at *
  generalize ((ptH (pvLo t) (pvHi t) 397776337 397776338 : Int) : Rat) = B2 at *
  generalize ((ptL (pyLo t) (pyHi t) 397776337 397776338 : Int) : Rat) = C1 at *
  generalize ((ptH (pyLo t) (pyHi t) 397776337 397776338 : Int) : Rat) = C2 at *
  generalize ((ptL (pyLo t) (pyHi t) 917482416 917482417 : Int) : Rat) = D1 at *
  generalize ((ptH (pyLo t) (pyHi t) 917482416 917482417 : Int) : Rat) = D2 at *
  have w1 : (b + 7500000) * (1000000000 * se9) = 1000000000 * (1000000000 * (y * se9)) + 7500000 * 1000000000 * se9 := by rw [← eY]; grind
  have w2 : (b - 7500000) * (1000000000 * se9) = 1000000000 * (1000000000 * (y * se9)) - 7500000 * 1000000000 * se9 := by rw [← eY]; grind
  have w3 : (b + 7500000) * (1000000000 * ce9) = 1000000000 * (1000000000 * (y * ce9)) + 7500000 * 1000000000 * ce9 := by rw [← eY]; grind
  have w4 : (b - 7500000) * (1000000000 * ce9) = 1000000000 * (1000000000 * (y * ce9)) - 7500000 * 1000000000 * ce9 := by rw [← eY]; grind
  have w5 : V * (1000000000 * ce9) = 1000000000 * (V * ce9) := by grind
  have w6 : V * (1000000000 * se9) = 1000000000 * (V * se9) := by grind
  have w7 : (1000000000 * W - V) * ce9 = 1000000000 * (W * ce9) - V * ce9 := by grind
  have w8 : (1000000000 * W - V) * se9 = 1000000000 * (W * se9) - V * se9 := by grind
  rw [w1] at e2
  rw [w2] at e1
  rw [w3] at f2
  rw [w4] at f1
  rw [w5] at c1 c2
  rw [w6] at d1 d2
  rw [w7] at g1 g2
  rw [w8] at g3 g4
  clear w1 w2 w3 w4 w5 w6 w7 w8 eY bb1 bb2 b1 b2 h3 hz h yo y1 y2 v0 v1 v2
  generalize V * ce9 = p1 at *
  generalize V * se9 = p2 at *
  generalize W * ce9 = p3 at *
  generalize W * se9 = p4 at *
  generalize y * ce9 = p5 at *
  generalize y * se9 = p6 at *
  generalize ce9 = cc at *
  generalize se9 = ss at *
  refine ⟨⟨?_, ?_⟩, ⟨?_, ?_⟩⟩ <;> grind
end
section
open Ieee
theorem fm_twoW {s u : Int} {σ υ a b : Rat} (hs : rabs ((s : Rat) - uQ * σ) ≤ a) (hu : rabs ((u : Rat) - uQ * υ) ≤ b) (ha : a ≤ 100000000) (hb : b ≤ 100000000) (bσ : rabs σ ≤ 1 + 1 / 1000000) (bυ : rabs υ ≤ 1 + 1 / 1000000) : rabs ((fm s u : Rat) - uQ * (σ * υ)) ≤ 102/100 * (a + b) + 2 := by
  obtain ⟨f1, f2⟩ := fm_near s u
  have u0 : (0 : Rat) < uQ := by decide +kernel
  have a0 : 0 ≤ a := by have := rabs_nonneg ((s : Rat) - uQ * σ); grind
  have b0 : 0 ≤ b := by have := rabs_nonneg ((u : Rat) - uQ * υ); grind
  have m1 := rabs_le.1 (mul_rabs bσ hu)
  have hu' : rabs (u : Rat) ≤ uQ * (101/100) := by
    have k := rabs_le.1 hu
    have l := rabs_le.1 (mul_rabs (a := uQ) (A := uQ) (by rw [rabs_pos (by decide +kernel)]; exact Rat.le_refl) bυ)
    have hU : 1000000000000000000 ≤ uQ := by decide +kernel
    exact rabs_le.2 ⟨by grind, by grind⟩
  have m2 := rabs_le.1 (mul_rabs hs hu')
  have e : (s : Rat) * u = uQ * (uQ * (σ * υ)) + uQ * (σ * ((u : Rat) - uQ * υ)) + ((s : Rat) - uQ * σ) * u := by grind
  rw [e] at f1 f2
  generalize ((s : Rat) - uQ * σ) * u = d at *
  generalize σ * ((u : Rat) - uQ * υ) = g at *
  generalize σ * υ = z at *
  generalize (fm s u : Rat) = F at *
  have n1 := Rat.mul_le_mul_of_nonneg_left m1.1 (show 0 ≤ uQ by grind)
  have n2 := Rat.mul_le_mul_of_nonneg_left m1.2 (show 0 ≤ uQ by grind)
  have ua := Rat.mul_nonneg (show 0 ≤ uQ by grind) a0
  have ub := Rat.mul_nonneg (show 0 ≤ uQ by grind) b0
  have k1 : (F - uQ * z) * uQ ≤ (102/100 * (a + b) + 2) * uQ := by grind
  have k2 : -(102/100 * (a + b) + 2) * uQ ≤ (F - uQ * z) * uQ := by grind
  exact rabs_le.2 ⟨Rat.le_of_mul_le_mul_right k1 u0, Rat.le_of_mul_le_mul_right k2 u0⟩
theorem sid_angC (lon t : Int) : ∃ k : Int, (sidLo lon t : Rat) - 1/500 ≤ zA (refSid lon t) + (k : Rat) * 1000000000 ∧ zA (refSid lon t) + (k : Rat) * 1000000000 ≤ (sidHi lon t : Rat) + 1/500 := by
  obtain ⟨-, -, -, -, h, u0, u1, a0, a1⟩ := sid_ok lon t
  have hu : unitA (refSid lon t) * 1000000 ≤ refSid lon t * 1048576 ∧ refSid lon t * 1048576 < unitA (refSid lon t) * 1000000 + 1000000 := by unfold unitA; omega
  have h1 := icast hu.1
  have h2 := icast (show refSid lon t * 1048576 ≤ unitA (refSid lon t) * 1000000 + 1000000 by omega)
  clear hu
  generalize unitA (refSid lon t) = m at *
  generalize refSid lon t = a at *
  generalize sidLo lon t = lo at *
  generalize sidHi lon t = hi at *
  refine ⟨-((m - lo * 1048576 + 2000) / 1048576000000000), ?_⟩
  have e := Int.emod_add_mul_ediv (m - lo * 1048576 + 2000) 1048576000000000
  have r0 := Int.emod_nonneg (m - lo * 1048576 + 2000) (show (1048576000000000 : Int) ≠ 0 by decide)
  generalize (m - lo * 1048576 + 2000) / 1048576000000000 = q at *
  generalize (m - lo * 1048576 + 2000) % 1048576000000000 = r at *
  have k1 := icast (show lo * 1048576 - 2000 ≤ m - 1048576000000000 * q by omega)
  have k2 := icast (show m - 1048576000000000 * q ≤ hi * 1048576 + 2000 by omega)
  push_cast at k1 k2 h1 h2
  unfold zA
  push_cast
  constructor <;> grind
/-- The root by its bits. -/
def zbB (rest : Int) : Nat → Int → Int
  | 0, z => z
  | k + 1, z => if fm (z + 2 ^ k) (z + 2 ^ k) ≤ rest then zbB rest k (z + 2 ^ k) else zbB rest k z
theorem zbB_ok (rest : Int) : ∀ (k : Nat) (z : Int), 0 ≤ z → fm z z ≤ rest → (rest < fm (z + 2 ^ k) (z + 2 ^ k) ∨ z + 2 ^ k = 1152921504606846976) → z + 2 ^ k ≤ 1152921504606846976 → 0 ≤ zbB rest k z ∧ fm (zbB rest k z) (zbB rest k z) ≤ rest ∧ (rest < fm (zbB rest k z + 1) (zbB rest k z + 1) ∨ zbB rest k z + 1 = 1152921504606846976) ∧ zbB rest k z + 1 ≤ 1152921504606846976
  | 0, z, h0, h1, h2, h3 => ⟨h0, h1, h2, h3⟩
  | k + 1, z, h0, h1, h2, h3 => by
    have hp : (0 : Int) ≤ 2 ^ k := Int.le_of_lt (Int.pow_pos (by decide))
    have e : z + 2 ^ k + 2 ^ k = z + 2 ^ (k + 1) := by rw [Int.pow_succ]; omega
    unfold zbB
    split
    · rename_i h
      exact zbB_ok rest k (z + 2 ^ k) (by omega) h (by rw [e]; exact h2) (by rw [e]; exact h3)
    · rename_i h
      exact zbB_ok rest k z h0 h1 (.inl (by omega)) (by rw [← e] at h3; omega)
def ctRest (t : Int) : Int := 1152921504606846976 - fm (fu (pca t)) (fu (pca t)) - fm (fu (pcb t)) (fu (pcb t))
def ctZ (t : Int) : Int := zbB (ctRest t) 60 0
theorem one_bd {n : Int} (h0 : -1000000000 ≤ n) (h1 : n ≤ 1000000000) : rabs ((n : Rat) / 1000000000) ≤ 1 := by
  have u := icast h0
  have v := icast h1
  have c1 : ((-1000000000 : Int) : Rat) = -1000000000 := rfl
  have c2 : ((1000000000 : Int) : Rat) = 1000000000 := rfl
  rw [c1] at u
  rw [c2] at v
  rw [rabs_le]; constructor <;> grind
theorem rest_near {t : Int} (a1 : -1000000000 ≤ pca t) (a2 : pca t ≤ 1000000000) (b1 : -1000000000 ≤ pcb t) (b2 : pcb t ≤ 1000000000) : rabs ((ctRest t : Rat) - uQ * (1 - pcX t * pcX t - pcY t * pcY t)) ≤ 14 := by
  have x := fm_twoW (fu_near (pca t)) (fu_near (pca t)) (by decide +kernel) (by decide +kernel) (by have := one_bd a1 a2; grind) (by have := one_bd a1 a2; grind)
  have y := fm_twoW (fu_near (pcb t)) (fu_near (pcb t)) (by decide +kernel) (by decide +kernel) (by have := one_bd b1 b2; grind) (by have := one_bd b1 b2; grind)
  have x := rabs_le.1 x
  have y := rabs_le.1 y
  have hu : uQ = 1152921504606846976 := rfl
  have e : ((ctRest t : Int) : Rat) = uQ - (fm (fu (pca t)) (fu (pca t)) : Rat) - (fm (fu (pcb t)) (fu (pcb t)) : Rat) := by unfold ctRest; rw [hu]; push_cast; rfl
  rw [e]
  unfold pcX pcY
  rw [rabs_le]
  constructor <;> grind
theorem ctZ_bd {t : Int} (h : pErr t = 0) : 0 ≤ ctZ t ∧ ctZ t < 1152921504606846976 ∧ RootZ t ((ctZ t : Rat) / uQ) := by
  obtain ⟨a1, a2, b1, b2, -, -, -⟩ := pc_ok h
  have r := rabs_le.1 (rest_near a1 a2 b1 b2)
  have s := icast (pc_sum h).2
  push_cast at s
  have e1 : pcX t * pcX t = (pca t : Rat) * (pca t : Rat) / 1000000000000000000 := by unfold pcX; grind
  have e2 : pcY t * pcY t = (pcb t : Rat) * (pcb t : Rat) / 1000000000000000000 := by unfold pcY; grind
  have n1 := sq_nonneg (pca t : Rat)
  have n2 := sq_nonneg (pcb t : Rat)
  have hu : uQ = 1152921504606846976 := rfl
  have rp : 0 ≤ ctRest t ∧ ctRest t ≤ 1152921504606846976 + 14 := by
    rw [e1, e2, hu] at r
    have p : ((0 : Int) : Rat) ≤ (ctRest t : Rat) := by
      have c0 : ((0 : Int) : Rat) = 0 := rfl
      rw [c0]; grind
    have q : (ctRest t : Rat) ≤ ((1152921504606846976 + 14 : Int) : Rat) := by push_cast; grind
    exact ⟨Rat.intCast_le_intCast.1 p, Rat.intCast_le_intCast.1 q⟩
  have k := zbB_ok (ctRest t) 60 0 (by decide) (by rw [show fm 0 0 = 0 from rfl]; exact rp.1) (.inr (by decide)) (by decide)
  have ez : zbB (ctRest t) 60 0 = ctZ t := rfl
  rw [ez] at k
  obtain ⟨k0, k1, k2, k3⟩ := k
  refine ⟨k0, by omega, ?_, ?_⟩
  · have := icast k0
    have c0 : ((0 : Int) : Rat) = 0 := rfl
    rw [c0] at this
    rw [hu]; grind
  · obtain ⟨-, f2⟩ := fm_near (ctZ t) (ctZ t)
    obtain ⟨g1, -⟩ := fm_near (ctZ t + 1) (ctZ t + 1)
    have K1 := icast k1
    have K0 := icast k0
    have K3 := icast k3
    have c0 : ((0 : Int) : Rat) = 0 := rfl
    rw [c0] at K0
    have up : (ctRest t : Rat) * uQ ≤ ((ctZ t : Rat) + 1) * ((ctZ t : Rat) + 1) + 14 * uQ := by
      rcases k2 with k2 | k2
      · have K2 := icast (show ctRest t + 1 ≤ fm (ctZ t + 1) (ctZ t + 1) by omega)
        push_cast at K2 g1
        have u0 : 0 ≤ uQ := by decide +kernel
        have m := Rat.mul_le_mul_of_nonneg_right K2 u0
        grind
      · have e : ((ctZ t : Rat) + 1) = uQ := by
          have : ((ctZ t + 1 : Int) : Rat) = ((1152921504606846976 : Int) : Rat) := by rw [k2]
          push_cast at this
          rw [hu]; exact this
        rw [e]
        have R := icast rp.2
        push_cast at R
        have u0 : 0 ≤ uQ := by decide +kernel
        have m := Rat.mul_le_mul_of_nonneg_right R u0
        have e2 : (1152921504606846990 : Rat) = uQ + 14 := by rw [hu]; decide +kernel
        rw [e2] at m
        grind
    have lo : (ctZ t : Rat) * (ctZ t : Rat) ≤ (ctRest t : Rat) * uQ + uQ := by
      have u0 : 0 ≤ uQ := by decide +kernel
      have m := Rat.mul_le_mul_of_nonneg_right K1 u0
      grind
    push_cast at K3
    clear f2 g1 K1 k2 k3 k1 k0 rp ez s e1 e2 n1 n2
    generalize 1 - pcX t * pcX t - pcY t * pcY t = w at *
    generalize (ctZ t : Rat) = z at *
    generalize (ctRest t : Rat) = rr at *
    have ez2 : z / uQ * (z / uQ) * (uQ * uQ) = z * z := by rw [hu]; grind
    generalize z / uQ * (z / uQ) = v at *
    have zz : z * z + 2 * z + 1 = (z + 1) * (z + 1) := by grind
    rw [← zz] at up
    rw [hu] at *
    generalize z * z = y at *
    rw [rabs_le]
    constructor <;> grind
/-- The directions towards the sun, to its side and to the north. -/
def psn (t : Int) : Int := (psm t + 262144000000000) % 1048576000000000
theorem side_arg (t : Int) : argU (psn t) = (argU (psm t) + 250000000000000) % 1000000000000000 := by
  unfold psn argU
  have h : 0 ≤ psm t ∧ psm t < 1048576000000000 := by unfold psm; omega
  generalize psm t = m at *
  rw [Int.emod_emod_of_dvd _ (by decide : (1048576000000000 : Int) ∣ 1048576000000000), Int.emod_eq_of_lt h.1 h.2]
  have hq : m = m / 1048576 * 1048576 + m % 1048576 := by omega
  have hr : 0 ≤ m % 1048576 ∧ m % 1048576 < 1048576 := by omega
  have h0 : 0 ≤ m / 1048576 ∧ m / 1048576 < 1000000000 := by omega
  generalize m / 1048576 = q at *
  generalize m % 1048576 = r at *
  subst hq
  by_cases c : q + 250000000 < 1000000000
  · have e : (q * 1048576 + r + 262144000000000) % 1048576000000000 = (q + 250000000) * 1048576 + r := by omega
    rw [e]
    have e1 : ((q + 250000000) * 1048576 + r) / 1048576 = q + 250000000 := by omega
    have e2 : ((q + 250000000) * 1048576 + r) % 1048576 = r := by omega
    rw [e1, e2]
    omega
  · have e : (q * 1048576 + r + 262144000000000) % 1048576000000000 = (q - 750000000) * 1048576 + r := by omega
    rw [e]
    have e1 : ((q - 750000000) * 1048576 + r) / 1048576 = q - 750000000 := by omega
    have e2 : ((q - 750000000) * 1048576 + r) % 1048576 = r := by omega
    rw [e1, e2]
    omega
theorem side_sc (t : Int) : rabs (S (tq * zA (argU (psn t))) - psC t) ≤ 5 / 1000000000000 ∧ rabs (C (tq * zA (argU (psn t))) + psS t) ≤ 5 / 1000000000000 := by
  obtain ⟨a0, a1⟩ := argU_bd (psm t)
  obtain ⟨b0, b1⟩ := argU_bd (psn t)
  obtain ⟨z0, z1⟩ := zA_bd a0 a1
  obtain ⟨y0, y1⟩ := zA_bd b0 b1
  have e := side_arg t
  have ej : ∃ k : Int, argU (psn t) + k * 1000000000000000 = argU (psm t) + 250000000000000 := ⟨(argU (psm t) + 250000000000000) / 1000000000000000, by omega⟩
  obtain ⟨k, hk⟩ := ej
  have hk' : zA (argU (psn t)) + (k : Rat) * 1000000000 = zA (argU (psm t)) + 250000000 := by
    have : ((argU (psn t) + k * 1000000000000000 : Int) : Rat) = ((argU (psm t) + 250000000000000 : Int) : Rat) := by rw [hk]
    push_cast at this
    unfold zA; grind
  obtain ⟨p1, p2⟩ := sc_furtherW z0 z1 y0 y1 hk' (by grind) (by grind)
  have n := sc_one z0 z1
  obtain ⟨q1, q2⟩ : rabs (S (tq * 250000000) - 1) ≤ 1 / 100000000000000 ∧ rabs (C (tq * 250000000)) ≤ 1 / 100000000000000 := by decide +kernel
  have m1 := rabs_le.1 (mul_rabs n.1 q1)
  have m2 := rabs_le.1 (mul_rabs n.1 q2)
  have m3 := rabs_le.1 (mul_rabs n.2 q1)
  have m4 := rabs_le.1 (mul_rabs n.2 q2)
  have p1 := rabs_le.1 p1
  have p2 := rabs_le.1 p2
  unfold psS psC
  constructor
  · rw [rabs_le]; constructor <;> grind
  · rw [rabs_le]; constructor <;> grind
structure Dir3 (x y z : Int) (X Y Z : Rat) : Prop where
  x : rabs ((x : Rat) - uQ * X) ≤ 20000000
  y : rabs ((y : Rat) - uQ * Y) ≤ 20000000
  z : rabs ((z : Rat) - uQ * Z) ≤ 20000000
theorem flat_dir (l : Rat) : pX l (zA (argU 0)) = C (tq * l) ∧ pY l (zA (argU 0)) = S (tq * l) * ce9 ∧ pZ l (zA (argU 0)) = S (tq * l) * se9 := by
  unfold pX pY pZ
  rw [zb_zero, sc_zero.1, sc_zero.2]
  refine ⟨?_, ?_, ?_⟩ <;> grind
theorem sun_dir (t : Int) : Dir3 (dirX (psm t) 0) (dirY (psm t) 0) (dirZ (psm t) 0) (psC t) (psS t * ce9) (psS t * se9) := by
  obtain ⟨x, y, z⟩ := dir_ok (psm t) 0
  obtain ⟨e1, e2, e3⟩ := flat_dir (zA (argU (psm t)))
  rw [e1] at x
  rw [e2] at y
  rw [e3] at z
  exact ⟨by unfold psC; grind, by unfold psS; grind, by unfold psS; grind⟩
theorem uq_small {a b : Rat} (h : rabs (a - b) ≤ 5 / 1000000000000) {n : Rat} (hn : rabs (n - uQ * a) ≤ 10000000) : rabs (n - uQ * b) ≤ 20000000 := by
  have h := rabs_le.1 h
  have hn := rabs_le.1 hn
  have hu : uQ = 1152921504606846976 := rfl
  rw [hu] at hn ⊢
  rw [rabs_le]; constructor <;> grind
theorem side_dir (t : Int) : Dir3 (dirX (psn t) 0) (dirY (psn t) 0) (dirZ (psn t) 0) (-psS t) (psC t * ce9) (psC t * se9) := by
  obtain ⟨x, y, z⟩ := dir_ok (psn t) 0
  obtain ⟨e1, e2, e3⟩ := flat_dir (zA (argU (psn t)))
  obtain ⟨s1, s2⟩ := side_sc t
  obtain ⟨t1, t2, t3, t4⟩ := tilt_num
  rw [e1] at x
  rw [e2] at y
  rw [e3] at z
  have k1 := rabs_le.1 (mul_rabs s1 (show rabs ce9 ≤ 1 from rabs_le.2 ⟨by grind, by grind⟩))
  have k2 := rabs_le.1 (mul_rabs s1 (show rabs se9 ≤ 1 from rabs_le.2 ⟨by grind, by grind⟩))
  refine ⟨uq_small (a := C (tq * zA (argU (psn t)))) ?_ x, uq_small ?_ y, uq_small ?_ z⟩
  · rw [show C (tq * zA (argU (psn t))) - -psS t = C (tq * zA (argU (psn t))) + psS t by grind]; exact s2
  · rw [rabs_le]; constructor <;> grind
  · rw [rabs_le]; constructor <;> grind
theorem north_dir : Dir3 (dirX 0 262144000000000) (dirY 0 262144000000000) (dirZ 0 262144000000000) 0 (-se9) ce9 := by
  refine ⟨?_, ?_, ?_⟩ <;> decide +kernel
/-- The reference's point. -/
def cdX (t : Int) : Int := fm (ctZ t) (dirX (psm t) 0) + fm (fu (pca t)) (dirX (psn t) 0) + fm (fu (pcb t)) (dirX 0 262144000000000)
def cdY (t : Int) : Int := fm (ctZ t) (dirY (psm t) 0) + fm (fu (pca t)) (dirY (psn t) 0) + fm (fu (pcb t)) (dirY 0 262144000000000)
def cdZ (t : Int) : Int := fm (ctZ t) (dirZ (psm t) 0) + fm (fu (pca t)) (dirZ (psn t) 0) + fm (fu (pcb t)) (dirZ 0 262144000000000)
theorem three_near {z x y a b c : Int} {Z X Y A B D : Rat} (hz : rabs ((z : Rat) - uQ * Z) ≤ 2) (hx : rabs ((x : Rat) - uQ * X) ≤ 2) (hy : rabs ((y : Rat) - uQ * Y) ≤ 2) (ha : rabs ((a : Rat) - uQ * A) ≤ 20000000) (hb : rabs ((b : Rat) - uQ * B) ≤ 20000000) (hc : rabs ((c : Rat) - uQ * D) ≤ 20000000)
    (bz : rabs Z ≤ 1 + 1 / 1000000) (bx : rabs X ≤ 1 + 1 / 1000000) (bY : rabs Y ≤ 1 + 1 / 1000000) (bA : rabs A ≤ 1 + 1 / 1000000) (bB : rabs B ≤ 1 + 1 / 1000000) (bC : rabs D ≤ 1 + 1 / 1000000) :
    rabs (((fm z a + fm x b + fm y c : Int) : Rat) - uQ * (Z * A + X * B + Y * D)) ≤ 62000000 := by
  have p := rabs_le.1 (fm_twoW hz ha (by grind) (by grind) bz bA)
  have q := rabs_le.1 (fm_twoW hx hb (by grind) (by grind) bx bB)
  have r := rabs_le.1 (fm_twoW hy hc (by grind) (by grind) bY bC)
  push_cast
  rw [rabs_le]; constructor <;> grind
theorem cd_near {t : Int} (h : pErr t = 0) : rabs ((cdX t : Rat) - uQ * pvF t ((ctZ t : Rat) / uQ)) ≤ 62000000 ∧ rabs ((cdY t : Rat) - uQ * pvG t ((ctZ t : Rat) / uQ)) ≤ 62000000 ∧ rabs ((cdZ t : Rat) - uQ * pvH t ((ctZ t : Rat) / uQ)) ≤ 62000000 := by
  obtain ⟨-, -, hz⟩ := ctZ_bd h
  obtain ⟨l1, l2⟩ := rz_low h hz
  obtain ⟨a1, a2, b1, b2, -, -, -⟩ := pc_ok h
  obtain ⟨-, -, bs, bc⟩ := ps_sc t
  obtain ⟨t1, t2, t3, t4⟩ := tilt_num
  obtain ⟨s1, s2, s3⟩ := sun_dir t
  obtain ⟨e1, e2, e3⟩ := side_dir t
  obtain ⟨n1, n2, n3⟩ := north_dir
  have u0 : uQ ≠ 0 := by decide +kernel
  have zz : rabs ((ctZ t : Rat) - uQ * ((ctZ t : Rat) / uQ)) ≤ 2 := by
    have : uQ * ((ctZ t : Rat) / uQ) = (ctZ t : Rat) := by rw [Rat.mul_comm]; exact Rat.div_mul_cancel u0
    rw [this, show (ctZ t : Rat) - (ctZ t : Rat) = 0 by grind]; decide +kernel
  generalize (ctZ t : Rat) / uQ = Z at *
  have xx := fu_near (pca t)
  have yy := fu_near (pcb t)
  have bx : rabs ((pca t : Rat) / 1000000000) ≤ 1 + 1 / 1000000 := by have := one_bd a1 a2; grind
  have bY : rabs ((pcb t : Rat) / 1000000000) ≤ 1 + 1 / 1000000 := by have := one_bd b1 b2; grind
  have bz : rabs Z ≤ 1 + 1 / 1000000 := rabs_le.2 ⟨by grind, by grind⟩
  have bce : rabs ce9 ≤ 92/100 := rabs_le.2 ⟨by grind, by grind⟩
  have bse : rabs se9 ≤ 40/100 := rabs_le.2 ⟨by grind, by grind⟩
  have d1 : rabs (psS t * ce9) ≤ 1 + 1 / 1000000 := by have := mul_rabs bs bce; grind
  have d2 : rabs (psS t * se9) ≤ 1 + 1 / 1000000 := by have := mul_rabs bs bse; grind
  have d3 : rabs (psC t * ce9) ≤ 1 + 1 / 1000000 := by have := mul_rabs bc bce; grind
  have d4 : rabs (psC t * se9) ≤ 1 + 1 / 1000000 := by have := mul_rabs bc bse; grind
  have d5 : rabs (-psS t) ≤ 1 + 1 / 1000000 := by rw [rabs_neg]; grind
  have d6 : rabs (-se9) ≤ 1 + 1 / 1000000 := by rw [rabs_neg]; grind
  have d7 : rabs (0 : Rat) ≤ 1 + 1 / 1000000 := by decide +kernel
  have X := three_near zz xx yy s1 e1 n1 bz bx bY (by grind) d5 d7
  have Y := three_near zz xx yy s2 e2 n2 bz bx bY d1 d3 d6
  have W := three_near zz xx yy s3 e3 n3 bz bx bY d2 d4 (by grind)
  refine ⟨?_, ?_, ?_⟩
  · have e : pvF t Z = Z * psC t + (pca t : Rat) / 1000000000 * -psS t + (pcb t : Rat) / 1000000000 * 0 := by unfold pvF pcX; grind
    rw [e]; exact X
  · have e : pvG t Z = Z * (psS t * ce9) + (pca t : Rat) / 1000000000 * (psC t * ce9) + (pcb t : Rat) / 1000000000 * -se9 := by unfold pvG pvV pcX pcY; grind
    rw [e]; exact Y
  · have e : pvH t Z = Z * (psS t * se9) + (pca t : Rat) / 1000000000 * (psC t * se9) + (pcb t : Rat) / 1000000000 * ce9 := by unfold pvH pvV pcX pcY; grind
    rw [e]; exact W
/-- The point's length. -/
theorem pv_len {t : Int} (h : pErr t = 0) {Z : Rat} (hz : RootZ t Z) : pvF t Z * pvF t Z + pvG t Z * pvG t Z + pvH t Z * pvH t Z ≤ 1 + 1 / 1000000000 := by
  obtain ⟨a1, a2, b1, b2, -, -, -⟩ := pc_ok h
  obtain ⟨l1, l2⟩ := rz_low h hz
  obtain ⟨a0, a1'⟩ := argU_bd (psm t)
  obtain ⟨z0, z1⟩ := zA_bd a0 a1'
  have cc : rabs (psS t * psS t + psC t * psC t - 1) ≤ 1 / 100000000000 := circT z0 z1
  have ct : rabs (se9 * se9 + ce9 * ce9 - 1) ≤ 1 / 100000000000 := circT (z := 65109000) (by decide +kernel) (by decide +kernel)
  have hzz := rabs_le.1 hz.z
  have bx := sq_bd (one_bd a1 a2)
  have bY := sq_bd (one_bd b1 b2)
  have e1 : (pca t : Rat) / 1000000000 = pcX t := rfl
  have e2 : (pcb t : Rat) / 1000000000 = pcY t := rfl
  rw [e1] at bx
  rw [e2] at bY
  have n1 := sq_nonneg (pcX t)
  have n2 := sq_nonneg (pcY t)
  have n3 := sq_nonneg (Z * psS t + pcX t * psC t)
  have bv : rabs (Z * Z + pcX t * pcX t) ≤ 11/10 := rabs_le.2 ⟨by grind, by grind⟩
  have m1 := rabs_le.1 (mul_rabs bv cc)
  have e3 : (Z * psS t + pcX t * psC t) * (Z * psS t + pcX t * psC t) + (Z * psC t - pcX t * psS t) * (Z * psC t - pcX t * psS t) = (Z * Z + pcX t * pcX t) * (psS t * psS t + psC t * psC t - 1) + (Z * Z + pcX t * pcX t) := by grind
  have n4 := sq_nonneg (Z * psC t - pcX t * psS t)
  have bw : rabs ((Z * psS t + pcX t * psC t) * (Z * psS t + pcX t * psC t) + pcY t * pcY t) ≤ 12/10 := rabs_le.2 ⟨by grind, by grind⟩
  have m2 := rabs_le.1 (mul_rabs bw ct)
  unfold pvF pvG pvH pvV
  generalize Z * psS t + pcX t * psC t = V at *
  generalize Z * psC t - pcX t * psS t = F at *
  generalize pcY t = y at *
  have e4 : F * F + (V * ce9 - y * se9) * (V * ce9 - y * se9) + (V * se9 + y * ce9) * (V * se9 + y * ce9) = F * F + (V * V + y * y) * (se9 * se9 + ce9 * ce9 - 1) + (V * V + y * y) := by grind
  rw [e4]
  clear e4 e1 e2 bw bv cc ct
  generalize (V * V + y * y) * (se9 * se9 + ce9 * ce9 - 1) = q1 at *
  generalize (Z * Z + pcX t * pcX t) * (psS t * psS t + psC t * psC t - 1) = q2 at *
  grind
end
section
open Ieee
structure NearV (a h : Int) (x y : Rat) : Prop where
  c1 : -(131/100) ≤ C (tq * a) * y - S (tq * a) * x
  c2 : -(131/100) ≤ S (tq * h) * x - C (tq * h) * y
  c3 : -(22/100) ≤ (C (tq * a) + C (tq * h)) * x + (S (tq * a) + S (tq * h)) * y
theorem inArc_nearV {a h u v : Int} {x y : Rat} (a0 : 0 ≤ a) (a1 : a < 1000000000) (h0 : 0 ≤ h) (h1 : h < 1000000000) (hb : NearV a h x y) (hu : rabs ((u : Rat) - uQ * (y / 1000000000)) ≤ 140000000) (hv : rabs ((v : Rat) - uQ * (x / 1000000000)) ≤ 140000000) (bu : rabs (u : Rat) ≤ 1160000000000000000) (bv : rabs (v : Rat) ≤ 1160000000000000000) : InArcOk a h u v := by
  obtain ⟨s1, s2⟩ := sc_ang a0 a1
  obtain ⟨s3, s4⟩ := sc_ang h0 h1
  rw [angU_tq] at s1 s2 s3 s4
  have ra := ang_range a0 a1
  have rh := ang_range h0 h1
  rw [angU_tq] at ra rh
  have qa := SC_bd ra.2.2
  have qh := SC_bd rh.2.2
  clear ra rh
  have g1 := rabs_le.1 (fm_sc s2 bu Rat.le_refl)
  have g2 := rabs_le.1 (fm_sc s1 bv Rat.le_refl)
  have g3 := rabs_le.1 (fm_sc s3 bv Rat.le_refl)
  have g4 := rabs_le.1 (fm_sc s4 bu Rat.le_refl)
  have g5 := rabs_le.1 (fm_sc s2 bv Rat.le_refl)
  have g6 := rabs_le.1 (fm_sc s1 bu Rat.le_refl)
  have g7 := rabs_le.1 (fm_sc s4 bv Rat.le_refl)
  have g8 := rabs_le.1 (fm_sc s3 bu Rat.le_refl)
  have m1 := rabs_le.1 (mul_rabs qa.2 hu)
  have m2 := rabs_le.1 (mul_rabs qa.1 hv)
  have m3 := rabs_le.1 (mul_rabs qh.1 hv)
  have m4 := rabs_le.1 (mul_rabs qh.2 hu)
  have m5 := rabs_le.1 (mul_rabs qa.2 hv)
  have m6 := rabs_le.1 (mul_rabs qa.1 hu)
  have m7 := rabs_le.1 (mul_rabs qh.2 hv)
  have m8 := rabs_le.1 (mul_rabs qh.1 hu)
  obtain ⟨b1, b2, b3⟩ := hb
  clear s1 s2 s3 s4 hu hv bu bv qa qh
  have hU : uQ = 1152921504606846976 := rfl
  simp only [hU] at m1 m2 m3 m4 m5 m6 m7 m8
  clear hU
  generalize S (tq * a) = sa at *
  generalize C (tq * a) = ca at *
  generalize S (tq * h) = sh at *
  generalize C (tq * h) = ch at *
  have r : ∀ {p q : Int}, (p : Rat) ≤ (q : Rat) → p ≤ q := fun h => Rat.intCast_le_intCast.1 h
  have r' : ∀ {p q : Int}, (p : Rat) < (q : Rat) → p < q := fun h => by exact_mod_cast h
  have d1 : ((-2147483648 : Int) : Rat) = -2147483648 := rfl
  refine ⟨r ?_, r ?_, r' ?_⟩
  · rw [d1]; push_cast; clear g3 g4 g5 g6 g7 g8 m3 m4 m5 m6 m7 m8 b2 b3 r r' d1; grind
  · rw [d1]; push_cast; clear g1 g2 g5 g6 g7 g8 m1 m2 m5 m6 m7 m8 b1 b3 r r' d1; grind
  · rw [d1]; push_cast; clear g1 g2 g3 g4 m1 m2 m3 m4 b1 b2 r r' d1; grind
/-- The sidereal angle. -/
def ctS (t : Int) : Rat := zA (refSid 0 t)
theorem ctS_bd (t : Int) : 0 ≤ ctS t ∧ ctS t ≤ 1000000000 := by
  have o := sid_ok 0 t
  exact zA_bd o.a0 o.a1
theorem ctr_split (t : Int) : ∃ Q : Int, ctrLo t = pA0 t - sidHi 0 t - Q * 1000000000 ∧ ctrHi t = pA1 t - sidLo 0 t - Q * 1000000000 ∧ 0 ≤ ctrLo t ∧ ctrLo t < 1000000000 := by
  unfold ctrHi ctrLo
  refine ⟨pA0 t / 1000000000 + (pA0 t % 1000000000 - sidHi 0 t) / 1000000000, ?_, ?_, ?_, ?_⟩ <;> omega
theorem corner_turned {t : Int} {x y : Int} {D φ : Rat} {k : Int} (hD : HeadI x y D) (hφ : rabs (φ - (D + (k : Rat) * 1000000000)) ≤ 1 / 1000000) (h1 : (pA0 t : Rat) + 8/10000 ≤ φ) (h2 : φ ≤ (pA1 t : Rat) - 8/10000) (hw : ctrHi t - ctrLo t ≤ 400000000) :
    Turned (ctrLo t) (ctrHi t % 1000000000) ((x : Rat) * C (tq * ctS t) + (y : Rat) * S (tq * ctS t)) ((y : Rat) * C (tq * ctS t) - (x : Rat) * S (tq * ctS t)) (rabs (x : Rat) + rabs (y : Rat)) := by
  obtain ⟨z, r, n, hc⟩ := corZ hD
  obtain ⟨s0, s1⟩ := ctS_bd t
  obtain ⟨ks, k1, k2⟩ := sid_angC 0 t
  obtain ⟨Q, q1, q2, q3, q4⟩ := ctr_split t
  have hz0 := hc.z0
  have hz1 := hc.z1
  have e0 : zA (refSid 0 t) = ctS t := rfl
  rw [e0] at k1 k2
  obtain ⟨m, hm⟩ : ∃ m : Int, z = D + (m : Rat) * 1000000000 := by
    rcases hc.j with h | h
    · exact ⟨0, by rw [h, show ((0 : Int) : Rat) = 0 from rfl]; grind⟩
    · exact ⟨1, by rw [h, show ((1 : Int) : Rat) = 1 from rfl]; grind⟩
  generalize ctS t = σ at *
  obtain ⟨t0, j, t00, t01, ht⟩ : ∃ (t0 : Rat) (j : Int), 0 ≤ t0 ∧ t0 ≤ 1000000000 ∧ t0 = z - σ + (j : Rat) * 1000000000 := by
    by_cases q : σ ≤ z
    · exact ⟨z - σ, 0, by grind, by grind, by rw [show ((0 : Int) : Rat) = 0 from rfl]; grind⟩
    · exact ⟨z - σ + 1000000000, 1, by grind, by grind, by rw [show ((1 : Int) : Rat) = 1 from rfl]; grind⟩
  have hh : ctrLo t ≤ ctrHi t := by
    have o := (sid_ok 0 t).o
    have : (pA0 t : Rat) ≤ (pA1 t : Rat) := by grind
    have := Rat.intCast_le_intCast.1 this
    omega
  have E1 : (ctrLo t : Rat) = (pA0 t : Rat) - (sidHi 0 t : Rat) - (Q : Rat) * 1000000000 := by rw [q1]; push_cast; rfl
  have E2 : (ctrHi t : Rat) = (pA1 t : Rat) - (sidLo 0 t : Rat) - (Q : Rat) * 1000000000 := by rw [q2]; push_cast; rfl
  have hφ := rabs_le.1 hφ
  have hp : PtW (ctrLo t) (ctrHi t % 1000000000) t0 := by
    refine ptW (k := k - m - j - ks - Q) q3 q4 hh hw t00 t01 ?_ ?_
    · rw [E1, ht, hm]; push_cast; clear hc; grind
    · rw [E2, ht, hm]; push_cast; clear hc; grind
  obtain ⟨u0, u1⟩ := emod_bd (ctrHi t)
  exact turned_of hc s0 s1 t00 t01 ht hp q3 q4 u0 u1
theorem rot_lin1 (ca sa cs ss x y : Rat) : ca * (y * cs - x * ss) - sa * (x * cs + y * ss) = -(ca * ss + sa * cs) * x + (ca * cs - sa * ss) * y := by grind
theorem rot_lin2 (ca sa cs ss x y : Rat) : sa * (x * cs + y * ss) - ca * (y * cs - x * ss) = (ca * ss + sa * cs) * x + -(ca * cs - sa * ss) * y := by grind
theorem rot_lin3 (p q cs ss x y : Rat) : p * (x * cs + y * ss) + q * (y * cs - x * ss) = (p * cs - q * ss) * x + (p * ss + q * cs) * y := by grind
theorem lin_lo2C {s xl xh x ε : Rat} (h0 : 0 ≤ ε) (h1 : xl - ε ≤ x) (h2 : x ≤ xh + ε) : s * xl - rabs s * ε ≤ s * x ∨ s * xh - rabs s * ε ≤ s * x := by
  have hs := rabs_le.1 (Rat.le_refl : rabs s ≤ rabs s)
  have e0 := Rat.mul_le_mul_of_nonneg_right hs.1 h0
  have e1 := Rat.mul_le_mul_of_nonneg_right hs.2 h0
  by_cases h : 0 ≤ s
  · left
    have m := Rat.mul_le_mul_of_nonneg_left h1 h
    grind
  · right
    have m := Rat.mul_le_mul_of_nonneg_left h2 (show 0 ≤ -s by grind)
    grind
theorem rect_lin2C {p q xl xh yl yh x y β ε δ K : Rat} (h0 : 0 ≤ ε) (h0' : 0 ≤ δ) (hk : rabs p * ε + rabs q * δ ≤ K) (h1 : -β ≤ p * xl + q * yl) (h2 : -β ≤ p * xl + q * yh) (h3 : -β ≤ p * xh + q * yl) (h4 : -β ≤ p * xh + q * yh)
    (x1 : xl - ε ≤ x) (x2 : x ≤ xh + ε) (y1 : yl - δ ≤ y) (y2 : y ≤ yh + δ) : -β - K ≤ p * x + q * y := by
  rcases lin_lo2C (s := p) h0 x1 x2 with u | u <;> rcases lin_lo2C (s := q) h0' y1 y2 with v | v <;> grind
theorem k_of {p q P : Rat} (g : rabs p ≤ P) : rabs p * (53/1000) + rabs q * 0 ≤ P * (53/1000) := by
  generalize rabs p = a at *
  generalize rabs q = b at *
  grind
theorem ctr_near {t : Int} (h : pErr t = 0) {Z : Rat} (hz : RootZ t Z) (hw : ctrHi t - ctrLo t ≤ 400000000) :
    NearV (ctrLo t) (ctrHi t % 1000000000) (1000000000 * pvF t Z * C (tq * ctS t) + 1000000000 * pvG t Z * S (tq * ctS t)) (1000000000 * pvG t Z * C (tq * ctS t) - 1000000000 * pvF t Z * S (tq * ctS t)) := by
  obtain ⟨-, -, h3, h4⟩ := pErr_zero h
  obtain ⟨-, ⟨f0, f1, f2⟩, ⟨g0, g1, g2⟩, -⟩ := pc_all h3
  obtain ⟨-, i1, i2⟩ := pv_vf h hz
  obtain ⟨⟨j1, j2⟩, -⟩ := pv_gh h hz
  have hzz : ¬ (p2Lo t ≤ 0 ∧ 0 ≤ p2Hi t ∧ p1Lo t ≤ 0 ∧ 0 ≤ p1Hi t) := fun q => h4 (.inl q)
  obtain ⟨⟨D0, E, L, H, hv⟩, -, -⟩ := c_Arc_all (p2Lo t) (p2Hi t) (p1Lo t) (p1Hi t) g0 f0 (by omega) (by omega) (by omega) (by omega) hzz
  obtain ⟨q3, q4⟩ : 0 ≤ ctrLo t ∧ ctrLo t < 1000000000 := by obtain ⟨Q, -, -, a, b⟩ := ctr_split t; exact ⟨a, b⟩
  obtain ⟨u0, u1⟩ := emod_bd (ctrHi t)
  obtain ⟨s0, s1⟩ := ctS_bd t
  obtain ⟨h0, hk, -, l0, lk, -, gg0, gk, -, lo1, -, hi1, -⟩ := hv
  have lo1' : (pA0 t : Rat) ≤ D0 + L - 9 / 10000 := lo1
  have hi1' : D0 + H + 9 / 10000 ≤ (pA1 t : Rat) := hi1
  have k0 : Turned (ctrLo t) (ctrHi t % 1000000000) ((p1Lo t : Rat) * C (tq * ctS t) + (p2Lo t : Rat) * S (tq * ctS t)) ((p2Lo t : Rat) * C (tq * ctS t) - (p1Lo t : Rat) * S (tq * ctS t)) (rabs (p1Lo t : Rat) + rabs (p2Lo t : Rat)) :=
    corner_turned h0 (φ := D0) (k := 0) (by
      have e : D0 - (D0 + ((0 : Int) : Rat) * 1000000000) = 0 := by have : ((0 : Int) : Rat) = 0 := rfl
                                                                    rw [this]; grind
      rw [e]; decide +kernel) (by grind) (by grind) hw
  have kk : ∀ k, k < 3 → Turned (ctrLo t) (ctrHi t % 1000000000) (((arcC (p2Lo t) (p2Hi t) (p1Lo t) (p1Hi t) k).2 : Rat) * C (tq * ctS t) + ((arcC (p2Lo t) (p2Hi t) (p1Lo t) (p1Hi t) k).1 : Rat) * S (tq * ctS t)) (((arcC (p2Lo t) (p2Hi t) (p1Lo t) (p1Hi t) k).1 : Rat) * C (tq * ctS t) - ((arcC (p2Lo t) (p2Hi t) (p1Lo t) (p1Hi t) k).2 : Rat) * S (tq * ctS t)) (rabs ((arcC (p2Lo t) (p2Hi t) (p1Lo t) (p1Hi t) k).2 : Rat) + rabs ((arcC (p2Lo t) (p2Hi t) (p1Lo t) (p1Hi t) k).1 : Rat)) := by
    intro k hk3
    obtain ⟨D, j, d1, d2⟩ := hk k hk3
    have a1 := lk k hk3
    have a2 := gk k hk3
    have d2' := rabs_le.1 d2
    exact corner_turned d1 (φ := D0 + E k) (k := j) (rabs_le.2 ⟨by grind, by grind⟩) (by grind) (by grind) hw
  have k1 := kk 0 (by decide)
  have k2 := kk 1 (by decide)
  have k3 := kk 2 (by decide)
  clear kk hk lk gk
  change Turned (ctrLo t) (ctrHi t % 1000000000) ((p1Hi t : Rat) * C (tq * ctS t) + (p2Lo t : Rat) * S (tq * ctS t)) ((p2Lo t : Rat) * C (tq * ctS t) - (p1Hi t : Rat) * S (tq * ctS t)) (rabs (p1Hi t : Rat) + rabs (p2Lo t : Rat)) at k1
  change Turned (ctrLo t) (ctrHi t % 1000000000) ((p1Lo t : Rat) * C (tq * ctS t) + (p2Hi t : Rat) * S (tq * ctS t)) ((p2Hi t : Rat) * C (tq * ctS t) - (p1Lo t : Rat) * S (tq * ctS t)) (rabs (p1Lo t : Rat) + rabs (p2Hi t : Rat)) at k2
  change Turned (ctrLo t) (ctrHi t % 1000000000) ((p1Hi t : Rat) * C (tq * ctS t) + (p2Hi t : Rat) * S (tq * ctS t)) ((p2Hi t : Rat) * C (tq * ctS t) - (p1Hi t : Rat) * S (tq * ctS t)) (rabs (p1Hi t : Rat) + rabs (p2Hi t : Rat)) at k3
  have b1 := rabs_int (n := p1Lo t) (B := 2000000000) (by omega) (by omega)
  have b2 := rabs_int (n := p1Hi t) (B := 2000000000) (by omega) (by omega)
  have b3 := rabs_int (n := p2Lo t) (B := 3000000000) (by omega) (by omega)
  have b4 := rabs_int (n := p2Hi t) (B := 3000000000) (by omega) (by omega)
  have L0 := icast q3
  have L1 := icast (show ctrLo t ≤ 1000000000 by omega)
  have K0 := icast u0
  have K1 := icast (show ctrHi t % 1000000000 ≤ 1000000000 by omega)
  have z0 : ((0 : Int) : Rat) = 0 := rfl
  have z1 : ((1000000000 : Int) : Rat) = 1000000000 := rfl
  rw [z0] at L0 K0
  rw [z1] at L1 K1
  obtain ⟨bl1, bl2⟩ := sc_one L0 L1
  obtain ⟨bh1, bh2⟩ := sc_one K0 K1
  obtain ⟨bs1, bs2⟩ := sc_one s0 s1
  have c2 : ((2000000000 : Int) : Rat) = 2000000000 := rfl
  have c3 : ((3000000000 : Int) : Rat) = 3000000000 := rfl
  try rw [c2] at b1 b2
  try rw [c3] at b3 b4
  have wide : ∀ {p q v : Rat}, rabs p ≤ 2000000000 → rabs q ≤ 3000000000 → -(24 / 100000000000 * (rabs p + rabs q)) ≤ v → -(12/10) ≤ v := by
    intro p q v h1 h2 h3; grind
  have two : ∀ {a b c d : Rat}, rabs a ≤ 1 + 1 / 100000000000 → rabs b ≤ 1 + 1 / 100000000000 → rabs c ≤ 1 + 1 / 100000000000 → rabs d ≤ 1 + 1 / 100000000000 → rabs (a * b + c * d) ≤ 2001/1000 ∧ rabs (-(a * b + c * d)) ≤ 2001/1000 ∧ rabs (a * b - c * d) ≤ 2001/1000 := by
    intro a b c d h1 h2 h3 h4
    have p := rabs_le.1 (mul_rabs h1 h2)
    have q := rabs_le.1 (mul_rabs h3 h4)
    refine ⟨rabs_le.2 ⟨by grind, by grind⟩, ?_, rabs_le.2 ⟨by grind, by grind⟩⟩
    rw [rabs_neg]; exact rabs_le.2 ⟨by grind, by grind⟩
  have zz : (0 : Rat) ≤ 0 := Rat.le_refl
  have ee : (0 : Rat) ≤ 53/1000 := by decide +kernel
  have y1 : (p2Lo t : Rat) - 0 ≤ 1000000000 * pvG t Z := by grind
  have y2 : 1000000000 * pvG t Z ≤ (p2Hi t : Rat) + 0 := by grind
  obtain ⟨k01, k02, k03⟩ := k0
  obtain ⟨k11, k12, k13⟩ := k1
  obtain ⟨k21, k22, k23⟩ := k2
  obtain ⟨k31, k32, k33⟩ := k3
  have e01 := wide b1 b3 k01
  have e11 := wide b2 b3 k11
  have e21 := wide b1 b4 k21
  have e31 := wide b2 b4 k31
  have e02 := wide b1 b3 k02
  have e12 := wide b2 b3 k12
  have e22 := wide b1 b4 k22
  have e32 := wide b2 b4 k32
  clear k01 k02 k11 k12 k21 k22 k31 k32 wide b1 b2 b3 b4
  refine ⟨?_, ?_, ?_⟩
  · rw [rot_lin1] at e01 e11 e21 e31 ⊢
    have g := (two bl2 bs1 bl1 bs2).2.1
    have r := rect_lin2C (β := 12/10) (K := 2001/1000 * (53/1000)) ee zz (k_of g) e01 e21 e11 e31 i1 i2 y1 y2
    clear g two
    grind
  · rw [rot_lin2] at e02 e12 e22 e32 ⊢
    have g := (two bh2 bs1 bh1 bs2).1
    have r := rect_lin2C (β := 12/10) (K := 2001/1000 * (53/1000)) ee zz (k_of g) e02 e22 e12 e32 i1 i2 y1 y2
    clear g two
    grind
  · rw [rot_lin3] at k03 k13 k23 k33 ⊢
    have g : rabs ((C (tq * (ctrLo t : Rat)) + C (tq * ((ctrHi t % 1000000000 : Int) : Rat))) * C (tq * ctS t) - (S (tq * (ctrLo t : Rat)) + S (tq * ((ctrHi t % 1000000000 : Int) : Rat))) * S (tq * ctS t)) ≤ 4002/1000 := by
      have p := rabs_le.1 (two bl2 bs2 bl1 bs1).2.2
      have q := rabs_le.1 (two bh2 bs2 bh1 bs1).2.2
      exact rabs_le.2 ⟨by grind, by grind⟩
    have r := rect_lin2C (β := 0) (K := 4002/1000 * (53/1000)) ee zz (k_of g) (by rw [show -(0 : Rat) = 0 by decide +kernel]; exact k03) (by rw [show -(0 : Rat) = 0 by decide +kernel]; exact k23) (by rw [show -(0 : Rat) = 0 by decide +kernel]; exact k13) (by rw [show -(0 : Rat) = 0 by decide +kernel]; exact k33) i1 i2 y1 y2
    clear g two
    grind
theorem turn_len {F G s c : Rat} (hc : rabs (s * s + c * c - 1) ≤ 1 / 1000000000) (h : F * F + G * G ≤ 1 + 1 / 1000000000) : rabs (G * c - F * s) ≤ 1 + 1 / 1000000 ∧ rabs (F * c + G * s) ≤ 1 + 1 / 1000000 := by
  have n : 0 ≤ F * F + G * G := by have := sq_nonneg F; have := sq_nonneg G; grind
  have k1 := cauchy (s := s) (c := c) (a := -F) (b := G) (R := 1 + 1 / 1000000) hc (by decide +kernel) (by
    have e : -F * -F + G * G = F * F + G * G := by grind
    rw [e]
    generalize F * F + G * G = w at *
    grind)
  have k2 := cauchy (s := s) (c := c) (a := G) (b := F) (R := 1 + 1 / 1000000) hc (by decide +kernel) (by
    have e : G * G + F * F = F * F + G * G := by grind
    rw [e]
    generalize F * F + G * G = w at *
    grind)
  rw [show s * -F + c * G = G * c - F * s by grind] at k1
  rw [show s * G + c * F = F * c + G * s by grind] at k2
  exact ⟨k1, k2⟩
/-- The parts that InArc gets. -/
def ctU (t : Int) : Int := fm (sc (refSid 0 t)).2 (cdY t) - fm (sc (refSid 0 t)).1 (cdX t)
def ctV (t : Int) : Int := fm (sc (refSid 0 t)).2 (cdX t) + fm (sc (refSid 0 t)).1 (cdY t)
theorem ctr_arc {t : Int} (h : pErr t = 0) (hw : ctrHi t - ctrLo t ≤ 400000000) : InArcOk (ctrLo t) (ctrHi t % 1000000000) (ctU t) (ctV t) ∧ (-1160000000000000000 ≤ ctU t ∧ ctU t ≤ 1160000000000000000) ∧ -1160000000000000000 ≤ ctV t ∧ ctV t ≤ 1160000000000000000 := by
  obtain ⟨-, -, hz⟩ := ctZ_bd h
  obtain ⟨n1, n2, -⟩ := cd_near h
  have hl := pv_len h hz
  have hn := ctr_near h hz hw
  obtain ⟨q3, q4⟩ : 0 ≤ ctrLo t ∧ ctrLo t < 1000000000 := by obtain ⟨Q, -, -, a, b⟩ := ctr_split t; exact ⟨a, b⟩
  obtain ⟨u0, u1⟩ := emod_bd (ctrHi t)
  obtain ⟨s0, s1⟩ := ctS_bd t
  have o := sid_ok 0 t
  obtain ⟨m1, m2⟩ := sc_zA o.a0 o.a1
  have e0 : zA (refSid 0 t) = ctS t := rfl
  rw [e0] at m1 m2
  have cc := circT s0 s1
  obtain ⟨b1, b2⟩ := sc_one s0 s1
  generalize (ctZ t : Rat) / uQ = Z at *
  have nH := sq_nonneg (pvH t Z)
  have nF := sq_nonneg (pvF t Z)
  have nG := sq_nonneg (pvG t Z)
  have hFG : pvF t Z * pvF t Z + pvG t Z * pvG t Z ≤ 1 + 1 / 1000000000 := by grind
  have bF : rabs (pvF t Z) ≤ 1 + 1 / 1000000 := sq_rabs (by decide +kernel) (by grind)
  have bG : rabs (pvG t Z) ≤ 1 + 1 / 1000000 := sq_rabs (by decide +kernel) (by grind)
  obtain ⟨lu, lv⟩ := turn_len (s := S (tq * ctS t)) (c := C (tq * ctS t)) (by grind) hFG
  have bs : rabs (S (tq * ctS t)) ≤ 1 + 1 / 1000000 := by grind
  have bc : rabs (C (tq * ctS t)) ≤ 1 + 1 / 1000000 := by grind
  have p1 := rabs_le.1 (fm_twoW m2 n2 (by grind) (by grind) bc bG)
  have p2 := rabs_le.1 (fm_twoW m1 n1 (by grind) (by grind) bs bF)
  have p3 := rabs_le.1 (fm_twoW m2 n1 (by grind) (by grind) bc bF)
  have p4 := rabs_le.1 (fm_twoW m1 n2 (by grind) (by grind) bs bG)
  have U : rabs ((ctU t : Rat) - uQ * (pvG t Z * C (tq * ctS t) - pvF t Z * S (tq * ctS t))) ≤ 130000000 := by
    unfold ctU; push_cast
    rw [rabs_le]; constructor <;> grind
  have V : rabs ((ctV t : Rat) - uQ * (pvF t Z * C (tq * ctS t) + pvG t Z * S (tq * ctS t))) ≤ 130000000 := by
    unfold ctV; push_cast
    rw [rabs_le]; constructor <;> grind
  have fb : ∀ {n : Int} {x : Rat}, rabs ((n : Rat) - uQ * x) ≤ 130000000 → rabs x ≤ 1 + 1 / 1000000 → rabs (n : Rat) ≤ 1160000000000000000 ∧ -1160000000000000000 ≤ n ∧ n ≤ 1160000000000000000 := by
    intro n x h bx
    have h := rabs_le.1 h
    have l := rabs_le.1 (mul_rabs (a := uQ) (A := uQ) (by rw [rabs_pos (by decide +kernel)]; exact Rat.le_refl) bx)
    have hU : uQ = 1152921504606846976 := rfl
    rw [hU] at h l
    have r1 : (n : Rat) ≤ 1160000000000000000 := by grind
    have r2 : -1160000000000000000 ≤ (n : Rat) := by grind
    have c1 : ((1160000000000000000 : Int) : Rat) = 1160000000000000000 := rfl
    have c2 : ((-1160000000000000000 : Int) : Rat) = -1160000000000000000 := rfl
    refine ⟨rabs_le.2 ⟨r1, r2⟩, ?_, ?_⟩
    · rw [← c2] at r2; exact Rat.intCast_le_intCast.1 r2
    · rw [← c1] at r1; exact Rat.intCast_le_intCast.1 r1
  obtain ⟨w1, w2, w3⟩ := fb U lu
  obtain ⟨w4, w5, w6⟩ := fb V lv
  refine ⟨inArc_nearV q3 q4 u0 u1 hn ?_ ?_ w1 w4, ⟨w2, w3⟩, w5, w6⟩
  · have e : (1000000000 * pvG t Z * C (tq * ctS t) - 1000000000 * pvF t Z * S (tq * ctS t)) / 1000000000 = pvG t Z * C (tq * ctS t) - pvF t Z * S (tq * ctS t) := by grind
    rw [e]; grind
  · have e : (1000000000 * pvF t Z * C (tq * ctS t) + 1000000000 * pvG t Z * S (tq * ctS t)) / 1000000000 = pvF t Z * C (tq * ctS t) + pvG t Z * S (tq * ctS t) := by grind
    rw [e]; grind
theorem ctr_asin {t : Int} (h : pErr t = 0) : InAsin (asLo (p3Lo t)) (asHi (p3Hi t)) (cdZ t) ∧ -1200000000000000000 ≤ cdZ t ∧ cdZ t ≤ 1200000000000000000 ∧ (-1200000000000000000 ≤ cdX t ∧ cdX t ≤ 1200000000000000000) ∧ -1200000000000000000 ≤ cdY t ∧ cdY t ≤ 1200000000000000000 := by
  obtain ⟨-, -, hz⟩ := ctZ_bd h
  obtain ⟨n1, n2, n3⟩ := cd_near h
  have hl := pv_len h hz
  obtain ⟨-, i1, i2⟩ := pv_gh h hz
  generalize (ctZ t : Rat) / uQ = Z at *
  have nH := sq_nonneg (pvH t Z)
  have nF := sq_nonneg (pvF t Z)
  have nG := sq_nonneg (pvG t Z)
  have bH : rabs (pvH t Z) ≤ 1 + 1 / 1000000000 := sq_rabs (by decide +kernel) (by grind)
  have bF : rabs (pvF t Z) ≤ 1 + 1 / 1000000 := sq_rabs (by decide +kernel) (by grind)
  have bG : rabs (pvG t Z) ≤ 1 + 1 / 1000000 := sq_rabs (by decide +kernel) (by grind)
  have f1 := fine_bd (n := cdX t) (x := pvF t Z) (by grind) bF
  have f2 := fine_bd (n := cdY t) (x := pvG t Z) (by grind) bG
  have f3 := fine_bd (n := cdZ t) (x := pvH t Z) (by grind) (by grind)
  refine ⟨?_, by omega, by omega, ⟨by omega, by omega⟩, by omega, by omega⟩
  have bz := rabs_le.1 bH
  have cn : ((-1000000000 : Int) : Rat) = -1000000000 := rfl
  have cp : ((1000000000 : Int) : Rat) = 1000000000 := rfl
  have cl : ∀ a : Int, cl9 a = a ∨ (cl9 a = -1000000000 ∧ a ≤ -1000000000) ∨ (cl9 a = 1000000000 ∧ 1000000000 ≤ a) := by intro a; unfold cl9; omega
  refine inAsin_of (x := pvH t Z) (by grind) ?_ ?_
  · have h := as_low (p3Lo t) (z := pvH t Z + 1 / 1000000000) (by
      rcases cl (p3Lo t) with h | ⟨h, g⟩ | ⟨h, g⟩
      · rw [h]; clear cl; grind
      · rw [h, cn]; clear cl; grind
      · rw [h, cp]
        have g := icast g
        rw [cp] at g; clear cl; grind)
    clear cl; grind
  · have h := as_high (p3Hi t) (z := pvH t Z - 1 / 1000000000) (by
      rcases cl (p3Hi t) with h | ⟨h, g⟩ | ⟨h, g⟩
      · rw [h]; clear cl; grind
      · rw [h, cn]
        have g := icast g
        rw [cn] at g; clear cl; grind
      · rw [h, cp]; clear cl; grind)
    clear cl; grind
end
end Go.Proofs.YtcgnhnmigmdalaaGreatDoor
