/- The test of an elongation: the direction turned back lies in the difference of the intervals. No program in sight. -/
import Derived.Test.YtjkhoepohiafeaaDoorPlainElo
set_option linter.unusedVariables false
set_option linter.unusedSimpArgs false
namespace Go.Proofs.YtjkhoepohiafeaaDoor
open Ieee
/-- What a small push across a direction does to the test. -/
theorem near_bend {a h : Int} {R G s c x y : Rat} (a0 : 0 ≤ a) (a1 : a < 1000000000) (h0 : 0 ≤ h) (h1 : h < 1000000000) (hN : Near a h (1100000000 * c) (1100000000 * s)) (R0 : 0 ≤ R) (R1 : R ≤ 930000000) (hG : rabs G ≤ 51/100) (hc : s * s + c * c ≤ 1 + 1 / 100000000000)
    (hx : rabs (x - (R * c - G * s)) ≤ 1/20) (hy : rabs (y - (R * s + G * c)) ≤ 1/20) : NearW a h x y := by
  suffices key : -(21/20) ≤ C (tq * a) * y - S (tq * a) * x ∧ -(21/20) ≤ S (tq * h) * x - C (tq * h) * y ∧ -(178/100) ≤ (C (tq * a) + C (tq * h)) * x + (S (tq * a) + S (tq * h)) * y from ⟨key.1, key.2.1, key.2.2⟩
  obtain ⟨n1, n2, n3⟩ := hN
  have ra := ang_range a0 a1
  have rh := ang_range h0 h1
  rw [angU_tq] at ra rh
  have qa := SC_bd ra.2.2
  have qh := SC_bd rh.2.2
  have z0 : ((0 : Int) : Rat) = 0 := rfl
  have z1 : ((1000000000 : Int) : Rat) = 1000000000 := rfl
  have A0 := icast a0
  have A1 := icast (show a ≤ 1000000000 by omega)
  have H0 := icast h0
  have H1 := icast (show h ≤ 1000000000 by omega)
  rw [z0] at A0 H0
  rw [z1] at A1 H1
  have ca := rabs_le.1 (circT A0 A1)
  have ch := rabs_le.1 (circT H0 H1)
  clear A0 A1 H0 H1 z0 z1
  obtain ⟨κ, hκ⟩ : ∃ κ : Rat, κ = R / 1100000000 := ⟨_, rfl⟩
  have kR : R = 1100000000 * κ := by rw [hκ]; grind
  have k0 : 0 ≤ κ := by grind
  have k1 : κ ≤ 846/1000 := by grind
  generalize S (tq * a) = sa at *
  generalize C (tq * a) = cA at *
  generalize S (tq * h) = sh at *
  generalize C (tq * h) = cH at *
  have p1 := Rat.mul_le_mul_of_nonneg_left n1 k0
  have p2 := Rat.mul_le_mul_of_nonneg_left n2 k0
  have p3 := Rat.mul_le_mul_of_nonneg_left n3 k0
  -- the push, along and across
  have b1 := cross_bd (p := sa) (q := cA) (s := -s) (c := c) (r := 1 + 1 / 100000000000) (by decide +kernel) (by grind) (by grind)
  have b2 := cross_bd (p := sh) (q := cH) (s := -s) (c := c) (r := 1 + 1 / 100000000000) (by decide +kernel) (by grind) (by grind)
  have sum2 : (cA + cH) * (cA + cH) + (sa + sh) * (sa + sh) ≤ 2 * (1 + 1 / 100000000000) * (2 * (1 + 1 / 100000000000)) := by
    have d := sq_nn (cA - cH)
    have d2 := sq_nn (sa - sh)
    have e : (2 * (1 + 1 / 100000000000) * (2 * (1 + 1 / 100000000000)) : Rat) = 4 + 8 / 100000000000 + 4 / 10000000000000000000000 := by decide +kernel
    rw [e]
    grind
  have b3 := cross_bd (p := cA + cH) (q := sa + sh) (s := s) (c := c) (r := 2 * (1 + 1 / 100000000000)) (by decide +kernel) sum2 hc
  have g1 := rabs_le.1 (mul_rabs hG b1)
  have g2 := rabs_le.1 (mul_rabs hG b2)
  have g3 := rabs_le.1 (mul_rabs hG b3)
  have t1 := rabs_le.1 (mul_rabs qa.2 hy)
  have t2 := rabs_le.1 (mul_rabs qa.1 hx)
  have t3 := rabs_le.1 (mul_rabs qh.2 hy)
  have t4 := rabs_le.1 (mul_rabs qh.1 hx)
  have t5 := rabs_le.1 (mul_rabs qa.2 hx)
  have t6 := rabs_le.1 (mul_rabs qa.1 hy)
  have t7 := rabs_le.1 (mul_rabs qh.2 hx)
  have t8 := rabs_le.1 (mul_rabs qh.1 hy)
  clear n1 n2 n3 ra rh ca ch hc sum2 b1 b2 b3 hx hy hG hκ qa qh
  subst kR
  have e1 : (1 + 1 / 100000000000 : Rat) * (1 + 1 / 100000000000) ≤ 1 + 1 / 10000000000 := by decide +kernel
  have e2 : (2 * (1 + 1 / 100000000000) : Rat) * (1 + 1 / 100000000000) ≤ 2 + 1 / 10000000000 := by decide +kernel
  refine ⟨?_, ?_, ?_⟩
  · clear p2 p3 g2 g3 t3 t4 t5 t6 t7 t8
    grind
  · clear p1 p3 g1 g3 t1 t2 t5 t6 t7 t8
    grind
  · clear p1 p2 g1 g2 t1 t2 t3 t4
    grind
/-- A direction and an angle: turned back by it the direction lies between the differences. -/
theorem elo_in {a hi b0 b1 : Int} {X Y M zS : Rat} (a0 : 0 ≤ a) (a1 : a < 1000000000) (hh : a ≤ hi) (hw : hi - a ≤ 100000) (hN : Near a (hi % 1000000000) X Y) (M0 : 1000000 ≤ M) (M1 : M ≤ 650000000) (bx : rabs X ≤ M) (bY : rabs Y ≤ M) (len : M * M / 64 ≤ X * X + Y * Y)
    (hb : b0 ≤ b1) (wb : b1 - b0 ≤ 100000) (s0 : 0 ≤ zS) (s1 : zS ≤ 1000000000) (ks : ∃ k : Int, (b0 : Rat) - 1/500 ≤ zS + (k : Rat) * 1000000000 ∧ zS + (k : Rat) * 1000000000 ≤ (b1 : Rat) + 1/500) :
    NearW ((a - b1) % 1000000000) (((a - b1) % 1000000000 + (hi - b0) - (a - b1)) % 1000000000) (X * C (tq * zS) + Y * S (tq * zS)) (Y * C (tq * zS) - X * S (tq * zS)) ∧ rabs (X * C (tq * zS) + Y * S (tq * zS)) ≤ 1000000000 ∧ rabs (Y * C (tq * zS) - X * S (tq * zS)) ≤ 1000000000 := by
  obtain ⟨z, R, G, z0, z1, ⟨k, k1, k2⟩, R0, R1, hG, ex, ey⟩ := elo_head a0 a1 hh hw hN M0 M1 bx bY len
  obtain ⟨m, m1, m2⟩ := ks
  obtain ⟨zE, j, E0, E1, eE⟩ : ∃ (zE : Rat) (j : Int), 0 ≤ zE ∧ zE ≤ 1000000000 ∧ zE = z - zS + (j : Rat) * 1000000000 := by
    by_cases q : zS ≤ z
    · exact ⟨z - zS, 0, by grind, by grind, by have e : ((0 : Int) : Rat) = 0 := rfl; rw [e]; grind⟩
    · exact ⟨z - zS + 1000000000, 1, by grind, by grind, by have e : ((1 : Int) : Rat) = 1 := rfl; rw [e]; grind⟩
  obtain ⟨sm1, sm2⟩ := sc_minus z0 z1 s0 s1 E0 E1 eE
  have mm := emod_bd (a - b1)
  have m9 := emod_bd ((a - b1) % 1000000000 + (hi - b0) - (a - b1))
  have ts := turn_split (a - b1)
  push_cast at ts
  have np := near_point (lo := (a - b1) % 1000000000) (hi := (a - b1) % 1000000000 + (hi - b0) - (a - b1)) (k := k - m - j - (a - b1) / 1000000000) (z := zE) (r := 1100000000) mm.1 mm.2 (by omega) (by omega) E0 E1 (by push_cast; grind) (by push_cast; grind) (by decide +kernel) (by decide +kernel)
  have ce := rabs_le.1 (circT E0 E1)
  have one := sc_one E0 E1
  have oz := sc_one z0 z1
  have os := sc_one s0 s1
  have sm1 := rabs_le.1 sm1
  have sm2 := rabs_le.1 sm2
  have hGl := rabs_le.1 hG
  clear ts k1 k2 m1 m2 eE bx bY len hN
  generalize S (tq * zE) = sE at *
  generalize C (tq * zE) = cE at *
  generalize S (tq * zS) = sS at *
  generalize C (tq * zS) = cS at *
  generalize S (tq * z) = sz at *
  generalize C (tq * z) = cz at *
  have u1 := rabs_le.1 (mul_rabs os.2 ex)
  have u2 := rabs_le.1 (mul_rabs os.1 ey)
  have u3 := rabs_le.1 (mul_rabs os.2 ey)
  have u4 := rabs_le.1 (mul_rabs os.1 ex)
  have q1 := Rat.mul_le_mul_of_nonneg_left sm1.1 R0
  have q2 := Rat.mul_le_mul_of_nonneg_left sm1.2 R0
  have q3 := Rat.mul_le_mul_of_nonneg_left sm2.1 R0
  have q4 := Rat.mul_le_mul_of_nonneg_left sm2.2 R0
  have v1 := rabs_le.1 (mul_rabs hG (show rabs (sE - (sz * cS - cz * sS)) ≤ 3 / 100000000000 from rabs_le.2 sm1))
  have v2 := rabs_le.1 (mul_rabs hG (show rabs (cE - (cz * cS + sz * sS)) ≤ 3 / 100000000000 from rabs_le.2 sm2))
  have hx : rabs (X * cS + Y * sS - (R * cE - G * sE)) ≤ 1/20 := by
    have e : X * cS + Y * sS - (R * cE - G * sE) = cS * (X - (R * cz - G * sz)) + sS * (Y - (R * sz + G * cz)) - R * (cE - (cz * cS + sz * sS)) + G * (sE - (sz * cS - cz * sS)) := by grind
    rw [e, rabs_le]
    clear e sm1 sm2 u3 u4 q1 q2 ex ey ce
    constructor <;> grind
  have hy : rabs (Y * cS - X * sS - (R * sE + G * cE)) ≤ 1/20 := by
    have e : Y * cS - X * sS - (R * sE + G * cE) = cS * (Y - (R * sz + G * cz)) - sS * (X - (R * cz - G * sz)) - R * (sE - (sz * cS - cz * sS)) - G * (cE - (cz * cS + sz * sS)) := by grind
    rw [e, rabs_le]
    clear e sm1 sm2 u1 u2 q3 q4 ex ey ce hx
    constructor <;> grind
  have nb := near_bend (s := sE) (c := cE) mm.1 mm.2 m9.1 m9.2 np R0 R1 hG (by grind) hx hy
  refine ⟨nb, ?_, ?_⟩
  · have r1 := rabs_le.1 (mul_rabs one.2 (show rabs R ≤ 930000000 from rabs_le.2 ⟨R1, by grind⟩))
    have r2 := rabs_le.1 (mul_rabs one.1 hG)
    have hx := rabs_le.1 hx
    clear nb np u1 u2 u3 u4 q1 q2 q3 q4 v1 v2 sm1 sm2 hy ce ex ey
    rw [rabs_le]
    constructor <;> grind
  · have r1 := rabs_le.1 (mul_rabs one.1 (show rabs R ≤ 930000000 from rabs_le.2 ⟨R1, by grind⟩))
    have r2 := rabs_le.1 (mul_rabs one.2 hG)
    have hy := rabs_le.1 hy
    clear nb np u1 u2 u3 u4 q1 q2 q3 q4 v1 v2 sm1 sm2 hx ce ex ey
    rw [rabs_le]
    constructor <;> grind
end Go.Proofs.YtjkhoepohiafeaaDoor
