/- The latitudes of the moon between two near instants lie in eclipse.latitudes' interval. No program in sight. -/
import Derived.Test.YtcgnhnmigmdalaaDoorPlainEcl2
set_option linter.unusedVariables false
set_option linter.unusedSimpArgs false
namespace Go.Proofs.YtcgnhnmigmdalaaDoor
open Ieee
def eLo (x0 x1 : Int) : Int := min (northLo x0) (northLo x1) - (mF (x1 - x0) + 2)
def eHi (x0 x1 : Int) : Int := max (northHi x0) (northHi x1) + (mF (x1 - x0) + 2)
def nT0 : Tm := ⟨14244783, 648500531, 36748195111111⟩
def nT1 : Tm := ⟨779450, 747884547, 73039842194444⟩
def nT2 : Tm := ⟨771369, 450883485, -456548027778⟩
theorem north_three (y : Int) : xAt northL y northL.length = termX y nT0 + termX y nT1 + termX y nT2 := by
  have e0 : xAt northL y 0 = 0 := rfl
  have e1 := xAt_snoc northL y 0 (by decide)
  have e2 := xAt_snoc northL y 1 (by decide)
  have e3 := xAt_snoc northL y 2 (by decide)
  show xAt northL y 3 = _
  rw [e3, e2, e1, e0]
  have f0 : northL[0] = nT0 := rfl
  have f1 : northL[1] = nT1 := rfl
  have f2 : northL[2] = nT2 := rfl
  rw [f0, f1, f2]
  grind
theorem nT_num : (rtQ nT0 * 600000 ≤ 1 / 100 ∧ rtQ nT1 * 600000 ≤ 1 / 100 ∧ rtQ nT2 * 600000 ≤ 1 / 100) ∧ (0 ≤ rtQ nT0 ∧ 0 ≤ rtQ nT1 ∧ 0 ≤ rtQ nT2) ∧
    51 / 100 * (rabs nT0.amp * (rtQ nT0 * rtQ nT0) + rabs nT1.amp * (rtQ nT1 * rtQ nT1) + rabs nT2.amp * (rtQ nT2 * rtQ nT2)) ≤ 480000 * ((1 / 86400000) * (1 / 86400000)) ∧ (rabs nT0.amp + rabs nT1.amp + rabs nT2.amp) * (1 / 10000000000) ≤ 1 / 100 := by decide +kernel
theorem mul_pos_nn {h z : Rat} (hh : 0 < h) (hz : 0 ≤ h * z) : 0 ≤ z := by
  rcases (Rat.le_total : 0 ≤ z ∨ z ≤ 0) with q | q
  · exact q
  · have := Rat.mul_nonneg (show 0 ≤ h by grind) (show 0 ≤ -z by grind)
    by_cases e : z = 0
    · grind
    · have : 0 < h * -z := Rat.mul_pos hh (by grind)
      grind
/-- The sum keeps near its chord. -/
theorem north_chord {x0 x x1 : Int} (h0 : x0 ≤ x) (h1 : x ≤ x1) (hw : x1 - x0 ≤ 600000) {m M : Rat} (a0 : m ≤ xAt northL x0 northL.length) (a1 : m ≤ xAt northL x1 northL.length) (b0 : xAt northL x0 northL.length ≤ M) (b1 : xAt northL x1 northL.length ≤ M) :
    m - (480000 * (((x1 - x0 : Int) : Rat) * (1 / 86400000)) * (((x1 - x0 : Int) : Rat) * (1 / 86400000)) + 1 / 100) ≤ xAt northL x northL.length ∧ xAt northL x northL.length ≤ M + (480000 * (((x1 - x0 : Int) : Rat) * (1 / 86400000)) * (((x1 - x0 : Int) : Rat) * (1 / 86400000)) + 1 / 100) := by
  have hn : (0 : Rat) ≤ ((x1 - x0 : Int) : Rat) := by exact_mod_cast (show 0 ≤ x1 - x0 by omega)
  have hsq := Rat.mul_nonneg hn hn
  by_cases hz : x1 = x0
  · have e : x = x0 := by omega
    subst e
    constructor <;> grind
  · have hp : (0 : Rat) < ((x1 - x0 : Int) : Rat) := by exact_mod_cast (show 0 < x1 - x0 by omega)
    have hW : ((x1 - x0 : Int) : Rat) ≤ 600000 := Rat.intCast_le_intCast.2 hw
    obtain ⟨⟨r0, r1, r2⟩, ⟨p0, p1, p2⟩, q1, q2⟩ := nT_num
    have up : ∀ r : Rat, 0 ≤ r → r * 600000 ≤ 1 / 100 → r * ((x1 - x0 : Int) : Rat) ≤ 1 / 100 := fun r hr hb => by
      have := Rat.mul_le_mul_of_nonneg_left hW hr
      grind
    have c0 := rabs_le.1 (term_chord nT0 h0 h1 (up _ p0 r0))
    have c1 := rabs_le.1 (term_chord nT1 h0 h1 (up _ p1 r1))
    have c2 := rabs_le.1 (term_chord nT2 h0 h1 (up _ p2 r2))
    have u0 : (0 : Rat) ≤ ((x - x0 : Int) : Rat) := by exact_mod_cast (show 0 ≤ x - x0 by omega)
    have u1 : ((x - x0 : Int) : Rat) ≤ ((x1 - x0 : Int) : Rat) := Rat.intCast_le_intCast.2 (by omega)
    rw [north_three] at a0 a1 b0 b1
    rw [north_three]
    clear r0 r1 r2 up hW
    generalize ((x1 - x0 : Int) : Rat) = h at *
    generalize ((x - x0 : Int) : Rat) = u at *
    obtain ⟨A, hA⟩ : ∃ A, A = termX x0 nT0 + termX x0 nT1 + termX x0 nT2 := ⟨_, rfl⟩
    obtain ⟨B, hB⟩ : ∃ B, B = termX x1 nT0 + termX x1 nT1 + termX x1 nT2 := ⟨_, rfl⟩
    rw [← hA] at a0 b0
    rw [← hB] at a1 b1
    obtain ⟨K, hK⟩ : ∃ K, K = rabs nT0.amp * (rtQ nT0 * rtQ nT0) + rabs nT1.amp * (rtQ nT1 * rtQ nT1) + rabs nT2.amp * (rtQ nT2 * rtQ nT2) := ⟨_, rfl⟩
    rw [← hK] at q1
    have k1 := Rat.mul_le_mul_of_nonneg_right q1 hsq
    have k2 := Rat.mul_le_mul_of_nonneg_right k1 hn
    have k3 := Rat.mul_le_mul_of_nonneg_right q2 hn
    have m1 := Rat.mul_le_mul_of_nonneg_left a0 (show 0 ≤ h - u by grind)
    have m2 := Rat.mul_le_mul_of_nonneg_left a1 u0
    have m3 := Rat.mul_le_mul_of_nonneg_left b0 (show 0 ≤ h - u by grind)
    have m4 := Rat.mul_le_mul_of_nonneg_left b1 u0
    have lin : rabs (h * (termX x nT0 + termX x nT1 + termX x nT2) - ((h - u) * A + u * B)) ≤ h * (480000 * (h * (1 / 86400000)) * (h * (1 / 86400000)) + 1 / 100) := by
      have big : h * (rabs nT0.amp * (51 / 100 * (rtQ nT0 * h * (rtQ nT0 * h)) + 1 / 10000000000)) + h * (rabs nT1.amp * (51 / 100 * (rtQ nT1 * h * (rtQ nT1 * h)) + 1 / 10000000000)) + h * (rabs nT2.amp * (51 / 100 * (rtQ nT2 * h * (rtQ nT2 * h)) + 1 / 10000000000)) ≤ h * (480000 * (h * (1 / 86400000)) * (h * (1 / 86400000)) + 1 / 100) := by
        have e : h * (rabs nT0.amp * (51 / 100 * (rtQ nT0 * h * (rtQ nT0 * h)) + 1 / 10000000000)) + h * (rabs nT1.amp * (51 / 100 * (rtQ nT1 * h * (rtQ nT1 * h)) + 1 / 10000000000)) + h * (rabs nT2.amp * (51 / 100 * (rtQ nT2 * h * (rtQ nT2 * h)) + 1 / 10000000000)) = 51 / 100 * K * (h * h) * h + (rabs nT0.amp + rabs nT1.amp + rabs nT2.amp) * (1 / 10000000000) * h := by rw [hK]; grind
        rw [e]
        grind
      rw [rabs_le, hA, hB]
      constructor <;> grind
    have lin := rabs_le.1 lin
    clear c0 c1 c2 q1 q2 k1 k2 k3 hK hA hB
    generalize termX x nT0 + termX x nT1 + termX x nT2 = F at *
    generalize 480000 * (h * (1 / 86400000)) * (h * (1 / 86400000)) + 1 / 100 = E at *
    constructor
    · have := mul_pos_nn (z := F - (m - E)) hp (by grind)
      grind
    · have := mul_pos_nn (z := M + E - F) hp (by grind)
      grind
theorem ecl_in {x0 x x1 : Int} (h0 : x0 ≤ x) (h1 : x ≤ x1) (hw : x1 - x0 ≤ 600000) : eLo x0 x1 * 1048576 + 1000000 ≤ northV x - 20000 * 1048576 ∧ northV x + 20000 * 1048576 + 1000000 ≤ eHi x0 x1 * 1048576 := by
  have hs := sumOk_of north_e
  obtain ⟨l0, -, -, g0⟩ := val_at (i := x0) hs
  obtain ⟨l1, -, -, g1⟩ := val_at (i := x1) hs
  obtain ⟨-, l0', g0', -⟩ := val_at (i := x0) hs
  obtain ⟨-, l1', g1', -⟩ := val_at (i := x1) hs
  have hn := rabs_le.1 (refAt_near (m := 0) (inst := x) hs.tm northL.length (Nat.le_refl _))
  obtain ⟨-, -, -, -, -, -, -, mb, mz, -⟩ := more_run (h := x1 - x0) (by omega) hw
  have eL : northL.length = 3 := rfl
  rw [eL] at hn l0 l1 g0 g1 l0' l1' g0' g1'
  have c1 : ((20000 : Int) : Rat) = 20000 := rfl
  have c0 : ((0 : Int) : Rat) = 0 := rfl
  have n3 : ((3 : Nat) : Rat) = 3 := rfl
  have hq : 0 ≤ ((x1 - x0 : Int) : Rat) * (1 / 86400000) * (((x1 - x0 : Int) : Rat) * (1 / 86400000)) := by
    have : (0 : Rat) ≤ ((x1 - x0 : Int) : Rat) * (1 / 86400000) := Rat.mul_nonneg (by exact_mod_cast (show 0 ≤ x1 - x0 by omega)) (by decide +kernel)
    exact Rat.mul_nonneg this this
  have ch := @north_chord x0 x x1 h0 h1 hw
  rw [eL] at ch
  rw [c1, c0] at l0 l1 g0 g1 l0' l1' g0' g1'
  rw [c0, n3] at hn
  have nl0 : valLo 0 northL 20000 x0 = northLo x0 := rfl
  have nl1 : valLo 0 northL 20000 x1 = northLo x1 := rfl
  have nh0 : valHi 0 northL 20000 x0 = northHi x0 := rfl
  have nh1 : valHi 0 northL 20000 x1 = northHi x1 := rfl
  have nv : refAt 0 northL x 3 = northV x := rfl
  rw [nl0] at l0 l0'
  rw [nl1] at l1 l1'
  rw [nh0] at g0 g0'
  rw [nh1] at g1 g1'
  rw [nv] at hn
  obtain ⟨lo, hlo⟩ : ∃ lo, lo = min (northLo x0) (northLo x1) := ⟨_, rfl⟩
  obtain ⟨hi, hhi⟩ : ∃ hi, hi = max (northHi x0) (northHi x1) := ⟨_, rfl⟩
  have z0 : (lo : Rat) ≤ (northLo x0 : Rat) := Rat.intCast_le_intCast.2 (by omega)
  have z1 : (lo : Rat) ≤ (northLo x1 : Rat) := Rat.intCast_le_intCast.2 (by omega)
  have y0 : (northHi x0 : Rat) ≤ (hi : Rat) := Rat.intCast_le_intCast.2 (by omega)
  have y1 : (northHi x1 : Rat) ≤ (hi : Rat) := Rat.intCast_le_intCast.2 (by omega)
  obtain ⟨r1, r2⟩ := ch (m := (lo : Rat) + 20000 - 1 / 1000) (M := (hi : Rat) - 20000 + 1 / 1000) (by grind) (by grind) (by grind) (by grind)
  have s1 : ((eLo x0 x1 * 1048576 + 1000000 : Int) : Rat) ≤ ((northV x - 20000 * 1048576 : Int) : Rat) := by
    unfold eLo
    rw [← hlo]
    push_cast
    clear hlo hhi g0 g1 g0' g1' l0 l1 l0' l1' r2 ch
    grind
  have s2 : ((northV x + 20000 * 1048576 + 1000000 : Int) : Rat) ≤ ((eHi x0 x1 * 1048576 : Int) : Rat) := by
    unfold eHi
    rw [← hhi]
    push_cast
    clear hlo hhi g0 g1 g0' g1' l0 l1 l0' l1' r1 ch
    grind
  exact ⟨Rat.intCast_le_intCast.1 s1, Rat.intCast_le_intCast.1 s2⟩
theorem north_aR : aR northL northL.length * ((628320 / 100000000000000) * (1 / 86400000000000) * 600000) ≤ 25345 ∧ aS northL northL.length * (2 / 100000000) ≤ 1 ∧ 0 ≤ aR northL northL.length := by decide +kernel
theorem ecl_wide {x0 x1 : Int} (h0 : x0 ≤ x1) (hw : x1 - x0 ≤ 600000) : eLo x0 x1 ≤ eHi x0 x1 ∧ eHi x0 x1 - eLo x0 x1 ≤ 66000 := by
  have hs := sumOk_of north_e
  obtain ⟨l0, l0', -, -⟩ := val_at (i := x0) hs
  obtain ⟨l1, l1', -, -⟩ := val_at (i := x1) hs
  have li := rabs_le.1 (xAt_lip northL x0 x1 h0 northL.length (Nat.le_refl _))
  obtain ⟨q1, q2, q3⟩ := north_aR
  have hW : ((x1 - x0 : Int) : Rat) ≤ 600000 := Rat.intCast_le_intCast.2 hw
  have m := Rat.mul_le_mul_of_nonneg_left (Rat.mul_le_mul_of_nonneg_left hW (show (0 : Rat) ≤ (628320 / 100000000000000) * (1 / 86400000000000) by decide +kernel)) q3
  have nl0 : valLo 0 northL 20000 x0 = northLo x0 := rfl
  have nl1 : valLo 0 northL 20000 x1 = northLo x1 := rfl
  rw [nl0] at l0 l0'
  rw [nl1] at l1 l1'
  have d : -25350 ≤ northLo x1 - northLo x0 ∧ northLo x1 - northLo x0 ≤ 25350 := by
    have a1 : ((-25350 : Int) : Rat) ≤ ((northLo x1 - northLo x0 : Int) : Rat) := by
      rw [show ((-25350 : Int) : Rat) = -25350 from rfl]; push_cast; grind
    have a2 : ((northLo x1 - northLo x0 : Int) : Rat) ≤ ((25350 : Int) : Rat) := by
      rw [show ((25350 : Int) : Rat) = 25350 from rfl]; push_cast; grind
    exact ⟨Rat.intCast_le_intCast.1 a1, Rat.intCast_le_intCast.1 a2⟩
  obtain ⟨-, -, f0, -, -⟩ := north_facts x0
  obtain ⟨-, -, f1, -, -⟩ := north_facts x1
  obtain ⟨o0, -⟩ := ecl_in (Int.le_refl x0) h0 hw
  obtain ⟨-, o1⟩ := ecl_in (Int.le_refl x0) h0 hw
  obtain ⟨-, -, -, -, -, -, -, -, mz, m6⟩ := more_run (h := x1 - x0) (by omega) hw
  unfold eLo eHi at *
  omega
end Go.Proofs.YtcgnhnmigmdalaaDoor
