/- The lunations of eclipseWorks; bounds of the latitudes. No program in sight. -/
import Derived.Test.YtcgnhnmigmdalaaDoorWalkEcl
set_option linter.unusedVariables false
set_option linter.unusedSimpArgs false
namespace Go.Proofs.YtcgnhnmigmdalaaDoor
open Ieee
theorem north_aS : aS northL northL.length * (1 + 1 / 100000000) ≤ 15900000 := by decide +kernel
theorem north_bd (t : Int) : -16000000 ≤ northLo t ∧ northHi t ≤ 16000000 := by
  have hs := sumOk_of north_e
  obtain ⟨l0, l1, g0, g1⟩ := val_at (i := t) hs
  have a := rabs_le.1 (xAt_amp northL t northL.length (Nat.le_refl _))
  have b := north_aS
  have nl : valLo 0 northL 20000 t = northLo t := rfl
  have nh : valHi 0 northL 20000 t = northHi t := rfl
  rw [nl] at l0 l1
  rw [nh] at g0 g1
  have c1 : ((20000 : Int) : Rat) = 20000 := rfl
  have c0 : ((0 : Int) : Rat) = 0 := rfl
  rw [c1, c0] at l0 l1 g0 g1
  have r1 : ((-16000000 : Int) : Rat) ≤ (northLo t : Rat) := by
    rw [show ((-16000000 : Int) : Rat) = -16000000 from rfl]; grind
  have r2 : (northHi t : Rat) ≤ ((16000000 : Int) : Rat) := by
    rw [show ((16000000 : Int) : Rat) = 16000000 from rfl]; grind
  exact ⟨Rat.intCast_le_intCast.1 r1, Rat.intCast_le_intCast.1 r2⟩
theorem ecl_bd {x0 x1 : Int} (h0 : x0 ≤ x1) (hw : x1 - x0 ≤ 600000) : -17000000 ≤ eLo x0 x1 ∧ eLo x0 x1 ≤ eHi x0 x1 ∧ eHi x0 x1 ≤ 17000000 := by
  obtain ⟨o, -⟩ := ecl_wide h0 hw
  obtain ⟨a0, a1⟩ := north_bd x0
  obtain ⟨b0, b1⟩ := north_bd x1
  obtain ⟨-, -, -, -, -, -, -, -, mz, m6⟩ := more_run (h := x1 - x0) (by omega) hw
  unfold eLo eHi at *
  omega
/-- The interval of latitudes of a phase. -/
def eL0 (n q : Int) : Int := eLo (phR n q).lo (phR n q).hi
def eH0 (n q : Int) : Int := eHi (phR n q).lo (phR n q).hi
theorem ecl_at {n q X : Int} (n0 : -100000 ≤ n) (n1 : n ≤ 100000) (q0 : 0 ≤ q) (q1 : q ≤ 3) (x1 : phT n q - 43980 ≤ eL X) (x2 : eL X ≤ phT n q - 20) :
    eL0 n q * 1048576 + 1000000 ≤ northV X - 20000 * 1048576 ∧ northV X + 20000 * 1048576 + 1000000 ≤ eH0 n q * 1048576 ∧ eH0 n q - eL0 n q ≤ 66000 := by
  have h := phR_ok n0 n1 q0 q1
  obtain ⟨a, b⟩ := ph_has h x1 x2
  obtain ⟨e1, e2⟩ := ecl_in a b h.w
  obtain ⟨-, e3⟩ := ecl_wide (Int.le_of_lt h.b) h.w
  exact ⟨e1, e2, e3⟩
theorem fix_nums : (phT 24714 0 - 43980 ≤ eL 63057379115561 ∧ eL 63057379115561 ≤ phT 24714 0 - 20 ∧ northV 63057379115561 ≤ -5000000 * 1048576) ∧
    (phT 24715 0 - 43980 ≤ eL 63059918845292 ∧ eL 63059918845292 ≤ phT 24715 0 - 20 ∧ northV 63059918845292 ≤ -5000000 * 1048576) ∧
    (phT 24716 0 - 43980 ≤ eL 63062452472876 ∧ eL 63062452472876 ≤ phT 24716 0 - 20 ∧ northV 63062452472876 ≤ -5000000 * 1048576) ∧
    (phT 24717 0 - 43980 ≤ eL 63064983711496 ∧ eL 63064983711496 ≤ phT 24717 0 - 20 ∧ northV 63064983711496 ≤ -5000000 * 1048576) ∧
    (phT 24718 0 - 43980 ≤ eL 63067516278794 ∧ eL 63067516278794 ≤ phT 24718 0 - 20 ∧ northV 63067516278794 ≤ -5000000 * 1048576) ∧
    (phT 24719 0 - 43980 ≤ eL 63070053598006 ∧ eL 63070053598006 ≤ phT 24719 0 - 20 ∧ 1695100 * 1048576 ≤ northV 63070053598006 ∧ northV 63070053598006 ≤ 1695200 * 1048576) := by decide +kernel
theorem fix_none {n X : Int} (n0 : -100000 ≤ n) (n1 : n ≤ 100000) (h : phT n 0 - 43980 ≤ eL X ∧ eL X ≤ phT n 0 - 20 ∧ northV X ≤ -5000000 * 1048576) : ePar 0 ≤ eLeast (eL0 n 0) (eH0 n 0) := by
  obtain ⟨a, b, c⟩ := ecl_at n0 n1 (by omega) (by omega) h.1 h.2.1
  have hv := h.2.2
  have hp : ePar 0 = 4100000 := rfl
  rw [hp]
  unfold eLeast
  generalize northV X = v at *
  omega
theorem fix_tot : eL0 24719 0 ≤ 1695151 ∧ 1695151 ≤ eH0 24719 0 ∧ eH0 24719 0 - eL0 24719 0 ≤ 66000 ∧ eLeast (eL0 24719 0) (eH0 24719 0) < ePar 0 ∧ eMost (eL0 24719 0) (eH0 24719 0) < eTot 0 := by
  obtain ⟨-, -, -, -, -, h⟩ := fix_nums
  obtain ⟨a, b, c⟩ := ecl_at (n := 24719) (by omega) (by omega) (by omega) (by omega) h.1 h.2.1
  have v1 := h.2.2.1
  have v2 := h.2.2.2
  have hp : ePar 0 = 4100000 := rfl
  have ht : eTot 0 = 2500000 := rfl
  rw [hp, ht]
  unfold eLeast eMost
  generalize northV 63070053598006 = v at *
  omega
end Go.Proofs.YtcgnhnmigmdalaaDoor
