/- The moon's longitude and its parts. No program in sight. -/
import Derived.Test.YtcnhjngmdgjjpaaDoorGwA
import Derived.Test.YtcnhjngmdgjjpaaDoorSmA
set_option linter.unusedVariables false
set_option linter.unusedSimpArgs false
namespace Go.Proofs.YtcnhjngmdgjjpaaDoor
open Ieee
def tpT1 : Tm := ⟨17468817, 99384016, 36291647083333⟩
def tpT2 : Tm := ⟨3538964, 134030564, 31434736861111⟩
theorem tps_e : sumE 0 0 [tpT1] 0 = 0 ∧ sumE 0 0 [tpT2] 0 = 0 ∧ sumE 392048814 36601101305556 [] 0 = 0 := by decide +kernel
/-- What the four small terms can be. -/
theorem tps_small (t : Tm) (i : Int) {A : Rat} (h : rabs (t.amp : Rat) ≤ A) : rabs (termX i t) ≤ A * (1 + 1 / 100000000) := by
  rw [termX_tq]
  exact mul_rabs h (sin_one t i)
theorem tps_val (t : Int) : -3400000 < valLo 392048814 moonL 20000 t - 392048814 - valLo 0 [tpT1] 0 t - valLo 0 [tpT2] 0 t ∧ valLo 392048814 moonL 20000 t - 392048814 - valLo 0 [tpT1] 0 t - valLo 0 [tpT2] 0 t < 3400000 := by
  obtain ⟨e1, e2, -⟩ := tps_e
  obtain ⟨m1, m2, -, -⟩ := val_at (i := t) (sumOk_of moon_e)
  obtain ⟨x1, x2, -, -⟩ := val_at (i := t) (sumOk_of e1)
  obtain ⟨y1, y2, -, -⟩ := val_at (i := t) (sumOk_of e2)
  have em : xAt moonL t moonL.length = termX t tpT1 + termX t tpT2 + termX t ⟨1828650, 233414580, 67726383944444⟩ + termX t ⟨593383, 198768032, 72583294166666⟩ + termX t ⟨-514211, 84888545, 2737778555556⟩ + termX t ⟨-317589, 297001062, 73496390222222⟩ := by
    show 0 + termX t tpT1 + termX t tpT2 + termX t ⟨1828650, 233414580, 67726383944444⟩ + termX t ⟨593383, 198768032, 72583294166666⟩ + termX t ⟨-514211, 84888545, 2737778555556⟩ + termX t ⟨-317589, 297001062, 73496390222222⟩ = _
    grind
  have ex : xAt [tpT1] t [tpT1].length = termX t tpT1 := by
    show 0 + termX t tpT1 = _
    grind
  have ey : xAt [tpT2] t [tpT2].length = termX t tpT2 := by
    show 0 + termX t tpT2 = _
    grind
  have a := rabs_le.1 (tps_small ⟨1828650, 233414580, 67726383944444⟩ t (A := 1828650) (by decide +kernel))
  have b := rabs_le.1 (tps_small ⟨593383, 198768032, 72583294166666⟩ t (A := 593383) (by decide +kernel))
  have c := rabs_le.1 (tps_small ⟨-514211, 84888545, 2737778555556⟩ t (A := 514211) (by decide +kernel))
  have d := rabs_le.1 (tps_small ⟨-317589, 297001062, 73496390222222⟩ t (A := 317589) (by decide +kernel))
  rw [em] at m1 m2
  rw [ex] at x1 x2
  rw [ey] at y1 y2
  have k1 : ((392048814 : Int) : Rat) = 392048814 := rfl
  have k2 : ((20000 : Int) : Rat) = 20000 := rfl
  have k3 : ((0 : Int) : Rat) = 0 := rfl
  rw [k1, k2] at m1 m2
  rw [k3] at x1 x2 y1 y2
  generalize termX t tpT1 = u1 at *
  generalize termX t tpT2 = u2 at *
  generalize termX t ⟨1828650, 233414580, 67726383944444⟩ = u3 at *
  generalize termX t ⟨593383, 198768032, 72583294166666⟩ = u4 at *
  generalize termX t ⟨-514211, 84888545, 2737778555556⟩ = u5 at *
  generalize termX t ⟨-317589, 297001062, 73496390222222⟩ = u6 at *
  generalize valLo 392048814 moonL 20000 t = vm at *
  generalize valLo 0 [tpT1] 0 t = v1 at *
  generalize valLo 0 [tpT2] 0 t = v2 at *
  have lo : ((-3399999 : Int) : Rat) ≤ ((vm - 392048814 - v1 - v2 : Int) : Rat) := by
    have k4 : ((-3399999 : Int) : Rat) = -3399999 := rfl
    rw [k4]
    push_cast
    grind
  have hi : ((vm - 392048814 - v1 - v2 : Int) : Rat) ≤ ((3399999 : Int) : Rat) := by
    have k4 : ((3399999 : Int) : Rat) = 3399999 := rfl
    rw [k4]
    push_cast
    grind
  have lo := Rat.intCast_le_intCast.1 lo
  have hi := Rat.intCast_le_intCast.1 hi
  omega
/-- What the law computes. -/
theorem tps_law (t : Int) : -3400000 < (angLo 392048814 36601101305556 moonL 20000 t - angLo 392048814 36601101305556 [] 0 t - valLo 0 [tpT1] 0 t - valLo 0 [tpT2] 0 t + 500000000) % 1000000000 - 500000000 ∧ (angLo 392048814 36601101305556 moonL 20000 t - angLo 392048814 36601101305556 [] 0 t - valLo 0 [tpT1] 0 t - valLo 0 [tpT2] 0 t + 500000000) % 1000000000 - 500000000 < 3400000 := by
  have h := tps_val t
  have e : valLo 392048814 [] 0 t = 392048814 := by unfold valLo; rw [if_pos (by rfl)]; omega
  have em : ∃ z, angLo 392048814 36601101305556 moonL 20000 t = z ∧ z = (valLo 392048814 moonL 20000 t + grQ 36601101305556 t % 1000000000) % 1000000000 := ⟨_, rfl, rfl⟩
  have en : ∃ z, angLo 392048814 36601101305556 [] 0 t = z ∧ z = (valLo 392048814 [] 0 t + grQ 36601101305556 t % 1000000000) % 1000000000 := ⟨_, rfl, rfl⟩
  obtain ⟨z1, h1, h2⟩ := em
  obtain ⟨z2, h3, h4⟩ := en
  rw [h1, h3]
  rw [e] at h4
  generalize grQ 36601101305556 t % 1000000000 = g at *
  generalize valLo 392048814 moonL 20000 t = vm at *
  generalize valLo 0 [tpT1] 0 t = v1 at *
  generalize valLo 0 [tpT2] 0 t = v2 at *
  clear h1 h3 e
  omega
theorem tps_bd (t : Int) : (-20000000 ≤ valLo 0 [tpT1] 0 t ∧ valLo 0 [tpT1] 0 t ≤ 20000000) ∧ (-20000000 ≤ valLo 0 [tpT2] 0 t ∧ valLo 0 [tpT2] 0 t ≤ 20000000) := by
  obtain ⟨e1, e2, -⟩ := tps_e
  obtain ⟨x1, x2, -, -⟩ := val_at (i := t) (sumOk_of e1)
  obtain ⟨y1, y2, -, -⟩ := val_at (i := t) (sumOk_of e2)
  have ex : xAt [tpT1] t [tpT1].length = termX t tpT1 := by
    show 0 + termX t tpT1 = _
    grind
  have ey : xAt [tpT2] t [tpT2].length = termX t tpT2 := by
    show 0 + termX t tpT2 = _
    grind
  have a := rabs_le.1 (tps_small tpT1 t (A := 17468817) (by decide +kernel))
  have b := rabs_le.1 (tps_small tpT2 t (A := 3538964) (by decide +kernel))
  have k3 : ((0 : Int) : Rat) = 0 := rfl
  rw [ex, k3] at x1 x2
  rw [ey, k3] at y1 y2
  generalize termX t tpT1 = u1 at *
  generalize termX t tpT2 = u2 at *
  generalize valLo 0 [tpT1] 0 t = v1 at *
  generalize valLo 0 [tpT2] 0 t = v2 at *
  have bd : ∀ {v : Int}, (v : Rat) ≤ 20000000 → -20000000 ≤ (v : Rat) → -20000000 ≤ v ∧ v ≤ 20000000 := by
    intro v h1 h2
    exact ⟨Rat.intCast_le_intCast.1 (show ((-20000000 : Int) : Rat) ≤ (v : Rat) from h2), Rat.intCast_le_intCast.1 (show (v : Rat) ≤ ((20000000 : Int) : Rat) from h1)⟩
  exact ⟨bd (by grind) (by grind), bd (by grind) (by grind)⟩
end Go.Proofs.YtcnhjngmdgjjpaaDoor
