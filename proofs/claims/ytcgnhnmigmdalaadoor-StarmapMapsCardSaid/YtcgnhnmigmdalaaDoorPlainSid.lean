/- The sidereal angle: the program's interval and the reference's argument; what place.look computes. No program in sight. -/
import Derived.Test.YtcgnhnmigmdalaaDoorSmA
set_option linter.unusedVariables false
set_option linter.unusedSimpArgs false
namespace Go.Proofs.YtcgnhnmigmdalaaDoor
open Ieee
def sdA (t : Int) : Int := angLo 275313108 1002737909350806 [] 0 t
def sdB (t : Int) : Int := angHi 275313108 1002737909350806 [] 0 t
theorem sid_e : sumE 275313108 1002737909350806 [] 0 = 0 := by decide +kernel
def sidLo (lon t : Int) : Int := (sdA t + lon) % 1000000000
def sidHi (lon t : Int) : Int := (sdA t + lon) % 1000000000 + (sdB t + lon) - (sdA t + lon)
def refSid (lon t : Int) : Int := (argV 1002737909350806 t + (275313108 + lon) * 1000000) % 1000000000000000
/-- An argument in the unit of the sums. -/
def unitA (a : Int) : Int := a / 1000000 * 1048576 + a % 1000000 * 1048576 / 1000000
theorem unit_of (A n : Int) (a0 : 0 ≤ A) (a1 : A < 1000000000000000) : unitA ((A + n * 1000000) % 1000000000000000) = (n * 1048576 + A / 1000000 * 1048576 + A % 1000000 * 1048576 / 1000000) % 1048576000000000 := by
  unfold unitA
  have e1 : (A + n * 1000000) % 1000000000000000 = 1000000 * ((A / 1000000 + n) % 1000000000) + A % 1000000 := by omega
  have q0 : 0 ≤ A / 1000000 := by omega
  have q1 : A / 1000000 < 1000000000 := by omega
  have r0 : 0 ≤ A % 1000000 := by omega
  have r1 : A % 1000000 < 1000000 := by omega
  rw [e1]
  generalize A / 1000000 = q at *
  generalize A % 1000000 = ρ at *
  clear e1 a0 a1
  have k0 := Int.emod_nonneg (q + n) (show (1000000000 : Int) ≠ 0 by omega)
  have k1 := Int.emod_lt_of_pos (q + n) (show (0 : Int) < 1000000000 by omega)
  have kk : q + n = 1000000000 * ((q + n) / 1000000000) + (q + n) % 1000000000 := (Int.mul_ediv_add_emod _ _).symm
  generalize (q + n) / 1000000000 = d at *
  generalize (q + n) % 1000000000 = m at *
  have e2 : (1000000 * m + ρ) / 1000000 = m := by omega
  have e3 : (1000000 * m + ρ) % 1000000 = ρ := by omega
  rw [e2, e3]
  have f0 : 0 ≤ ρ * 1048576 / 1000000 := by omega
  have f1 : ρ * 1048576 / 1000000 < 1048576 := by omega
  generalize ρ * 1048576 / 1000000 = f at *
  clear e2 e3 r0 r1
  have e4 : n * 1048576 + q * 1048576 + f = m * 1048576 + f + 1048576000000000 * d := by omega
  rw [e4, Int.add_mul_emod_self_left]
  omega
theorem whole_nil (m r t : Int) : wholeV m r [] t = (m * 1048576 + argV r t / 1000000 * 1048576 + argV r t % 1000000 * 1048576 / 1000000) % 1048576000000000 := by
  have e : refAt m [] t ([] : List Tm).length = m * 1048576 := rfl
  unfold wholeV
  rw [e]
/-- What is known of the sidereal interval. -/
structure SidOk (lon t : Int) : Prop where
  l0 : 0 ≤ sidLo lon t
  l1 : sidLo lon t < 1000000000
  o : sidLo lon t ≤ sidHi lon t
  w : sidHi lon t - sidLo lon t ≤ 1
  r : (unitA (refSid lon t) - sidLo lon t * 1048576 + 2000) % 1048576000000000 ≤ (sidHi lon t - sidLo lon t) * 1048576 + 4000
  u0 : 0 ≤ unitA (refSid lon t)
  u1 : unitA (refSid lon t) < 1048576000000000
  a0 : 0 ≤ refSid lon t
  a1 : refSid lon t < 1000000000000000
theorem sid_ok (lon t : Int) : SidOk lon t := by
  obtain ⟨v1, v2, v3, v4, v5⟩ := ang_contains (inst := t) (sumOk_of sid_e)
  have v6 := ang_contains2 (inst := t) (sumOk_of sid_e) (by decide)
  have hb : bndAt 0 ([] : List Tm) = 0 := by decide +kernel
  rw [hb] at v4
  obtain ⟨g0, g1⟩ := argV_bd 1002737909350806 t
  have ew := whole_nil 275313108 1002737909350806 t
  have eu := unit_of (argV 1002737909350806 t) (275313108 + lon) g0 g1
  have er : refSid lon t = (argV 1002737909350806 t + (275313108 + lon) * 1000000) % 1000000000000000 := rfl
  rw [← er] at eu
  have r0 : 0 ≤ refSid lon t := by rw [er]; omega
  have r1 : refSid lon t < 1000000000000000 := by rw [er]; omega
  generalize argV 1002737909350806 t / 1000000 * 1048576 = X at *
  generalize argV 1002737909350806 t % 1000000 * 1048576 / 1000000 = Y at *
  have sl : sidLo lon t = (sdA t + lon) % 1000000000 := rfl
  have sh : sidHi lon t = (sdA t + lon) % 1000000000 + (sdB t + lon) - (sdA t + lon) := rfl
  change (_ : Int) ≤ sdA t at v1
  change sdA t < _ at v2
  change sdB t - sdA t ≤ _ at v4
  change (_ - sdA t * 1048576 + 2000) % _ ≤ (sdB t - sdA t - _) * _ + _ at v6
  clear v3 v5 er g0 g1 hb
  generalize wholeV 275313108 1002737909350806 [] t = W at *
  generalize hU : unitA (refSid lon t) = U at *
  generalize sdA t = a at *
  generalize sdB t = b at *
  refine ⟨by omega, by omega, by omega, by omega, ?_, by rw [hU]; omega, by rw [hU]; omega, r0, r1⟩
  rw [sl, sh, hU]
  have e1 : (U - (a + lon) % 1000000000 * 1048576 + 2000) % 1048576000000000 = (W - 0 * 1048576 - a * 1048576 + 2000) % 1048576000000000 := by omega
  rw [e1]
  omega
theorem sid_contains (lon t : Int) : (unitA (refSid lon t) - 0 * 1048576 - sidLo lon t * 1048576 + 8192) % 1048576000000000 ≤ (sidHi lon t - sidLo lon t - 2 * 0) * 1048576 + 16384 := by
  obtain ⟨l0, l1, o, w, r, u0, u1, -, -⟩ := sid_ok lon t
  generalize unitA (refSid lon t) = U at *
  generalize sidLo lon t = lo at *
  generalize sidHi lon t = hi at *
  have h0 : 0 ≤ (U - lo * 1048576 + 2000) % 1048576000000000 := by omega
  have e : (U - 0 * 1048576 - lo * 1048576 + 8192) % 1048576000000000 = ((U - lo * 1048576 + 2000) % 1048576000000000 + 6192) % 1048576000000000 := by omega
  rw [e]
  generalize (U - lo * 1048576 + 2000) % 1048576000000000 = K at *
  omega
theorem sid_zero : sidLo 0 0 ≤ 275313108 ∧ 275313108 ≤ sidHi 0 0 ∧ sidHi 0 0 - sidLo 0 0 ≤ 1 := by
  have k := (sid_ok 0 0).w
  have e : sidLo 0 0 = 275313108 := by decide +kernel
  have o := (sid_ok 0 0).o
  omega
end Go.Proofs.YtcgnhnmigmdalaaDoor
