/- The sun's, the moon's and any exact point's conversion to the equator: numbers. No program in sight. The sun's coordinates at the instant 0. Contracts of sun.Equator where the arc is not open, of sun.At, of sunWorks; the walk through the law SunLongitudes. -/
import Derived.Test.YtcgnhnmigmdalaaGreatDoorEqB
import Derived.Test.YtcgnhnmigmdalaaGreatDoorSmA
import Derived.Test.YtcgnhnmigmdalaaGreatDoorWalkEqu
set_option linter.unusedVariables false
set_option linter.unusedSimpArgs false
namespace Go.Proofs.YtcgnhnmigmdalaaGreatDoor
section
open Ieee
/-- The angle of a number in the unit 1 / 2^20. -/
theorem zA_near (v : Int) : zA (argU v) ≤ ((v % 1048576000000000 : Int) : Rat) / 1048576 ∧ ((v % 1048576000000000 : Int) : Rat) / 1048576 ≤ zA (argU v) + 1 / 1000000 := by
  have h : argU v * 1048576 ≤ v % 1048576000000000 * 1000000 ∧ v % 1048576000000000 * 1000000 < argU v * 1048576 + 1048576 := by
    unfold argU; omega
  have h1 := icast h.1
  have h2 := icast (show v % 1048576000000000 * 1000000 ≤ argU v * 1048576 + 1048576 by omega)
  generalize v % 1048576000000000 = m at *
  push_cast at h1 h2
  unfold zA
  constructor <;> grind
theorem kl_ang {m lo hi : Int} (m0 : 0 ≤ m) (m1 : m < 1048576000000000) (h : (m - lo * 1048576 + 2000) % 1048576000000000 ≤ (hi - lo) * 1048576 + 4000) : ∃ k : Int, (lo : Rat) - 1/500 ≤ zA (argU m) + (k : Rat) * 1000000000 ∧ zA (argU m) + (k : Rat) * 1000000000 ≤ (hi : Rat) + 1/500 := by
  obtain ⟨z1, z2⟩ := zA_near m
  rw [Int.emod_eq_of_lt m0 m1] at z1 z2
  refine ⟨-((m - lo * 1048576 + 2000) / 1048576000000000), ?_⟩
  have e := Int.emod_add_mul_ediv (m - lo * 1048576 + 2000) 1048576000000000
  have r0 := Int.emod_nonneg (m - lo * 1048576 + 2000) (show (1048576000000000 : Int) ≠ 0 by decide)
  generalize (m - lo * 1048576 + 2000) / 1048576000000000 = q at *
  generalize (m - lo * 1048576 + 2000) % 1048576000000000 = r at *
  have a := icast (show lo * 1048576 - 2000 ≤ m - 1048576000000000 * q by omega)
  have b := icast (show m - 1048576000000000 * q ≤ hi * 1048576 + 2000 by omega)
  push_cast at a b
  push_cast
  constructor <;> grind
/-- The sun. -/
theorem zb_zero : zA (argU 0) = 0 := by decide +kernel
theorem sc_zero : S (tq * 0) = 0 ∧ C (tq * 0) = 1 := by decide +kernel
theorem slon_in {t m : Int} (h : SLon t m) : (m - sunLo t * 1048576 + 2000) % 1048576000000000 ≤ (sunHi t - sunLo t) * 1048576 + 4000 := by
  obtain ⟨n, h1, h2, rfl⟩ := h
  obtain ⟨-, -, h, hw, -⟩ := sun_facts t
  have h0 : 0 ≤ (sunW t - 2000 * 1048576 - sunLo t * 1048576 + 2000) % 1048576000000000 := by omega
  generalize sunW t = W at *
  generalize sunLo t = lo at *
  generalize sunHi t = hi at *
  have e : ((W + 250 * n * 1048576) % 1048576000000000 - lo * 1048576 + 2000) % 1048576000000000 = ((W - 2000 * 1048576 - lo * 1048576 + 2000) % 1048576000000000 + (2000 * 1048576 + 250 * n * 1048576)) % 1048576000000000 := by omega
  rw [e]
  generalize (W - 2000 * 1048576 - lo * 1048576 + 2000) % 1048576000000000 = K at *
  have e2 : (K + (2000 * 1048576 + 250 * n * 1048576)) % 1048576000000000 = K + (2000 * 1048576 + 250 * n * 1048576) := Int.emod_eq_of_lt (by omega) (by omega)
  rw [e2]
  omega
end
section

end
section
open Go.RowKit
end
end Go.Proofs.YtcgnhnmigmdalaaGreatDoor
