/- The walks through the laws TrigRoots and TrigSins. The walk through the law TrigSins; both laws as a whole. The contracts of the reference's TwoErr and InArc. -/
import Derived.Test.YtjkhoepohiafeaaGreatDoorArA
import Derived.Test.YtjkhoepohiafeaaGreatDoorWalkSva
import Derived.Test.YtjkhoepohiafeaaGreatDoorTrC
set_option linter.unusedVariables false
set_option linter.unusedSimpArgs false
namespace Go.Proofs.YtjkhoepohiafeaaGreatDoor
section
open Go.RowKit
theorem prt9_bd {v : Int} (v1 : -1200000000000000000 ≤ v) (v2 : v ≤ 1200000000000000000) : -1200000000000000 ≤ prt 1000000000 v ∧ prt 1000000000 v ≤ 1200000000000000 := by
  unfold prt
  split <;> omega
theorem root_facts {lo hi p q : Int} (hr : RootOk lo hi p q) (hh : lo ≤ hi) (h1 : hi ≤ 1000000000000000000) : p ≤ q ∧ q ≤ 1000000000 ∧ 0 ≤ p * p ∧ p * p ≤ 1000000000000000000 ∧ 0 ≤ q * q ∧ q * q ≤ 1000000000000000000 ∧ 0 ≤ (p + 1) * (p + 1) ∧ (p + 1) * (p + 1) ≤ 1100000000000000000 ∧ (q ≠ 0 → 0 ≤ (q - 1) * (q - 1) ∧ (q - 1) * (q - 1) ≤ 1000000000000000000) := by
  obtain ⟨p0, p1, p2, q0, q1, q2⟩ := hr
  have hq : q ≤ 1000000000 := by
    by_cases k : q ≤ 1000000000
    · exact k
    · have := sq_mono (a := 1000000000) (b := q - 1) (by omega) (by omega); omega
  have hpq : p ≤ q := by
    by_cases k : p ≤ q
    · exact k
    · have := sq_mono (a := q + 1) (b := p) (by omega) (by omega)
      have e : (q + 1) * (q + 1) = q * q + 2 * q + 1 := by grind
      omega
  have a1 := sq_mono (a := p + 1) (b := 1000000001) (by omega) (by omega)
  have a2 := sq_mono (a := q) (b := 1000000000) (by omega) (by omega)
  have a3 := sq_mono (a := p) (b := 1000000000) (by omega) (by omega)
  refine ⟨hpq, hq, Int.mul_nonneg p0 p0, by omega, Int.mul_nonneg q0 q0, by omega, Int.mul_nonneg (by omega) (by omega), by omega, fun k => ⟨Int.mul_nonneg (by omega) (by omega), ?_⟩⟩
  have := sq_mono (a := q - 1) (b := 1000000000) (by omega) (by omega)
  omega
end
section
open Go.RowKit
theorem sc_rng {b : Int} (b0 : 0 ≤ b) (b1 : b < 1000000000) : -1160000000000000000 ≤ (sc (b * 1000000)).1 ∧ (sc (b * 1000000)).1 ≤ 1160000000000000000 ∧ -1160000000000000000 ≤ (sc (b * 1000000)).2 ∧ (sc (b * 1000000)).2 ≤ 1160000000000000000 := by
  obtain ⟨g1, g2⟩ := sc_ang b0 b1
  have hb := SC_bd (ang_range b0 b1).2.2
  have g1 := rabs_le.1 g1
  have g2 := rabs_le.1 g2
  have h1 := rabs_le.1 hb.1
  have h2 := rabs_le.1 hb.2
  have hu : uQ = 1152921504606846976 := rfl
  rw [hu] at g1 g2
  have c1 : ((1160000000000000000 : Int) : Rat) = 1160000000000000000 := rfl
  have c2 : ((-1160000000000000000 : Int) : Rat) = -1160000000000000000 := rfl
  refine ⟨Rat.intCast_le_intCast.1 (by rw [c2]; grind), Rat.intCast_le_intCast.1 (by rw [c1]; grind), Rat.intCast_le_intCast.1 (by rw [c2]; grind), Rat.intCast_le_intCast.1 (by rw [c1]; grind)⟩
end
section
open Go.RowKit
def twoE (yl yh xl xh : Int) : Int := if spanErr yl yh = 0 then spanErr xl xh else spanErr yl yh
theorem fm_rng {a b : Int} (a1 : -1160000000000000000 ≤ a) (a2 : a ≤ 1160000000000000000) (b1 : -1160000000000000000 ≤ b) (b2 : b ≤ 1160000000000000000) : -1168000000000000000 ≤ fm a b ∧ fm a b ≤ 1168000000000000000 :=
  fm_le a1 a2 b1 b2 1168000000000000000 (by decide +kernel)
end
end Go.Proofs.YtjkhoepohiafeaaGreatDoor
