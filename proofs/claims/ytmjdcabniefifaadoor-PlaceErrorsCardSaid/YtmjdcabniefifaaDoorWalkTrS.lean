/- The walk through the law TrigSins; both laws as a whole. -/
import Derived.Test.YtmjdcabniefifaaDoorWalkTrL
set_option linter.unusedVariables false
set_option linter.unusedSimpArgs false
namespace Go.Proofs.YtmjdcabniefifaaDoor
open Go.RowKit
theorem sc_rng {b : Int} (b0 : 0 ≤ b) (b1 : b < 1000000000) : -1160000000000000000 ≤ (sc (b * 1000000)).1 ∧ (sc (b * 1000000)).1 ≤ 1160000000000000000 ∧ -1160000000000000000 ≤ (sc (b * 1000000)).2 ∧ (sc (b * 1000000)).2 ≤ 1160000000000000000 := by
  obtain ⟨g1, g2⟩ := sc_ang b0 b1
  have hb := SC_bd (ang_range b0 b1).2.2
  have g1 := rabs_le.1 g1
  have g2 := rabs_le.1 g2
  have h1 := rabs_le.1 hb.1
  have h2 := rabs_le.1 hb.2
  have hu : uQ = 1152921504606846976 := rfl
  rw [hu] at g1 g2
  have c1 : ((1160000000000000000 : Int) : Rat) = 1160000000000000000 := rfl
  have c2 : ((-1160000000000000000 : Int) : Rat) = -1160000000000000000 := rfl
  refine ⟨Rat.intCast_le_intCast.1 (by rw [c2]; grind), Rat.intCast_le_intCast.1 (by rw [c1]; grind), Rat.intCast_le_intCast.1 (by rw [c2]; grind), Rat.intCast_le_intCast.1 (by rw [c1]; grind)⟩
end Go.Proofs.YtmjdcabniefifaaDoor
