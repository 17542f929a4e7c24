/- The walks through the laws SeriesValues and SeriesAngles. -/
import Derived.Test.YtcgnhnmigmdalaaDoorWalkRsum
import Derived.Deep.RegionHeld3
set_option linter.unusedVariables false
set_option linter.unusedSimpArgs false
namespace Go.Proofs.YtcgnhnmigmdalaaDoor
open Go.RowKit
theorem instE_of {t : Int} : (instB t = true → instE t = 0) ∧ (instB t = false → instE t = 3) := by
  unfold instB instE
  constructor <;> intro h <;> simp at h
  · rw [if_pos (by omega)]
  · rw [if_neg (by omega)]
end Go.Proofs.YtcgnhnmigmdalaaDoor
