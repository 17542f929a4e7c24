/- The walks through the laws SeriesValues and SeriesAngles. -/
import Derived.Test.YtcgnhnmigmdalaaGreatDoorWalkRsum
import Derived.Deep.RegionHeld3
set_option linter.unusedVariables false
set_option linter.unusedSimpArgs false
namespace Go.Proofs.YtcgnhnmigmdalaaGreatDoor
open Go.RowKit
theorem c_none1 (e : Int) (w : World) : Calls Tryz.prog 13 #[.agg #[.int .i64 0, .int .i64 0], .int .i64 e, .int .i64 e] w fun x w' => x = .returned (.bool true) ∧ Below w.heap.size w w' := by
  have h : (e == e) = true := by simp
  have hgen := sgen; have hgen2 := sgen2; have hgen3 := sgen3; go_enter Tryz.func13, Tryz.ntmps13
  go_wp2
  go_ret
  refine ⟨rfl, ?_⟩
  exact belz
theorem instE_of {t : Int} : (instB t = true → instE t = 0) ∧ (instB t = false → instE t = 3) := by
  unfold instB instE
  constructor <;> intro h <;> simp at h
  · rw [if_pos (by omega)]
  · rw [if_neg (by omega)]
end Go.Proofs.YtcgnhnmigmdalaaGreatDoor
