/- The walk through the law TrigArcSins, whole. -/
import Derived.Test.YtffnmfcaoldlhaaDoorWalkAsL
set_option linter.unusedVariables false
set_option linter.unusedSimpArgs false

namespace Go.Proofs.YtffnmfcaoldlhaaDoor
open Go.RowKit
theorem walk_asins_any (lo hi : Int) (w : World) (ht : Tab w) : Calls Tryd.prog 6 #[.agg #[.int .i64 lo, .int .i64 hi]] w fun e w' => e = .returned (.bool true) ∧ Below w.heap.size w w' := by
  by_cases he : spanErr lo hi = 0
  · have hl : lo ≤ hi := by
      have h := he
      unfold spanErr at h
      repeat' split at h
      all_goals omega
    exact walk_asins_ok lo hi w ht he hl
  · exact walk_asins_bad lo hi w ht he
end Go.Proofs.YtffnmfcaoldlhaaDoor
