/- Contracts of notice.Sign and Right. -/
import Derived.Test.YtapmdkinneehjaaDoorWalkNo5
set_option linter.unusedVariables false
set_option linter.unusedSimpArgs false
namespace Go.Proofs.YtapmdkinneehjaaDoor
open Go.RowKit
def keyB (key : Int) : Bool := decide (1 ≤ key) && decide (key ≤ 1000000000)
theorem keyB_t {key : Int} (h : keyB key = true) : 1 ≤ key ∧ key ≤ 1000000000 := by simpa [keyB] using h
end Go.Proofs.YtapmdkinneehjaaDoor
