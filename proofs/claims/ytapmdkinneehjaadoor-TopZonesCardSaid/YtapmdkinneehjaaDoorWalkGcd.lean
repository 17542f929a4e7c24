/- The contracts of whole.Gcd and of the reference's Gcd. -/
import Derived.Test.YtapmdkinneehjaaDoorWalkBase
import Derived.IntWalk
import Derived.Deep.LoopGhost
import Derived.Deep.QuietTactic
import Derived.BigQuiet
set_option linter.unusedVariables false
set_option linter.unusedSimpArgs false
namespace Go.Proofs.YtapmdkinneehjaaDoor
open Go.RowKit
end Go.Proofs.YtapmdkinneehjaaDoor
