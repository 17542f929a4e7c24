/- The contract of figure.Check. -/
import Derived.Test.YtapmdkinneehjaaDoorWalkFc
import Derived.Test.YtapmdkinneehjaaDoorFgP
import Derived.Test.YtapmdkinneehjaaDoorWalkMat2
import Derived.BigGuard
set_option linter.unusedVariables false
set_option linter.unusedSimpArgs false
namespace Go.Proofs.YtapmdkinneehjaaDoor
open Go.RowKit
end Go.Proofs.YtapmdkinneehjaaDoor
