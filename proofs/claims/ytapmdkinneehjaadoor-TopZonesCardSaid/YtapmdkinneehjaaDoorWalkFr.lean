/- The contract of frac.Read. -/
import Derived.Test.YtapmdkinneehjaaDoorWalkFc
import Derived.Test.YtapmdkinneehjaaDoorWalkCutC
import Derived.Test.YtapmdkinneehjaaDoorWalkNoD
import Derived.Test.YtapmdkinneehjaaDoorFgQ
import Derived.WideShapes
set_option linter.unusedVariables false
set_option linter.unusedSimpArgs false
namespace Go.Proofs.YtapmdkinneehjaaDoor
open Go.RowKit
end Go.Proofs.YtapmdkinneehjaaDoor
