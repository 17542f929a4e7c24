/- The contracts of frac.both, order, Cmp and of Box's closure. -/
import Derived.Test.YtapmdkinneehjaaDoorWalkFc
import Derived.Deep.QuietTactic
import Derived.BigQuiet
set_option linter.unusedVariables false
set_option linter.unusedSimpArgs false
namespace Go.Proofs.YtapmdkinneehjaaDoor
open Go.RowKit
def ordF (n d m e : Int) : Int := if n * e < m * d then -1 else if m * d < n * e then 1 else 0
end Go.Proofs.YtapmdkinneehjaaDoor
