/- The sun's coordinates at the instant 0. -/
import Derived.Test.YtaaiamcpdicnhaaGreatDoorPlainSunAt
set_option linter.unusedVariables false
set_option linter.unusedSimpArgs false
namespace Go.Proofs.YtaaiamcpdicnhaaGreatDoor
theorem sun_fix1 : sunLo 0 = 778092769 ∧ sunHi 0 = 778096770 := by decide +kernel
theorem sun_fix2 : eqY0 778092769 778096770 0 0 = -903226712 ∧ eqY1 778092769 778096770 0 0 = -903222660 ∧ eqX0 778092769 778096770 0 0 = 175596916 ∧ eqX1 778092769 778096770 0 0 = 175621666 ∧ eqZ0 778092769 778096770 0 0 = -391595749 ∧ eqZ1 778092769 778096770 0 0 = -391593991 := by decide +kernel
theorem sun_fix3 : arcLo (-903226712) (-903222660) 175596916 175621666 % 1000000000 ≤ 780562381 ∧ 780562381 ≤ arcLo (-903226712) (-903222660) 175596916 175621666 % 1000000000 + arcHi (-903226712) (-903222660) 175596916 175621666 - arcLo (-903226712) (-903222660) 175596916 175621666 := by decide +kernel
theorem sun_fix4 : asLo (-391595749) ≤ -64038259 ∧ -64038259 ≤ asHi (-391593991) := by decide +kernel
end Go.Proofs.YtaaiamcpdicnhaaGreatDoor
