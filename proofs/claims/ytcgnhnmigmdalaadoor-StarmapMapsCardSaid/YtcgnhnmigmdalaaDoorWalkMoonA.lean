/- Contracts of moon.At; the walk through the law MoonAts. -/
import Derived.Test.YtcgnhnmigmdalaaDoorPlainMoonAt
import Derived.Test.YtcgnhnmigmdalaaDoorWalkMoonL
set_option linter.unusedVariables false
set_option linter.unusedSimpArgs false
namespace Go.Proofs.YtcgnhnmigmdalaaDoor
open Go.RowKit
def mraLo (t : Int) : Int := raLo (moonLo t) (moonHi t) (northLo t) (northHi t) % 1000000000
def mraHi (t : Int) : Int := raLo (moonLo t) (moonHi t) (northLo t) (northHi t) % 1000000000 + raHi (moonLo t) (moonHi t) (northLo t) (northHi t) - raLo (moonLo t) (moonHi t) (northLo t) (northHi t)
def mdeLo (t : Int) : Int := asLo (eqZ0 (moonLo t) (moonHi t) (northLo t) (northHi t))
def mdeHi (t : Int) : Int := asHi (eqZ1 (moonLo t) (moonHi t) (northLo t) (northHi t))
/-- What is known of the moon's coordinates. -/
structure MoonR (t : Int) : Prop where
  ra0 : 0 ≤ mraLo t
  ra1 : mraLo t < 1000000000
  ra2 : mraLo t ≤ mraHi t
  ra3 : mraHi t - mraLo t ≤ 200000
  de0 : -250000000 ≤ mdeLo t
  de1 : mdeLo t ≤ mdeHi t
  de2 : mdeHi t ≤ 250000000
  de3 : mdeHi t - mdeLo t ≤ 200000
  ia : ∀ x y z, MoonD t x y z → InArcOk (mraLo t) (mraHi t % 1000000000) y x
  is : ∀ x y z, MoonD t x y z → InAsin (mdeLo t) (mdeHi t) z
end Go.Proofs.YtcgnhnmigmdalaaDoor
