/- Plain functions: what the checks and the small functions of package interval, oscill, link compute. No program in sight. -/
namespace Go.Proofs.YtapmdkinneehjaaDoor

/-- interval.Check and ephemerisref2.SpanErr. -/
def spanErr (lo hi : Int) : Int :=
  if lo < -1000000000000000000 ∨ 1000000000000000000 < lo ∨ hi < -1000000000000000000 ∨ 1000000000000000000 < hi then 3 else if hi < lo then 9 else 0
/-- oscill.Times and ephemerisref2.TimesErr. -/
def timesErr (lo hi : Int) : Int := if lo < -100000000000000000 ∨ 100000000000000000 < hi then 3 else spanErr lo hi
theorem spanErr_zero {lo hi : Int} (h : spanErr lo hi = 0) : -1000000000000000000 ≤ lo ∧ lo ≤ hi ∧ hi ≤ 1000000000000000000 := by
  unfold spanErr at h; repeat' split at h
  all_goals omega
theorem timesErr_zero {lo hi : Int} (h : timesErr lo hi = 0) : -100000000000000000 ≤ lo ∧ lo ≤ hi ∧ hi ≤ 100000000000000000 := by
  unfold timesErr at h; split at h
  · omega
  · have := spanErr_zero h; omega
end Go.Proofs.YtapmdkinneehjaaDoor
