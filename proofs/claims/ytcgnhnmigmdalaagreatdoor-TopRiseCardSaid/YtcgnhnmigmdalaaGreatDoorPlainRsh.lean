/- What the two searches of a day tell of the time between. Plain. -/
import Derived.Test.YtcgnhnmigmdalaaGreatDoorPlainRsd
import Derived.Test.YtcgnhnmigmdalaaGreatDoorRsA
set_option linter.unusedVariables false
set_option linter.unusedSimpArgs false
namespace Go.Proofs.YtcgnhnmigmdalaaGreatDoor
theorem abvN_pos {lim lo hi : Int} (h : abvN lim lo hi = 1) : lim < lo := by
  unfold abvN at h
  split at h
  · assumption
  · split at h <;> cases h
theorem abvN_neg {lim lo hi : Int} (h : abvN lim lo hi = -1) : hi < lim := by
  unfold abvN at h
  split at h
  · cases h
  · split at h
    · assumption
    · cases h
theorem rsV_sun (ln la t : Int) : rsV ln la t 0 = abvN (-14543900) (suU0 ln la t) (suU1 ln la t) := if_pos rfl
theorem fd_rf {ln la dd : Int} (r : Bool) (hE : rsE ln la 0 = 0) (h1 : -4000000 ≤ dd) (h2 : dd < 4000000) : fdR ln la dd 0 r = rfR ln la dd 0 (sgn r) := by
  unfold fdR
  rw [if_neg (by simp [hE]), if_neg (by omega)]
theorem rise_all {ln la dd t : Int} (l1 : -150000000 < la) (l2 : la < 150000000) (hE : rsE ln la 0 = 0) (h1 : -4000000 ≤ dd) (h2 : dd < 4000000) (ea : (fdR ln la dd 0 true).er = 0) (eb : (fdR ln la dd 0 false).er = 0)
    (ab : (fdR ln la dd 0 true).hi + 7200000 < (fdR ln la dd 0 false).lo) (t0 : (fdR ln la dd 0 true).hi + 3600000 ≤ t) (t1 : t ≤ (fdR ln la dd 0 false).lo - 3600000) :
    0 < suU0 ln la t ∧ dd * 86400000 ≤ t ∧ t ≤ dd * 86400000 + 86400000 := by
  rw [fd_rf true hE h1 h2] at ea ab t0
  rw [fd_rf false hE h1 h2] at eb ab t1
  obtain ⟨a1, a2, a3, a4, a5, a6⟩ := (rfR_ok ln la dd 0 (sg := sgn true) (sgn_or true)).f ea
  obtain ⟨b1, b2, b3, b4, b5, b6⟩ := (rfR_ok ln la dd 0 (sg := sgn false) (sgn_or false)).f eb
  unfold rsS at a5 a6 b5 b6
  rw [rsV_sun] at a5 a6 b5 b6
  have e1 : sgn true = 1 := rfl
  have e2 : sgn false = -1 := rfl
  rw [e1] at a1 a2 a3 a4 a5 a6 ab t0
  rw [e2] at b1 b2 b3 b4 b5 b6 ab t1
  have ua := abvN_neg (show abvN (-14543900) (suU0 ln la (rfR ln la dd 0 1).lo) (suU1 ln la (rfR ln la dd 0 1).lo) = -1 by omega)
  have va := abvN_pos (show abvN (-14543900) (suU0 ln la (rfR ln la dd 0 1).hi) (suU1 ln la (rfR ln la dd 0 1).hi) = 1 by omega)
  have vb := abvN_pos (show abvN (-14543900) (suU0 ln la (rfR ln la dd 0 (-1)).lo) (suU1 ln la (rfR ln la dd 0 (-1)).lo) = 1 by omega)
  have ub := abvN_neg (show abvN (-14543900) (suU0 ln la (rfR ln la dd 0 (-1)).hi) (suU1 ln la (rfR ln la dd 0 (-1)).hi) = -1 by omega)
  exact ⟨su_rise l1 l2 a2 (by omega) b2 (by omega) ab (by omega) t0 t1 ua va vb ub, by omega, by omega⟩
end Go.Proofs.YtcgnhnmigmdalaaGreatDoor
