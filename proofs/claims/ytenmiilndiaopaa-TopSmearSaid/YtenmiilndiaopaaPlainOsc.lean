/- Plain functions of package oscill. -/
import Derived.Test.YtenmiilndiaopaaPlain1
set_option linter.unusedVariables false
set_option linter.unusedSimpArgs false
namespace Go.Proofs.Ytenmiilndiaopaa
def driftB (n : Int) : Bool := decide (0 ≤ n) && decide (n ≤ 100000)
def tickB (n : Int) : Bool := decide (0 ≤ n) && decide (n ≤ 1000000000000)
theorem driftB_true {n : Int} (h1 : 0 ≤ n) (h2 : n ≤ 100000) : driftB n = true := by simp [driftB, h1, h2]
theorem driftB_false {n : Int} (h : n < 0 ∨ 100000 < n) : driftB n = false := by simp [driftB]; omega
theorem tickB_true {n : Int} (h1 : 0 ≤ n) (h2 : n ≤ 1000000000000) : tickB n = true := by simp [tickB, h1, h2]
theorem tickB_false {n : Int} (h : n < 0 ∨ 1000000000000 < n) : tickB n = false := by simp [tickB]; omega
theorem of_driftB {n : Int} (h : driftB n = true) : 0 ≤ n ∧ n ≤ 100000 := by simpa [driftB] using h
theorem of_tickB {n : Int} (h : tickB n = true) : 0 ≤ n ∧ n ≤ 1000000000000 := by simpa [tickB] using h
def elLo (d t : Int) : Int := t * 1000000 / (1000000 + d)
def elHi (d t : Int) : Int := -(-(t * 1000000) / (1000000 - d))
theorem el_bd {d t : Int} (h1 : 0 ≤ d) (h2 : d ≤ 100000) (h3 : 0 ≤ t) (h4 : t ≤ 1000000000000) : 0 ≤ elLo d t ∧ elLo d t ≤ elHi d t ∧ elHi d t ≤ 1111111111112 := by
  unfold elLo elHi
  have a1 := Int.emod_add_mul_ediv (t * 1000000) (1000000 + d)
  have a2 := Int.emod_nonneg (t * 1000000) (show 1000000 + d ≠ 0 by omega)
  have b1 := Int.emod_add_mul_ediv (-(t * 1000000)) (1000000 - d)
  have b2 := Int.emod_nonneg (-(t * 1000000)) (show 1000000 - d ≠ 0 by omega)
  have b3 := Int.emod_lt_of_pos (-(t * 1000000)) (show 0 < 1000000 - d by omega)
  refine ⟨Int.ediv_nonneg (by omega) (by omega), ?_, ?_⟩
  · have c1 : t * 1000000 / (1000000 + d) ≤ t := by
      rw [← Int.lt_add_one_iff, Int.ediv_lt_iff_lt_mul (by omega)]
      have : 0 ≤ t * d := Int.mul_nonneg h3 h1
      rw [Int.add_mul, Int.mul_add, Int.mul_add, Int.one_mul]
      omega
    have c2 : -(t * 1000000) / (1000000 - d) ≤ -t := by
      rw [← Int.lt_add_one_iff, Int.ediv_lt_iff_lt_mul (by omega)]
      have : 0 ≤ t * d := Int.mul_nonneg h3 h1
      rw [Int.add_mul, Int.neg_mul, Int.mul_sub, Int.one_mul]
      omega
    omega
  · have : -1111111111112 ≤ -(t * 1000000) / (1000000 - d) := by
      rw [Int.le_ediv_iff_mul_le (by omega)]
      omega
    omega
/-- The rounding of ephemerisref2.Elapsed. -/
theorem elHi_up {d t : Int} (h1 : 0 ≤ d) (h2 : d ≤ 100000) (h3 : 0 ≤ t) : (t * 1000000 / (1000000 - d) * (1000000 - d) < t * 1000000 → t * 1000000 / (1000000 - d) + 1 = elHi d t) ∧ (¬ t * 1000000 / (1000000 - d) * (1000000 - d) < t * 1000000 → t * 1000000 / (1000000 - d) = elHi d t) := by
  unfold elHi
  generalize hn : t * 1000000 = n
  generalize hm : 1000000 - d = m
  have hm0 : 0 < m := by omega
  have a1 := Int.emod_add_mul_ediv n m
  have a2 := Int.emod_nonneg n (show m ≠ 0 by omega)
  have a3 := Int.emod_lt_of_pos n hm0
  have e1 : n / m * m = m * (n / m) := Int.mul_comm _ _
  constructor
  · intro h
    have : -n / m = -(n / m) - 1 := by
      apply Int.le_antisymm
      · rw [← Int.lt_add_one_iff, Int.ediv_lt_iff_lt_mul hm0]
        have : (-(n / m) - 1 + 1) * m = -(n / m * m) := by rw [Int.sub_add_cancel, Int.neg_mul]
        omega
      · rw [Int.le_ediv_iff_mul_le hm0]
        have : (-(n / m) - 1) * m = -(n / m * m) - m := by rw [Int.sub_mul, Int.neg_mul, Int.one_mul]
        omega
    omega
  · intro h
    have : -n / m = -(n / m) := by
      apply Int.le_antisymm
      · rw [← Int.lt_add_one_iff, Int.ediv_lt_iff_lt_mul hm0]
        have : (-(n / m) + 1) * m = -(n / m * m) + m := by rw [Int.add_mul, Int.neg_mul, Int.one_mul]
        omega
      · rw [Int.le_ediv_iff_mul_le hm0]
        have : -(n / m) * m = -(n / m * m) := by rw [Int.neg_mul]
        omega
    omega
def readErr (tk lo hi : Int) : Int := if tk < 0 ∨ 1000000000000 < tk then 3 else timesErr lo hi
theorem readErr_zero {tk lo hi : Int} (h : readErr tk lo hi = 0) : 0 ≤ tk ∧ tk ≤ 1000000000000 ∧ -100000000000000000 ≤ lo ∧ lo ≤ hi ∧ hi ≤ 100000000000000000 := by
  unfold readErr at h; split at h
  · omega
  · have := timesErr_zero h; omega
/-- The error, and the interval where there is none, of Moved. -/
def mvErr (d tk lo hi k : Int) : Int := if readErr tk lo hi ≠ 0 then readErr tk lo hi else if driftB d = false then 1 else if tickB k = false then 3 else if k < tk then 9 else 0
def mvLo (d tk lo hi k : Int) : Int := if mvErr d tk lo hi k = 0 then lo + elLo d (k - tk) else 0
def mvHi (d tk lo hi k : Int) : Int := if mvErr d tk lo hi k = 0 then hi + elHi d (k - tk) else 0
theorem mv_of {d tk lo hi k : Int} : (mvErr d tk lo hi k ≠ 0 → mvLo d tk lo hi k = 0 ∧ mvHi d tk lo hi k = 0) ∧ (mvErr d tk lo hi k = 0 → mvLo d tk lo hi k = lo + elLo d (k - tk) ∧ mvHi d tk lo hi k = hi + elHi d (k - tk)) := by
  unfold mvLo mvHi
  constructor <;> intro h <;> simp [h]
theorem mvErr_zero {d tk lo hi k : Int} (h : mvErr d tk lo hi k = 0) : readErr tk lo hi = 0 ∧ driftB d = true ∧ tickB k = true ∧ tk ≤ k := by
  unfold mvErr at h
  split at h
  · contradiction
  · rename_i h0
    split at h
    · omega
    · rename_i h1
      split at h
      · omega
      · rename_i h2
        split at h
        · omega
        · exact ⟨Decidable.of_not_not h0, by simpa using h1, by simpa using h2, by omega⟩
end Go.Proofs.Ytenmiilndiaopaa
