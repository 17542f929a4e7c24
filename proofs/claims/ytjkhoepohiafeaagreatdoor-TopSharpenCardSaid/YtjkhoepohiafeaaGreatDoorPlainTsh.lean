/- TopSharpen's plain law: what is sharpened lies within what was found, and is found where that is. -/
import Derived.Test.YtjkhoepohiafeaaGreatDoorWalkShR
import Derived.Test.YtjkhoepohiafeaaGreatDoorRsA
set_option linter.unusedVariables false
set_option linter.unusedSimpArgs false
namespace Go.Proofs.YtjkhoepohiafeaaGreatDoor
theorem tsh_rise (lon lat d b : Int) (r : Bool) {wd : Int} (hw : 150000 ≤ wd) : (srR lon lat d b r wd).er = (fdR lon lat d b r).er ∧ (fdR lon lat d b r).lo ≤ (srR lon lat d b r wd).lo ∧ (srR lon lat d b r wd).hi ≤ (fdR lon lat d b r).hi := by
  obtain ⟨-, -, -, x4⟩ := fdR_bd lon lat d b r
  have hok : (fdR lon lat d b r).er = 0 → (fdR lon lat d b r).hi - (fdR lon lat d b r).lo ≤ 120000 := by
    intro h
    have e1 : fdR lon lat d b r = rfR lon lat d b (sgn r) := by
      unfold fdR at h ⊢
      by_cases h1 : rsE lon lat b ≠ 0
      · rw [if_pos h1] at h; exact absurd h h1
      · rw [if_neg h1] at h ⊢
        by_cases h2 : d < -4000000 ∨ 4000000 ≤ d
        · rw [if_pos h2] at h; cases h
        · rw [if_neg h2]
    rw [e1] at h ⊢
    obtain ⟨-, -, -, f4, -, -⟩ := (rfR_ok lon lat d b (sgn_or r)).f h
    exact f4
  unfold srR srN
  generalize fdR lon lat d b r = A at *
  by_cases h : A.er ≠ 0
  · rw [if_pos h]
    obtain ⟨h1, h2⟩ := x4 h
    exact ⟨rfl, by rw [h1]; exact Int.le_refl _, by rw [h2]; exact Int.le_refl _⟩
  · rw [if_neg h, if_neg (by omega)]
    have h0 := Decidable.not_not.1 h
    have k := hok h0
    have e : narF (rsS lon lat b (sgn r)) wd 62 A.lo A.hi = ⟨A.lo, A.hi, true⟩ := by
      unfold narF
      rw [if_neg (by omega)]
    rw [e, if_pos rfl]
    exact ⟨h0.symm, Int.le_refl _, Int.le_refl _⟩
theorem tsh_sea {q y wd : Int} (q0 : 0 ≤ q) (q1 : q ≤ 3) (h1 : -10000 ≤ y) (h2 : y ≤ 10000) (hw : 150000 ≤ wd) : (shS q y wd).is = true ∧ (seR q y).lo ≤ (shS q y wd).lo ∧ (shS q y wd).hi ≤ (seR q y).hi ∧ (shS q y wd).hi - (shS q y wd).lo ≤ wd ∧ (shS q y wd).lo < (shS q y wd).hi := by
  have h := shS_ok h1 h2 q0 q1 (wd := wd) (by omega)
  exact ⟨h.is (by omega), h.a, h.c, h.w (h.is (by omega)), h.b⟩
theorem tsh_ph {n q wd : Int} (n0 : -100000 ≤ n) (n1 : n ≤ 100000) (q0 : 0 ≤ q) (q1 : q ≤ 3) (hw : 150000 ≤ wd) : (shP n q wd).is = true ∧ (phR n q).lo ≤ (shP n q wd).lo ∧ (shP n q wd).hi ≤ (phR n q).hi ∧ (shP n q wd).hi - (shP n q wd).lo ≤ wd ∧ (shP n q wd).lo < (shP n q wd).hi := by
  have h := shP_ok n0 n1 q0 q1 (wd := wd) (by omega)
  exact ⟨h.is (by omega), h.a, h.c, h.w (h.is (by omega)), h.b⟩
end Go.Proofs.YtjkhoepohiafeaaGreatDoor
