/- What the checks of a chronology tell. No program in sight. -/
import Derived.Test.YtdpddidfdifbhaaPlainLg
set_option linter.unusedVariables false
set_option linter.unusedSimpArgs false
namespace Go.Proofs.Ytdpddidfdifbhaa
def bdOne (n : Int) (c : Bd) : Int :=
  if c.a < 0 ∨ c.b < 0 ∨ n ≤ c.a ∨ n ≤ c.b ∨ c.lo < -8000000 ∨ 8000000 < c.hi then 3 else if c.a = c.b then 1 else if c.hi < c.lo then 9 else 0
def chErr (n : Int) (l : List Bd) : Int := if 12 < n ∨ 40 < l.length then 2 else if n < 1 then 8 else fe (bdOne n) l
theorem bdOne_zero {n : Int} {c : Bd} (h : bdOne n c = 0) : 0 ≤ c.a ∧ 0 ≤ c.b ∧ c.a < n ∧ c.b < n ∧ -8000000 ≤ c.lo ∧ c.hi ≤ 8000000 ∧ c.a ≠ c.b ∧ c.lo ≤ c.hi := by
  unfold bdOne at h
  by_cases h1 : c.a < 0 ∨ c.b < 0 ∨ n ≤ c.a ∨ n ≤ c.b ∨ c.lo < -8000000 ∨ 8000000 < c.hi
  · rw [if_pos h1] at h; omega
  · rw [if_neg h1] at h
    by_cases h2 : c.a = c.b
    · rw [if_pos h2] at h; omega
    · rw [if_neg h2] at h
      by_cases h3 : c.hi < c.lo
      · rw [if_pos h3] at h; omega
      · omega
theorem bdOk_of {n : Int} {l : List Bd} (h : chErr n l = 0) : ∃ m : Nat, n = m ∧ BdOk m l := by
  unfold chErr at h
  by_cases h1 : 12 < n ∨ 40 < l.length
  · rw [if_pos h1] at h; omega
  · rw [if_neg h1] at h
    by_cases h2 : n < 1
    · rw [if_pos h2] at h; omega
    · rw [if_neg h2] at h
      have hz := fe_zero h
      have hm : ∀ c ∈ l, bdOne n c = 0 := fun c hc => by
        obtain ⟨k, hk, rfl⟩ := List.getElem_of_mem hc
        exact hz k hk
      refine ⟨n.toNat, by omega, by omega, by omega, by omega, ?_, ?_, ?_, ?_, ?_, ?_, ?_, ?_⟩
      all_goals intro c hc; have := bdOne_zero (hm c hc); omega
theorem fe_is {α : Type} {f : α → Int} {l : List α} {x : α} {v : Int} (HA : f x ≠ 0 → fe f l = f x) (h : f x = v) (hv : v ≠ 0) : v = fe f l := by rw [HA (by omega)]; exact h.symm
end Go.Proofs.Ytdpddidfdifbhaa
