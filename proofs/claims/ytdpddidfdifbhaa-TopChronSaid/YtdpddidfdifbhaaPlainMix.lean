/- The matrix in the midst of a round. No program in sight. -/
import Derived.Test.YtdpddidfdifbhaaPlainChr
set_option linter.unusedVariables false
set_option linter.unusedSimpArgs false
namespace Go.Proofs.Ytdpddidfdifbhaa
def mix (D : Nat → Nat → Int) (k i j : Nat) : Nat → Nat → Int := fun x y => if x < i ∨ (x = i ∧ y < j) then nw D k x y else D x y
theorem mix_zero (D : Nat → Nat → Int) (k x y : Nat) : mix D k 0 0 x y = D x y := by unfold mix; rw [if_neg (by omega)]
theorem mix_next {n : Nat} (D : Nat → Nat → Int) (k i x y : Nat) (hy : y < n) : mix D k i n x y = mix D k (i + 1) 0 x y := by
  unfold mix
  by_cases h : x < i ∨ (x = i ∧ y < n)
  · rw [if_pos h, if_pos (by omega)]
  · rw [if_neg h, if_neg (by omega)]
theorem mix_end {n : Nat} (D : Nat → Nat → Int) (k x y : Nat) (hx : x < n) : mix D k n 0 x y = nw D k x y := by unfold mix; rw [if_pos (by omega)]
theorem mix_cell (D : Nat → Nat → Int) (k i j : Nat) : mix D k i j i j = D i j := by unfold mix; rw [if_neg (by omega)]
theorem mix_col {n k : Nat} {D : Nat → Nat → Int} (h : Good n k D) (hk : k < n) (i j : Nat) : mix D k i j i k = D i k := by
  unfold mix; split
  · exact nw_col h hk i
  · rfl
theorem mix_row {n k : Nat} {D : Nat → Nat → Int} (h : Good n k D) (hk : k < n) (i j y : Nat) : mix D k i j k y = D k y := by
  unfold mix; split
  · exact nw_row h hk y
  · rfl
theorem mix_set (D : Nat → Nat → Int) (k i j x y : Nat) : mix D k i (j + 1) x y = stM (mix D k i j) i j (nw D k i j) x y := by
  unfold stM mix
  by_cases h : x = i ∧ y = j
  · obtain ⟨rfl, rfl⟩ := h
    rw [if_pos (by omega), if_pos ⟨rfl, rfl⟩]
  · rw [if_neg h]
    by_cases g : x < i ∨ (x = i ∧ y < j)
    · rw [if_pos g, if_pos (by omega)]
    · rw [if_neg g, if_neg (by omega)]
theorem mix_stay (D : Nat → Nat → Int) (k i j x y : Nat) (h : nw D k i j = D i j) : mix D k i (j + 1) x y = mix D k i j x y := by
  rw [mix_set]
  unfold stM
  split
  · rename_i q; obtain ⟨rfl, rfl⟩ := q; rw [mix_cell, h]
  · rfl
end Go.Proofs.Ytdpddidfdifbhaa
