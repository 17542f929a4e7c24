/- What a rate adds up to an instant, in plain terms. No program in sight. -/
import Derived.Test.YtffnmfcaoldlhaaDoorPlainArg
set_option linter.unusedVariables false
set_option linter.unusedSimpArgs false
namespace Go.Proofs.YtffnmfcaoldlhaaDoor
def grQ (rate inst : Int) : Int := rate * inst / 86400000000000
def grR (rate inst : Int) : Int := rate * inst % 86400000000000
theorem gr_end {rate inst R I : Int} (hR : (rate < 0 ∧ R = -rate) ∨ (0 ≤ rate ∧ R = rate)) (hI : (inst < 0 ∧ I = -inst) ∨ (0 ≤ inst ∧ I = inst)) :
    ((decide (rate < 0) = decide (inst < 0)) → R * I / 86400000000000 = grQ rate inst ∧ R * I % 86400000000000 = grR rate inst) ∧
    (¬ (decide (rate < 0) = decide (inst < 0)) → (0 < R * I % 86400000000000 → -(R * I / 86400000000000) - 1 = grQ rate inst ∧ -(R * I % 86400000000000) + 86400000000000 = grR rate inst) ∧ (¬ 0 < R * I % 86400000000000 → -(R * I / 86400000000000) = grQ rate inst ∧ -(R * I % 86400000000000) = grR rate inst)) := by
  have hX : rate * inst = if decide (rate < 0) = decide (inst < 0) then R * I else -(R * I) := by
    rcases hR with ⟨h1, rfl⟩ | ⟨h1, rfl⟩ <;> rcases hI with ⟨h2, rfl⟩ | ⟨h2, rfl⟩
    · rw [if_pos (by simp [h1, h2])]; grind
    · rw [if_neg (by simp [h1]; omega)]; grind
    · rw [if_neg (by simp [h2]; omega)]; grind
    · rw [if_pos (by simp; omega)]
  unfold grQ grR
  rw [hX]
  generalize R * I = X at *
  refine ⟨fun hd => by rw [if_pos hd]; exact ⟨rfl, rfl⟩, fun hd => ⟨fun h0 => ?_, fun h0 => ?_⟩⟩
  · rw [if_neg hd]; omega
  · rw [if_neg hd]; omega
theorem prod_mags {R I : Int} (r0 : 0 ≤ R) (r1 : R ≤ 4000000000000000) (i0 : 0 ≤ I) (i1 : I ≤ 400000000000000) :
    0 ≤ R * I ∧ R * I ≤ 1600000000000000000000000000000 := by
  refine ⟨Int.mul_nonneg r0 i0, ?_⟩
  have := Int.mul_le_mul_of_nonneg_right r1 i0
  have := Int.mul_le_mul_of_nonneg_left i1 (show (0 : Int) ≤ 4000000000000000 by omega)
  omega
end Go.Proofs.YtffnmfcaoldlhaaDoor
