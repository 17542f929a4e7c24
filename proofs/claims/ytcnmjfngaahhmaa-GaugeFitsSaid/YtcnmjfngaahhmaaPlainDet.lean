/- Determinants by their first row, and their bounds. No program in sight. -/
import Derived.Test.YtcnmjfngaahhmaaPlainGau
set_option linter.unusedVariables false
set_option linter.unusedSimpArgs false
namespace Go.Proofs.Ytcnmjfngaahhmaa
def minR (R : Nat → Nat → Int) (k i j : Nat) : Int := R (i + 1) (if j < k then j else j + 1)
def sgn (k : Nat) : Int := if k % 2 = 0 then 1 else -1
theorem sgn_next (k : Nat) : sgn (k + 1) = -sgn k := by unfold sgn; split <;> split <;> omega
theorem sgn_bd (k : Nat) : -1 ≤ sgn k ∧ sgn k ≤ 1 := by unfold sgn; split <;> omega
def dPart (F : (Nat → Nat → Int) → Int) (R : Nat → Nat → Int) : Nat → Int
  | 0 => 0
  | k + 1 => dPart F R k + sgn k * R 0 k * F (minR R k)
def detF : Nat → (Nat → Nat → Int) → Int
  | 0, _ => 0
  | 1, R => R 0 0
  | n + 2, R => dPart (detF (n + 1)) R (n + 2)
theorem detF_next (n : Nat) (hn : 1 ≤ n) (R : Nat → Nat → Int) : detF (n + 1) R = dPart (detF n) R (n + 1) := by
  obtain ⟨m, rfl⟩ : ∃ m, n = m + 1 := ⟨n - 1, by omega⟩
  rfl
theorem mul_bd {x y A D : Int} (hx : -A ≤ x ∧ x ≤ A) (hy : -D ≤ y ∧ y ≤ D) : -(A * D) ≤ x * y ∧ x * y ≤ A * D := by
  obtain ⟨x0, x1⟩ := hx
  obtain ⟨y0, y1⟩ := hy
  have a := Int.mul_nonneg (show 0 ≤ A - x by omega) (show 0 ≤ D - y by omega)
  have b := Int.mul_nonneg (show 0 ≤ A + x by omega) (show 0 ≤ D + y by omega)
  have c := Int.mul_nonneg (show 0 ≤ A - x by omega) (show 0 ≤ D + y by omega)
  have d := Int.mul_nonneg (show 0 ≤ A + x by omega) (show 0 ≤ D - y by omega)
  constructor <;> grind
def RB (n : Nat) (R : Nat → Nat → Int) : Prop := ∀ i j, i < n → j < n → -80000 ≤ R i j ∧ R i j ≤ 80000
theorem RB.min {n : Nat} {R : Nat → Nat → Int} (h : RB (n + 1) R) (k : Nat) : RB n (minR R k) := by
  intro i j hi hj
  unfold minR
  split <;> exact h _ _ (by omega) (by omega)
theorem sgn_mul (k : Nat) {x A : Int} (hx : -A ≤ x ∧ x ≤ A) : -A ≤ sgn k * x ∧ sgn k * x ≤ A := by
  have := mul_bd (A := 1) (D := A) (sgn_bd k) hx
  omega
theorem dPart_bd {n : Nat} {R : Nat → Nat → Int} {F : (Nat → Nat → Int) → Int} {D : Int} (h : RB (n + 1) R) (hF : ∀ R, RB n R → -D ≤ F R ∧ F R ≤ D) : ∀ k, k ≤ n + 1 → -((k : Int) * (80000 * D)) ≤ dPart F R k ∧ dPart F R k ≤ (k : Int) * (80000 * D)
  | 0, _ => by simp [dPart]
  | k + 1, hk => by
    have ih := dPart_bd h hF k (by omega)
    have a := mul_bd (sgn_mul k (h 0 k (by omega) (by omega))) (hF _ (h.min k))
    have e : ((k + 1 : Nat) : Int) * (80000 * D) = (k : Int) * (80000 * D) + 80000 * D := by
      rw [Int.natCast_add, Int.add_mul]; simp
    rw [e]
    unfold dPart
    omega
theorem det1_bd (R : Nat → Nat → Int) (h : RB 1 R) : -80000 ≤ detF 1 R ∧ detF 1 R ≤ 80000 := h 0 0 (by omega) (by omega)
theorem det2_bd (R : Nat → Nat → Int) (h : RB 2 R) : -12800000000 ≤ detF 2 R ∧ detF 2 R ≤ 12800000000 := by
  have := dPart_bd h det1_bd 2 (by omega)
  have e : detF 2 R = dPart (detF 1) R 2 := detF_next 1 (by omega) R
  rw [e]
  omega
theorem det3_bd (R : Nat → Nat → Int) (h : RB 3 R) : -3072000000000000 ≤ detF 3 R ∧ detF 3 R ≤ 3072000000000000 := by
  have := dPart_bd h det2_bd 3 (by omega)
  have e : detF 3 R = dPart (detF 2) R 3 := detF_next 2 (by omega) R
  rw [e]
  omega
theorem detF_two (R : Nat → Nat → Int) : detF 2 R = det2 (R 0 0) (R 0 1) (R 1 0) (R 1 1) := by
  simp only [detF, dPart, minR, sgn, det2]
  simp
  grind
theorem detF_three (R : Nat → Nat → Int) : detF 3 R = det3 (R 0 0) (R 0 1) (R 0 2) (R 1 0) (R 1 1) (R 1 2) (R 2 0) (R 2 1) (R 2 2) := by
  simp only [detF, dPart, minR, sgn, det3]
  simp
  generalize R 0 0 = a; generalize R 0 1 = b; generalize R 0 2 = c; generalize R 1 0 = d; generalize R 1 1 = e; generalize R 1 2 = f
  generalize R 2 0 = g; generalize R 2 1 = h; generalize R 2 2 = i
  grind
end Go.Proofs.Ytcnmjfngaahhmaa
