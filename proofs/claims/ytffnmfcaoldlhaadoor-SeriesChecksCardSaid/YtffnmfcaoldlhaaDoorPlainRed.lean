/- The reduction of an angle to an octant in floating point. No program in sight. -/
import Derived.Test.YtffnmfcaoldlhaaDoorPlainSin2
set_option linter.unusedVariables false
set_option linter.unusedSimpArgs false
namespace Go.Proofs.YtffnmfcaoldlhaaDoor
open Ieee
def wPA : Nat := 4605249456957292544
def wPB : Nat := 4495793288086814720
def wPC : Nat := 4388835458085048688
theorem pi4_parts : cv wPA + cv wPB + cv wPC ≤ piQ / 4 + 1 / 10 ^ 30 ∧ piQ / 4 ≤ cv wPA + cv wPB + cv wPC + 1 / 10 ^ 30 := by decide +kernel
theorem reduce {x yk : Nat} {X e k : Rat} (hx : Ap x X e) (hy : Ap yk k 0) (k0 : 0 ≤ k) (k8 : k ≤ 8) (x0 : 0 ≤ X) (x7 : X ≤ 7) (he : e ≤ 7 / 1000000000000000) :
    ∃ a1 b1 a2 b2 a3 z, double.mul yk wPA = some a1 ∧ double.sub x a1 = some b1 ∧ double.mul yk wPB = some a2 ∧ double.sub b1 a2 = some b2 ∧ double.mul yk wPC = some a3 ∧ double.sub b2 a3 = some z ∧ Ap z (X - k * (piQ / 4)) (12 / 1000000000000000) := by
  have e0 := hx.pos
  have p3 : p2 ((3 : Nat) : Int) = 8 := by decide +kernel
  have n3 : p2 (((3 : Nat) : Int) - 53) ≤ 9 / 10000000000000000 := by decide +kernel
  have n30 := Rat.le_of_lt (p2_pos (((3 : Nat) : Int) - 53))
  have p0 : p2 ((0 : Nat) : Int) = 1 := by decide +kernel
  have n0 : p2 (((0 : Nat) : Int) - 53) ≤ 2 / 10000000000000000 := by decide +kernel
  have n00 := Rat.le_of_lt (p2_pos (((0 : Nat) : Int) - 53))
  have cA : 0 ≤ cv wPA ∧ cv wPA ≤ 4/5 := by decide +kernel
  have cB : 0 ≤ cv wPB ∧ cv wPB ≤ 1/100000 := by decide +kernel
  have cC : 0 ≤ cv wPC ∧ cv wPC ≤ 1/100000 := by decide +kernel
  have pp := pi4_parts
  have t30 : (1 : Rat) / 10 ^ 30 ≤ 1 / 100000000000000000000 := by decide +kernel
  have t30' : (0 : Rat) ≤ 1 / 10 ^ 30 := by decide +kernel
  have hA := cv_ap (show isNum wPA = true by decide +kernel)
  have hB := cv_ap (show isNum wPB = true by decide +kernel)
  have hC := cv_ap (show isNum wPC = true by decide +kernel)
  generalize (1 : Rat) / 10 ^ 30 = d30 at *
  generalize cv wPA = A at *
  generalize cv wPB = B at *
  generalize cv wPC = D at *
  generalize piQ / 4 = P at *
  generalize hu3 : p2 (((3 : Nat) : Int) - 53) = u3 at *
  generalize hu0 : p2 (((0 : Nat) : Int) - 53) = u0 at *
  obtain ⟨a1, e1, g1⟩ := mul_ap 8 (4/5) 3 (by omega) hy hA k8 (by grind) cA.2 (by grind) (by rw [p3]; grind)
  obtain ⟨a2, e2, g2⟩ := mul_ap 8 (1/100000) 0 (by omega) hy hB k8 (by grind) cB.2 (by grind) (by rw [p0]; grind)
  obtain ⟨a3, e3, g3⟩ := mul_ap 8 (1/100000) 0 (by omega) hy hC k8 (by grind) cC.2 (by grind) (by rw [p0]; grind)
  rw [hu3] at g1
  rw [hu0] at g2 g3
  have kA0 := Rat.mul_nonneg k0 cA.1
  have kB0 := Rat.mul_nonneg k0 cB.1
  have kC0 := Rat.mul_nonneg k0 cC.1
  have kA := Rat.mul_le_mul_of_nonneg_right k8 cA.1
  have kB := Rat.mul_le_mul_of_nonneg_right k8 cB.1
  have kC := Rat.mul_le_mul_of_nonneg_right k8 cC.1
  have s1 := Rat.mul_le_mul_of_nonneg_left pp.1 k0
  have s2 := Rat.mul_le_mul_of_nonneg_left pp.2 k0
  have s3 := Rat.mul_le_mul_of_nonneg_right k8 t30'
  have w1 : k * (A + B + D) = k * A + k * B + k * D := by grind
  have w2 : k * (P + d30) = k * P + k * d30 := by grind
  have w3 : k * (A + B + D + d30) = k * A + k * B + k * D + k * d30 := by grind
  rw [w1, w2] at s1
  rw [w3] at s2
  generalize k * A = zA at *
  generalize k * B = zB at *
  generalize k * D = zC at *
  generalize k * P = zP at *
  generalize k * d30 = zd at *
  obtain ⟨b1, f1, h1⟩ := sub_ap 3 (by omega) hx g1 (by rw [p3]; grind) (by rw [p3]; grind)
  rw [hu3] at h1
  obtain ⟨b2, f2, h2⟩ := sub_ap 3 (by omega) h1 g2 (by rw [p3]; grind) (by rw [p3]; grind)
  rw [hu3] at h2
  obtain ⟨z, f3, h3⟩ := sub_ap 3 (by omega) h2 g3 (by rw [p3]; grind) (by rw [p3]; grind)
  rw [hu3] at h3
  refine ⟨a1, b1, a2, b2, a3, z, e1, f1, e2, f2, e3, f3, ?_⟩
  exact (h3.move (Y := X - zP) (d := 1 / 10000000000000000) (by grind) (by grind)).mono (by grind)
end Go.Proofs.YtffnmfcaoldlhaaDoor
