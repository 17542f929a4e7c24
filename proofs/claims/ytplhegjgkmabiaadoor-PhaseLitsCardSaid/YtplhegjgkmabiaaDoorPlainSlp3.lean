/- The change of the reference's sum between two instants, and the slope. No program in sight. -/
import Derived.Test.YtplhegjgkmabiaaDoorPlainSlp2
import Derived.Test.YtplhegjgkmabiaaDoorTrA
set_option linter.unusedVariables false
set_option linter.unusedSimpArgs false
namespace Go.Proofs.YtplhegjgkmabiaaDoor
open Ieee
theorem partA_bd (t : Tm) (inst : Int) : 0 ≤ partA t inst ∧ partA t inst ≤ 1000000000 := by
  have m0 := Int.emod_nonneg (t.ph + grQ t.rt inst) (show (1000000000 : Int) ≠ 0 by omega)
  have m1 := Int.emod_lt_of_pos (t.ph + grQ t.rt inst) (show (0 : Int) < 1000000000 by omega)
  have r0 : 0 ≤ grR t.rt inst := Int.emod_nonneg _ (by omega)
  have r1 : grR t.rt inst < 86400000000000 := Int.emod_lt_of_pos _ (by omega)
  unfold partA
  generalize (t.ph + grQ t.rt inst) % 1000000000 = n at *
  generalize grR t.rt inst = r at *
  have dv : (r : Rat) / 86400000000000 = (r : Rat) * (1 / 86400000000000) := by rw [Rat.div_def, Rat.div_def]; grind
  rw [dv]
  have a0 : (0 : Rat) ≤ (n : Rat) := by exact_mod_cast m0
  have a1 : (n : Rat) ≤ 999999999 := by
    have := Rat.intCast_le_intCast.2 (show n ≤ 999999999 by omega)
    exact this
  have b0 : (0 : Rat) ≤ (r : Rat) := by exact_mod_cast r0
  have b1 : (r : Rat) ≤ 86400000000000 := by
    have := Rat.intCast_le_intCast.2 (show r ≤ 86400000000000 by omega)
    exact this
  constructor <;> grind
/-- A thousandth of a day later: the argument has grown by the rate, up to whole turns. -/
theorem partA_step (t : Tm) (inst : Int) : ∃ j : Int, partA t (inst + 86400) = partA t inst + (t.rt : Rat) * (1 / 1000000000) + (j : Rat) * 1000000000 := by
  have key : ∀ i : Int, ∃ j : Int, partA t i = (t.ph : Rat) + ((t.rt * i : Int) : Rat) * (1 / 86400000000000) + (j : Rat) * 1000000000 := by
    intro i
    have e1 := Int.emod_add_mul_ediv (t.rt * i) 86400000000000
    have e2 := Int.emod_add_mul_ediv (t.ph + grQ t.rt i) 1000000000
    refine ⟨-((t.ph + grQ t.rt i) / 1000000000), ?_⟩
    unfold partA grR
    unfold grQ at *
    have dv : ((t.rt * i % 86400000000000 : Int) : Rat) / 86400000000000 = ((t.rt * i % 86400000000000 : Int) : Rat) * (1 / 86400000000000) := by rw [Rat.div_def, Rat.div_def]; grind
    rw [dv]
    generalize t.rt * i % 86400000000000 = r at *
    generalize t.rt * i / 86400000000000 = q at *
    generalize (t.ph + q) % 1000000000 = n at *
    generalize (t.ph + q) / 1000000000 = k at *
    have f1 : (r : Rat) + 86400000000000 * (q : Rat) = ((t.rt * i : Int) : Rat) := by rw [← e1]; push_cast; rfl
    have f2 : (n : Rat) + 1000000000 * (k : Rat) = (t.ph : Rat) + (q : Rat) := by
      have := congrArg (fun z : Int => (z : Rat)) e2
      push_cast at this
      exact this
    push_cast
    push_cast at f1
    grind
  obtain ⟨j1, h1⟩ := key (inst + 86400)
  obtain ⟨j0, h0⟩ := key inst
  refine ⟨j1 - j0, ?_⟩
  rw [h1, h0]
  push_cast
  grind
theorem turn_cases {a b : Rat} {j : Int} (h : b = a + (j : Rat) * 1000000000) (h1 : -1500000000 < b - a) (h2 : b - a < 1500000000) : j = -1 ∨ j = 0 ∨ j = 1 := by
  have a1 : ((-2 : Int) : Rat) < (j : Rat) := by
    have c : ((-2 : Int) : Rat) = -2 := rfl
    rw [c]; grind
  have a2 : (j : Rat) < ((2 : Int) : Rat) := by
    have c : ((2 : Int) : Rat) = 2 := rfl
    rw [c]; grind
  have b1 := Rat.intCast_lt_intCast.1 a1
  have b2 := Rat.intCast_lt_intCast.1 a2
  omega
theorem sin_step {x y d : Rat} {j : Int} (hx0 : 0 ≤ x) (hx1 : x ≤ 2 * piQ) (hy0 : 0 ≤ y) (hy1 : y ≤ 2 * piQ) (hd : rabs d ≤ 3 / 100) (h : y = x + d + (j : Rat) * (2 * piQ)) (hj : j = -1 ∨ j = 0 ∨ j = 1) :
    rabs (S y - S x) ≤ (1 + 1 / 100000000000) * rabs d + 12 / 10000000000000 := by
  have pib := pi_num
  obtain ⟨d1, d2⟩ := rabs_le.1 hd
  rcases hj with rfl | rfl | rfl
  · have c : ((-1 : Int) : Rat) = -1 := rfl
    rw [c] at h
    obtain ⟨t1, t2⟩ := rabs_le.1 (sin_turn (x := y) (rabs_le.2 ⟨by grind, by grind⟩)).1
    have l := (sin_lipQ (x := y + 2 * piQ) (y := x) (rabs_le.2 ⟨by grind, by grind⟩) (rabs_le.2 ⟨by grind, by grind⟩)).1
    have e : y + 2 * piQ - x = d := by grind
    rw [e] at l
    obtain ⟨l1, l2⟩ := rabs_le.1 l
    rw [rabs_le]
    constructor <;> grind
  · have c : ((0 : Int) : Rat) = 0 := rfl
    rw [c] at h
    have l := (sin_lipQ (x := y) (y := x) (rabs_le.2 ⟨by grind, by grind⟩) (rabs_le.2 ⟨by grind, by grind⟩)).1
    have e : y - x = d := by grind
    rw [e] at l
    obtain ⟨l1, l2⟩ := rabs_le.1 l
    rw [rabs_le]
    constructor <;> grind
  · have c : ((1 : Int) : Rat) = 1 := rfl
    rw [c] at h
    obtain ⟨t1, t2⟩ := rabs_le.1 (sin_turn (x := x) (rabs_le.2 ⟨by grind, by grind⟩)).1
    have l := (sin_lipQ (x := y) (y := x + 2 * piQ) (rabs_le.2 ⟨by grind, by grind⟩) (rabs_le.2 ⟨by grind, by grind⟩)).1
    have e : y - (x + 2 * piQ) = d := by grind
    rw [e] at l
    obtain ⟨l1, l2⟩ := rabs_le.1 l
    rw [rabs_le]
    constructor <;> grind
end Go.Proofs.YtplhegjgkmabiaaDoor
