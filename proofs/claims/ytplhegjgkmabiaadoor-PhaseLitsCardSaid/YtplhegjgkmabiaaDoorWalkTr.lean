/- The contracts of trig.Sin, Cos and Root, and of the self-check of package trig. -/
import Derived.Test.YtplhegjgkmabiaaDoorWalkArc2
import Derived.Test.YtplhegjgkmabiaaDoorWkD
set_option linter.unusedVariables false
set_option linter.unusedSimpArgs false
namespace Go.Proofs.YtplhegjgkmabiaaDoor
open Go.RowKit
def angOk (a : Int) : Bool := decide (-1000000000000000000 ≤ a) && decide (a ≤ 1000000000000000000)
/-- The least interval around the roots. -/
structure RootOk (lo hi p q : Int) : Prop where
  p0 : 0 ≤ p
  p1 : p * p ≤ lo
  p2 : lo < (p + 1) * (p + 1)
  q0 : 0 ≤ q
  q1 : hi ≤ q * q
  q2 : q = 0 ∨ (q - 1) * (q - 1) < hi
theorem root9 {R n : Int} (h0 : 0 ≤ R) (h : R * R ≤ n) (h1 : n ≤ 1000000000000000000) : R ≤ 1000000000 ∧ R * R ≤ 1000000000000000000 ∧ 0 ≤ R * R := ⟨root_le h h1, by omega, Int.mul_nonneg h0 h0⟩
theorem root29 {p q : Int} (h : RootOk 2 9 p q) : p = 1 ∧ q = 3 := by
  obtain ⟨p0, p1, p2, q0, q1, q2⟩ := h
  have hp : p ≤ 1 := by
    by_cases k : p ≤ 1
    · exact k
    · have := sq_mono (a := 2) (b := p) (by omega) (by omega); omega
  have hp2 : 1 ≤ p := by
    by_cases k : 1 ≤ p
    · exact k
    · have : p = 0 := by omega
      subst this; omega
  have hq : 3 ≤ q := by
    by_cases k : 3 ≤ q
    · exact k
    · have := sq_mono (a := q) (b := 2) (by omega) (by omega); omega
  have hq2 : q ≤ 3 := by
    by_cases k : q ≤ 3
    · exact k
    · have := sq_mono (a := 3) (b := q - 1) (by omega) (by omega); omega
  omega
end Go.Proofs.YtplhegjgkmabiaaDoor
