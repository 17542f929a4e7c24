/- Contracts of the reference's argument and Equator. -/
import Derived.Test.YtcgnhnmigmdalaaDoorSmA
import Derived.Test.YtcgnhnmigmdalaaDoorEqB
set_option linter.unusedVariables false
set_option linter.unusedSimpArgs false
namespace Go.Proofs.YtcgnhnmigmdalaaDoor
open Go.RowKit
theorem and20 {x : Int} (h₀ : 0 ≤ x) (h₁ : x < 9223372036854775808) : bits .and .i64 x 1048575 = x % 1048576 := bits_mask .i64 63 (by decide) wraps_i64 20 (by decide) x h₀ h₁
theorem sc_bds (a : Int) (h0 : 0 ≤ a) (h1 : a < 1000000000000000) : -1160000000000000000 ≤ (sc a).1 ∧ (sc a).1 ≤ 1160000000000000000 ∧ -1160000000000000000 ≤ (sc a).2 ∧ (sc a).2 ≤ 1160000000000000000 := by
  obtain ⟨s, c⟩ := sc_zA h0 h1
  obtain ⟨z0, z1⟩ := zA_bd h0 h1
  obtain ⟨n1, n2⟩ := sc_one z0 z1
  have a1 := fine_bd (n := (sc a).1) (x := S (tq * zA a)) (by grind) (by grind)
  have a2 := fine_bd (n := (sc a).2) (x := C (tq * zA a)) (by grind) (by grind)
  exact ⟨a1.2.1, a1.2.2, a2.2.1, a2.2.2⟩
theorem fm_bds {a b : Int} (a1 : -1170000000000000000 ≤ a) (a2 : a ≤ 1170000000000000000) (b1 : -1160000000000000000 ≤ b) (b2 : b ≤ 1160000000000000000) : -1190000000000000000 ≤ fm a b ∧ fm a b ≤ 1190000000000000000 :=
  fm_le (a := a) (b := b) (A := 1170000000000000000) (B := 1160000000000000000) (by omega) (by omega) (by omega) (by omega) 1190000000000000000 (by decide)
end Go.Proofs.YtcgnhnmigmdalaaDoor
