/- The contract of NoticeSum. -/
import Derived.Test.YtapmdkinneehjaaDoorWalkNo4
set_option linter.unusedVariables false
set_option linter.unusedSimpArgs false
namespace Go.Proofs.YtapmdkinneehjaaDoor
open Go.RowKit
theorem itoa_nat (u : Nat) : Go.Lib.itoa (u : Int) = Go.Lib.decDigits u := by
  unfold Go.Lib.itoa
  rw [if_neg (by omega)]
  rfl
theorem noT_cons (key : Int) (c : UInt8) (l : List UInt8) : noT key (c :: l) = (((noT key l).1 + ((c.toNat : Int) + 1) * (noT key l).2) % 2147483647, (noT key l).2 * 257 % 2147483647) := rfl
theorem noT_nn {key : Int} (k0 : 0 ≤ key) (k1 : key ≤ 1000000000) (l : List UInt8) : 0 ≤ (noT key l).1 ∧ (noT key l).1 ≤ 2147483646 ∧ 0 ≤ (noT key l).2 ∧ (noT key l).2 ≤ 2147483646 := by
  have := noT_bd k0 k1 l; omega
theorem mul_bd {x y X Y : Int} (x0 : 0 ≤ x) (x1 : x ≤ X) (y0 : 0 ≤ y) (y1 : y ≤ Y) : 0 ≤ x * y ∧ x * y ≤ X * Y :=
  ⟨Int.mul_nonneg x0 y0, Int.mul_le_mul x1 y1 y0 (by omega)⟩
end Go.Proofs.YtapmdkinneehjaaDoor
