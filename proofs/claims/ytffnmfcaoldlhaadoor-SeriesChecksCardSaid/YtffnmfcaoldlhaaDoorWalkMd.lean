/- The contracts of bits.Mul64 and of bits.Div64 where no long division is wanted. -/
import Derived.Test.YtffnmfcaoldlhaaDoorWalkBase
import Derived.Test.YtffnmfcaoldlhaaDoorShelf
import Derived.Deep.QuietTactic
import Derived.BigQuiet
import Derived.BigGuard
set_option linter.unusedVariables false
set_option linter.unusedSimpArgs false
namespace Go.Proofs.YtffnmfcaoldlhaaDoor
open Go.RowKit
theorem c_div64_lo (lo y : Int) (w : World) (h1 : 0 ≤ lo) (h2 : lo ≤ 18446744073709551615) (h3 : 1 ≤ y) (h4 : y ≤ 1000000000000000000) :
    Calls Tryd.prog 116 #[.int .u64 0, .int .u64 lo, .int .u64 y] w fun e w' => e = .returned (.tuple #[.int .u64 (lo / y), .int .u64 (lo % y)]) ∧ ∃ n, w' = w.drewN n := by
  have b0 : (y == 0) = false := by simp; omega
  have hgen := sgen; have hgen2 := sgen2; have hgen3 := sgen3; go_enter Tryd.func116, Tryd.ntmps116
  go_wp2
  go_quiet (fail)
  go_wp2
  go_ret2
  exact ⟨rfl, _, rfl⟩
theorem c_mul64 (x y : Int) (w : World) (x0 : 0 ≤ x) (x1 : x ≤ 1000000000000000000) (y0 : 0 ≤ y) (y1 : y ≤ 1000000000000000000) :
    Calls Tryd.prog 115 #[.int .u64 x, .int .u64 y] w fun e w' => e = .returned (.tuple #[.int .u64 (x * y / 18446744073709551616), .int .u64 (x * y % 18446744073709551616)]) ∧ w = w' := by
  obtain ⟨p, rfl⟩ : ∃ p : Nat, x = p := ⟨x.toNat, by omega⟩
  obtain ⟨q, rfl⟩ : ∃ q : Nat, y = q := ⟨y.toNat, by omega⟩
  refine (Tryd.bits_Mul64 p q (by omega) (by omega) w).mono ?_
  rintro e w' ⟨he, hw⟩
  refine ⟨?_, hw.symm⟩
  rw [he]
  congr 1
end Go.Proofs.YtffnmfcaoldlhaaDoor
