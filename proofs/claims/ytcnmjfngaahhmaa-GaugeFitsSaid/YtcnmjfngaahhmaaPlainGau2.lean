/- Least squares: the answers of solve and of Residual, divided by the greatest common divisor. No program in sight. -/
import Derived.Test.YtcnmjfngaahhmaaPlainGau
set_option linter.unusedVariables false
set_option linter.unusedSimpArgs false
namespace Go.Proofs.Ytcnmjfngaahhmaa
/-- A number that is a multiple of g: the quotient by g, and what it is multiplied with. -/
theorem div_of {g x : Int} (g0 : 0 < g) (h : g ∣ x) : x / g * g = x := Int.ediv_mul_cancel h
/-- Cramer's rule, divided: the left side of row c is 0. -/
theorem cram_div {g d r n0 n1 n2 g0 g1 g2 : Int} (hg : 0 < g) (hd : g ∣ d) (h0 : g ∣ n0) (h1 : g ∣ n1) (h2 : g ∣ n2) (h : d * r = g0 * n0 + g1 * n1 + g2 * n2) : d / g * r = g0 * (n0 / g) + g1 * (n1 / g) + g2 * (n2 / g) := by
  have e := div_of hg hd
  have e0 := div_of hg h0
  have e1 := div_of hg h1
  have e2 := div_of hg h2
  generalize d / g = D at *
  generalize n0 / g = N0 at *
  generalize n1 / g = N1 at *
  generalize n2 / g = N2 at *
  subst e e0 e1 e2
  have : g * (D * r - (g0 * N0 + g1 * N1 + g2 * N2)) = 0 := by grind
  rcases Int.mul_eq_zero.1 this with h | h
  · omega
  · omega
theorem smN_lin4 (a b c d : Int) (f g h e : Nat → Int) (n : Nat) : smN n (fun i => a * f i + b * g i + c * h i + d * e i) = a * smN n f + b * smN n g + c * smN n h + d * smN n e := by
  rw [smN_add, smN_add, smN_add, smN_mul, smN_mul, smN_mul, smN_mul]
/-- The differences against a column, and against the heights. -/
theorem orth3 (R : Nat → Nat → Int) (H : Nat → Int) (n : Nat) (D N0 N1 N2 : Int) (c : Nat) : smN n (fun i => (D * H i - R i 0 * N0 - R i 1 * N1 - R i 2 * N2) * R i c) = D * gmR R H n c - N0 * gmM R n 0 c - N1 * gmM R n 1 c - N2 * gmM R n 2 c := by
  have e : ∀ i, i < n → (D * H i - R i 0 * N0 - R i 1 * N1 - R i 2 * N2) * R i c = D * (R i c * H i) + -N0 * (R i 0 * R i c) + -N1 * (R i 1 * R i c) + -N2 * (R i 2 * R i c) := by
    intro i _
    generalize H i = h; generalize R i 0 = x; generalize R i 1 = y; generalize R i 2 = z; generalize R i c = w
    grind
  rw [smN_congr n e, smN_lin4]
  unfold gmR gmM
  grind
theorem left3 (R : Nat → Nat → Int) (H : Nat → Int) (n : Nat) (D N0 N1 N2 : Int) : smN n (fun i => (D * H i - R i 0 * N0 - R i 1 * N1 - R i 2 * N2) * H i) = D * smN n (fun i => H i * H i) - N0 * gmR R H n 0 - N1 * gmR R H n 1 - N2 * gmR R H n 2 := by
  have e : ∀ i, i < n → (D * H i - R i 0 * N0 - R i 1 * N1 - R i 2 * N2) * H i = D * (H i * H i) + -N0 * (R i 0 * H i) + -N1 * (R i 1 * H i) + -N2 * (R i 2 * H i) := by
    intro i _
    generalize H i = h; generalize R i 0 = x; generalize R i 1 = y; generalize R i 2 = z
    grind
  rw [smN_congr n e, smN_lin4]
  unfold gmR
  grind
theorem gcd_step {x y : Int} {g : Nat} (g0 : 0 < g) (hx : (g : Int) ∣ x) (hy : (g : Int) ∣ y) : Nat.gcd (x / g).natAbs (y / g).natAbs = Nat.gcd x.natAbs y.natAbs / g := by
  obtain ⟨a, rfl⟩ := hx
  obtain ⟨b, rfl⟩ := hy
  have gz : (g : Int) ≠ 0 := by omega
  rw [Int.mul_ediv_cancel_left _ gz, Int.mul_ediv_cancel_left _ gz, Int.natAbs_mul, Int.natAbs_mul, Int.natAbs_natCast, Nat.gcd_mul_left, Nat.mul_div_cancel_left _ g0]
/-- Go's quotient by a divisor. -/
theorem tdiv_dvd {x : Int} {g : Nat} (g0 : 0 < g) (hx : (g : Int) ∣ x) : x.tdiv g = x / g := by
  obtain ⟨a, rfl⟩ := hx
  have gz : (g : Int) ≠ 0 := by omega
  rw [Int.mul_ediv_cancel_left _ gz, Int.mul_tdiv_cancel_left _ gz]
end Go.Proofs.Ytcnmjfngaahhmaa
