/- The contracts of math.Sqrt and of whole.Root. -/
import Derived.Test.YtmjdcabniefifaaDoorWalkAt2
import Derived.Deep.LoopGhost
set_option linter.unusedVariables false
set_option linter.unusedSimpArgs false
namespace Go.Proofs.YtmjdcabniefifaaDoor
open Go.RowKit
theorem sq_eq (x : Nat) : Extern.MathSqrt.sqrt #[.float .f64 x] = (match FloatKind.f64.format.sqrt x with
    | some r => pure (.float .f64 r)
    | none => do pure (.float .f64 (← choose (.nanBits .f64 x x)))) := rfl
theorem run_sqrt {x r : Nat} (h : Ieee.double.sqrt x = some r) (w : World) : (callFunc 100 #[.float .f64 x]).run Tryd.prog w = .ok (.value (.float .f64 r)) w := by
  rw [run_callFunc_extern Tryd.func100 (by kernel_rfl) (by kernel_rfl) (by kernel_rfl) (e := Extern.MathSqrt.sqrt) (by rfl)]
  rw [sq_eq]
  rw [show FloatKind.f64.format.sqrt x = Ieee.double.sqrt x from rfl, h]
  rfl
theorem c_Sqrt {x r : Nat} (h : Ieee.double.sqrt x = some r) (w : World) : Calls Tryd.prog 89 #[fl x] w fun e w' => e = .returned (fl r) ∧ w = w' := by
  have hx := run_sqrt h
  clear h
  have hgen := sgen; have hgen2 := sgen2; have hgen3 := sgen3; go_enter Tryd.func89, Tryd.ntmps89
  go_wp2
  go_ret
  exact ⟨rfl, rfl⟩
theorem p2_33 : p2 33 = ((8589934592 : Nat) : Rat) := by decide +kernel
/-- The start of whole.Root. -/
theorem root_start (n : Int) (h0 : 0 ≤ n) (h1 : n ≤ 1000000000000000000) : ∃ s k, Ieee.double.sqrt (fofI n) = some s ∧ (Ieee.double.read s).toInt .zero = some ((k : Nat) : Int) ∧ k ≤ 8589934592 := by
  have r0 : (0 : Rat) ≤ (n : Rat) := by exact_mod_cast h0
  have r1 : (n : Rat) ≤ ((1000000000000000000 : Int) : Rat) := Rat.intCast_le_intCast.2 h1
  have c1 : ((1000000000000000000 : Int) : Rat) = 1000000000000000000 := rfl
  rw [c1] at r1
  have p60 : p2 ((60 : Nat) : Int) = 1152921504606846976 := by decide +kernel
  have p7 : p2 (((60 : Nat) : Int) - 53) = 128 := by decide +kernel
  have p62 : p2 62 = 4611686018427387904 := by decide +kernel
  obtain ⟨s, m, p, h2, h3, h4⟩ := fofI_ap n 60 (by omega) (by rw [p60]; grind) (by rw [p60]; grind)
  have hs := sign_of (fofI_lt63 n h0) h2
  subst hs
  obtain ⟨r, e1, m', p', e2, e3⟩ := sqrt_ok h2 (by rw [p62]; rw [p7] at h3; grind)
  obtain ⟨k, k1, k2, k3⟩ := toInt_pos m' p'
  refine ⟨r, k, e1, ?_, ?_⟩
  · unfold Reads at e2
    rw [e2]; exact k1
  · rw [p2_33] at e3
    have : (k : Rat) ≤ ((8589934592 : Nat) : Rat) := Rat.le_trans k2 e3
    exact_mod_cast this
theorem quo_le {n r : Int} (hr : 0 < r) : (r ≤ n / r ↔ r * r ≤ n) := Int.le_ediv_iff_mul_le hr
theorem sq_mono {a b : Int} (ha : 0 ≤ a) (h : a ≤ b) : a * a ≤ b * b := Int.le_trans (Int.mul_le_mul_of_nonneg_left h ha) (Int.mul_le_mul_of_nonneg_right h (by omega))
theorem root_le {r n : Int} (h : r * r ≤ n) (h1 : n ≤ 1000000000000000000) : r ≤ 1000000000 := by
  by_cases q : r ≤ 1000000000
  · exact q
  · have := sq_mono (a := 1000000001) (b := r) (by omega) (by omega)
    omega
theorem ret_wroot {a b : Int} (h : a = b) : Ending.returned (.tuple #[.int .i64 a, .int .i64 0]) = .returned (.tuple #[.int .i64 b, .int .i64 0]) := by rw [h]
end Go.Proofs.YtmjdcabniefifaaDoor
