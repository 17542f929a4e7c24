/- The contracts of whole.Gcd and of the reference's Gcd. -/
import Derived.Test.YtbcehnhiedbbbaaDoorWalkBase
import Derived.IntWalk
import Derived.Deep.LoopGhost
import Derived.Deep.QuietTactic
import Derived.BigQuiet
set_option linter.unusedVariables false
set_option linter.unusedSimpArgs false
namespace Go.Proofs.YtbcehnhiedbbbaaDoor
open Go.RowKit
theorem c_wSize (a : Int) (w : World) (h0 : -9000000000000000000 ≤ a) (h1 : a ≤ 9000000000000000000) : Calls Tryd.prog 74 #[.int .i64 a] w fun e w' => e = .returned (.int .u64 (a.natAbs : Int)) ∧ w = w' := by
  by_cases h : a < 0
  · have d1 : decide (a < 0) = true := decide_eq_true h
    have e1 : IntKind.u64.wrap a = a + 18446744073709551616 := by rw [IntKind.wrap_u64]; omega
    have e2 : IntKind.u64.wrap (-(a + 18446744073709551616)) = (a.natAbs : Int) := by rw [IntKind.wrap_u64]; omega
    have e3 : IntKind.u64.wrap (-a) = (a.natAbs : Int) := by rw [IntKind.wrap_u64]; omega
    have e4 : -a = (a.natAbs : Int) := by omega
    have H := Lib.hid e4
    have hgen := sgen; have hgen2 := sgen2; have hgen3 := sgen3; go_enter Tryd.func74, Tryd.ntmps74
    go_wp2
    go_ret
    exact ⟨rfl, rfl⟩
  · have d1 : decide (a < 0) = false := decide_eq_false h
    have e1 : IntKind.u64.wrap a = a := by rw [IntKind.wrap_u64]; omega
    have H := Lib.hid (show a = (a.natAbs : Int) by omega)
    rw [← H.out]
    have hgen := sgen; have hgen2 := sgen2; have hgen3 := sgen3; go_enter Tryd.func74, Tryd.ntmps74
    go_wp2
    go_ret
    exact ⟨rfl, rfl⟩
theorem c_Gcd (a b : Int) (w : World) (a0 : -9000000000000000000 ≤ a) (a1 : a ≤ 9000000000000000000) (b0 : -9000000000000000000 ≤ b) (b1 : b ≤ 9000000000000000000) : Calls Tryd.prog 63 #[.int .i64 a, .int .i64 b] w fun e w' => e = .returned (.tuple #[.int .i64 (Nat.gcd a.natAbs b.natAbs : Nat), .int .i64 0]) ∧ Below w.heap.size w w' := by
  have HA := Lib.hid (fun w1 => c_wSize a w1 a0 a1)
  have HB := Lib.hid (fun w1 => c_wSize b w1 b0 b1)
  obtain ⟨x0, hx0⟩ : ∃ x, x = a.natAbs := ⟨_, rfl⟩
  obtain ⟨y0, hy0⟩ : ∃ y, y = b.natAbs := ⟨_, rfl⟩
  have xb : x0 ≤ 9000000000000000000 := by omega
  have yb : y0 ≤ 9000000000000000000 := by omega
  rw [← hx0] at HA ⊢
  rw [← hy0] at HB ⊢
  clear hx0 hy0 a0 a1 b0 b1
  have hgen := sgen; have hgen2 := sgen2; have hgen3 := sgen3; go_enter Tryd.func63, Tryd.ntmps63
  go_wp2_with (go_at_call 74; (first | (with_reducible refine (HA.out _).mono ?_) | (with_reducible refine (HB.out _).mono ?_)); rintro e w' ⟨rfl, rfl⟩)
  go_loopg [6, 7] y0 (fun gk x6 x7 wr => ∃ x y : Nat, gk = y ∧ x ≤ 9000000000000000000 ∧ y ≤ 9000000000000000000 ∧ x6 = .int .u64 (x : Int) ∧ x7 = .int .u64 (y : Int) ∧ Nat.gcd x y = Nat.gcd x0 y0 ∧ Below w.heap.size w wr)
  case atStart => exact ⟨x0, y0, rfl, xb, yb, rfl, rfl, rfl, Below.refl _ _⟩
  case round =>
    obtain ⟨x, y, rfl, hx, hy, rfl, rfl, hg, hbel⟩ := hrel
    have HG := Lib.hid hg
    clear hg
    by_cases hz : gk = 0
    · subst hz
      have d1 : decide ((9223372036854775807 : Int) < (x : Int)) = false := decide_eq_false (by omega)
      have e1 : IntKind.i64.wrap (x : Int) = (x : Int) := IntWalk.i64_in _ (by omega)
      have HX := Lib.hid (show x = Nat.gcd x0 y0 by rw [← HG.out, Nat.gcd_zero_right])
      clear HG
      go_wp2
      go_ret2
      exact ⟨by rw [← HX.out]; rfl, hbel⟩
    · have d1 : ((gk : Int) != 0) = true := by simp; omega
      have d2 : ((gk : Int) == 0) = false := by simp; omega
      have hlt := Nat.mod_lt x (show 0 < gk by omega)
      have e1 : (x : Int).tmod (gk : Int) = ((x % gk : Nat) : Int) := by rw [Int.tmod_eq_emod_of_nonneg (by omega)]; rfl
      have e2 : IntKind.u64.wrap ((x % gk : Nat) : Int) = ((x % gk : Nat) : Int) := by rw [IntKind.wrap_u64]; omega
      have HX := Lib.hid (show Nat.gcd gk (x % gk) = Nat.gcd x0 y0 by rw [← HG.out, Nat.gcd_comm x gk, Nat.gcd_rec gk x, Nat.gcd_comm])
      clear HG
      generalize x % gk = r at *
      go_wp2
      go_quiet (fail)
      go_wp2
      go_roundg r
      case measure => omega
      case rel => exact ⟨gk, r, rfl, hy, by omega, rfl, rfl, HX.out, by exact belz⟩
end Go.Proofs.YtbcehnhiedbbbaaDoor
