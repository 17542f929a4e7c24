/- Contracts of the reference's argument and Equator. -/
import Derived.Test.YtjkhoepohiafeaaDoorSmA
import Derived.Test.YtjkhoepohiafeaaDoorEqB
set_option linter.unusedVariables false
set_option linter.unusedSimpArgs false
namespace Go.Proofs.YtjkhoepohiafeaaDoor
open Go.RowKit
theorem and20 {x : Int} (h₀ : 0 ≤ x) (h₁ : x < 9223372036854775808) : bits .and .i64 x 1048575 = x % 1048576 := bits_mask .i64 63 (by decide) wraps_i64 20 (by decide) x h₀ h₁
theorem c_argument (v : Int) (w : World) (v1 : -4000000000000000000 ≤ v) (v2 : v ≤ 4000000000000000000) :
    Calls Tryd.prog 55 #[.int .i64 v] w fun e w' => e = .returned (.int .i64 (argU v)) ∧ w = w' := by
  have HM := Lib.hid (fun w1 => c_rMod v 1048576000000000 w1 (by omega) (by omega) (by omega) (by omega))
  have HE : Hid (argU v = v % 1048576000000000 / 1048576 * 1000000 + v % 1048576000000000 % 1048576 * 1000000 / 1048576) := Lib.hid rfl
  have m0 := Int.emod_nonneg v (show (1048576000000000 : Int) ≠ 0 by omega)
  have m1 := Int.emod_lt_of_pos v (show (0 : Int) < 1048576000000000 by omega)
  generalize v % 1048576000000000 = m at *
  have ha := and20 m0 (by omega)
  have hgen := sgen; have hgen2 := sgen2; have hgen3 := sgen3; go_enter Tryd.func55, Tryd.ntmps55
  go_wp2_with (go_at_call 16; refine (HM.out _).mono ?_; rintro e w' ⟨rfl, rfl⟩)
  go_ret
  exact ⟨ret_int (by rw [HE.out]), rfl⟩
theorem sc_bds (a : Int) (h0 : 0 ≤ a) (h1 : a < 1000000000000000) : -1160000000000000000 ≤ (sc a).1 ∧ (sc a).1 ≤ 1160000000000000000 ∧ -1160000000000000000 ≤ (sc a).2 ∧ (sc a).2 ≤ 1160000000000000000 := by
  obtain ⟨s, c⟩ := sc_zA h0 h1
  obtain ⟨z0, z1⟩ := zA_bd h0 h1
  obtain ⟨n1, n2⟩ := sc_one z0 z1
  have a1 := fine_bd (n := (sc a).1) (x := S (tq * zA a)) (by grind) (by grind)
  have a2 := fine_bd (n := (sc a).2) (x := C (tq * zA a)) (by grind) (by grind)
  exact ⟨a1.2.1, a1.2.2, a2.2.1, a2.2.2⟩
theorem fm_bds {a b : Int} (a1 : -1170000000000000000 ≤ a) (a2 : a ≤ 1170000000000000000) (b1 : -1160000000000000000 ≤ b) (b2 : b ≤ 1160000000000000000) : -1190000000000000000 ≤ fm a b ∧ fm a b ≤ 1190000000000000000 :=
  fm_le (a := a) (b := b) (A := 1170000000000000000) (B := 1160000000000000000) (by omega) (by omega) (by omega) (by omega) 1190000000000000000 (by decide)
end Go.Proofs.YtjkhoepohiafeaaDoor
