/- Contracts of the floating-point functions: math.sin, floor, ceiling. -/
import Derived.Test.YtffnmfcaoldlhaaDoorWalkBase
import Derived.Test.YtffnmfcaoldlhaaDoorPlainMir
import Derived.Laws.FloatArith
import Derived.Laws.Externs
import Derived.Laws.BitsAllLaws
import Derived.KernelRfl
set_option linter.unusedVariables false
set_option linter.unusedSimpArgs false
namespace Go.Proofs.YtffnmfcaoldlhaaDoor
open Go.RowKit
abbrev fl (x : Nat) : Value := .float .f64 x
theorem ret_fl {a b : Nat} (h : a = b) : Ending.returned (fl a) = .returned (fl b) := by rw [h]
theorem hadd {a b r : Nat} (h : Ieee.double.add a b = some r) : ∀ t w, (binOp .add t (.float .f64 a) (.float .f64 b)).run Tryd.prog w = .ok (.float .f64 r) w := fun t w => run_float_arith w .add t .f64 a b r h
theorem hsub {a b r : Nat} (h : Ieee.double.sub a b = some r) : ∀ t w, (binOp .sub t (.float .f64 a) (.float .f64 b)).run Tryd.prog w = .ok (.float .f64 r) w := fun t w => run_float_arith w .sub t .f64 a b r h
theorem hmul {a b r : Nat} (h : Ieee.double.mul a b = some r) : ∀ t w, (binOp .mul t (.float .f64 a) (.float .f64 b)).run Tryd.prog w = .ok (.float .f64 r) w := fun t w => run_float_arith w .mul t .f64 a b r h
theorem hdiv {a b r : Nat} (h : Ieee.double.div a b = some r) : ∀ t w, (binOp .quo t (.float .f64 a) (.float .f64 b)).run Tryd.prog w = .ok (.float .f64 r) w := fun t w => run_float_arith w .quo t .f64 a b r h
theorem hcut {x : Nat} {n : Int} (h : (Ieee.double.read x).toInt .zero = some n) (h1 : -9223372036854775808 ≤ n) (h2 : n ≤ 9223372036854775807) : ∀ w, (convert 70 3 (.float .f64 x)).run Tryd.prog w = .ok (.int .i64 n) w := fun w =>
  run_convert_float_int w 70 3 .f64 .i64 x n (by rw [Tryd.underlying70]; rfl) Tryd.underlying3 (by unfold floatToIntVal; rw [show FloatKind.f64.decode x = Ieee.double.read x from rfl, h]; exact if_pos ⟨h1, h2⟩)
theorem hcutU {x : Nat} {n : Int} (h : (Ieee.double.read x).toInt .zero = some n) (h1 : 0 ≤ n) (h2 : n ≤ 18446744073709551615) : ∀ w, (convert 70 101 (.float .f64 x)).run Tryd.prog w = .ok (.int .u64 n) w := fun w =>
  run_convert_float_int w 70 101 .f64 .u64 x n (by rw [Tryd.underlying70]; rfl) Tryd.underlying101 (by unfold floatToIntVal; rw [show FloatKind.f64.decode x = Ieee.double.read x from rfl, h]; exact if_pos ⟨h1, h2⟩)
theorem num_read {x : Nat} {X : Rat} (h : Num x X) : ∃ s m p, Ieee.double.read x = .number s m p := by
  obtain ⟨s, m, p, h1, _⟩ := h
  exact ⟨s, m, p, h1⟩
theorem toI_eq (name : String) (way : Ieee.Toward) (x : Nat) : Extern.MathFloor.toIntegral name way #[.float .f64 x] = (match FloatKind.f64.decode x with
    | .nan s t =>
      if FloatKind.f64.format.quiet t = t then pure (.float .f64 x) else do
      let kept ← choose (.extern "math.Floor,Ceil,Trunc,RoundToEven.signallingNaN kept" 2)
      pure (.float .f64 (if kept == 1 then x else FloatKind.f64.encode (.nan s (FloatKind.f64.format.quiet t))))
    | d => pure (.float .f64 (FloatKind.f64.encode (d.integral way)))) := rfl
/-- The entries of floor and ceiling. -/
theorem run_floor {x : Nat} {X : Rat} (h : Num x X) (w : World) : (callFunc 110 #[.float .f64 x]).run Tryd.prog w = .ok (.value (.float .f64 (fflr x))) w := by
  obtain ⟨s, m, p, h1⟩ := num_read h
  rw [run_callFunc_extern Tryd.func110 (by kernel_rfl) (by kernel_rfl) (by kernel_rfl) (e := Extern.MathFloor.toIntegral "math.archFloor" .down) (by rfl)]
  rw [toI_eq, show FloatKind.f64.decode x = Ieee.double.read x from rfl]
  unfold fflr
  rw [h1]
  rfl
theorem run_ceil {x : Nat} {X : Rat} (h : Num x X) (w : World) : (callFunc 112 #[.float .f64 x]).run Tryd.prog w = .ok (.value (.float .f64 (fcei x))) w := by
  obtain ⟨s, m, p, h1⟩ := num_read h
  rw [run_callFunc_extern Tryd.func112 (by kernel_rfl) (by kernel_rfl) (by kernel_rfl) (e := Extern.MathFloor.toIntegral "math.archCeil" .up) (by rfl)]
  rw [toI_eq, show FloatKind.f64.decode x = Ieee.double.read x from rfl]
  unfold fcei
  rw [h1]
  rfl
theorem c_floor {x : Nat} {X : Rat} (h : Num x X) (w : World) : Calls Tryd.prog 93 #[fl x] w fun e w' => e = .returned (fl (fflr x)) ∧ w = w' := by
  have hx := run_floor h
  have hgen := sgen; have hgen2 := sgen2; have hgen3 := sgen3; go_enter Tryd.func93, Tryd.ntmps93
  go_wp2
  go_ret
  exact ⟨rfl, rfl⟩
theorem c_ceil {x : Nat} {X : Rat} (h : Num x X) (w : World) : Calls Tryd.prog 94 #[fl x] w fun e w' => e = .returned (fl (fcei x)) ∧ w = w' := by
  have hx := run_ceil h
  have hgen := sgen; have hgen2 := sgen2; have hgen3 := sgen3; go_enter Tryd.func94, Tryd.ntmps94
  go_wp2
  go_ret
  exact ⟨rfl, rfl⟩
theorem c_isNaN {x : Nat} {X : Rat} (h : Num x X) (w : World) : Calls Tryd.prog 119 #[fl x] w fun e w' => e = .returned (.bool false) ∧ w = w' := by
  have ho : FloatKind.f64.format.order x x = some .eq := (num_order h h).2.1 rfl
  have hgen := sgen; have hgen2 := sgen2; have hgen3 := sgen3; go_enter Tryd.func119, Tryd.ntmps119
  go_wp2
  go_ret
  exact ⟨rfl, rfl⟩
theorem andNot63 {x : Nat} (h : x < 9223372036854775808) : bits .andNot .u64 (x : Int) 9223372036854775808 = (x : Int) := by
  have e := u64_andNot (x : Int) 9223372036854775808 (by omega) (by omega) (by omega) (by omega)
  rw [e]
  have e2 : (x &&& (18446744073709551615 - 9223372036854775808)) = x := by
    rw [show 18446744073709551615 - 9223372036854775808 = 2 ^ 63 - 1 from rfl, Nat.and_two_pow_sub_one_eq_mod]
    omega
  simp only [Int.toNat_natCast]
  rw [show (9223372036854775808 : Int).toNat = 9223372036854775808 from rfl, e2]
theorem run_bits (x : Nat) (w : World) : (callFunc 118 #[.float .f64 x]).run Tryd.prog w = .ok (.value (.int .u64 (x : Int))) w := by
  rw [run_callFunc_extern Tryd.func118 (by kernel_rfl) (by kernel_rfl) (by kernel_rfl) (e := Extern.MathFloatBits.float64bits) (by rfl)]
  rfl
theorem run_frombits (x : Nat) (w : World) : (callFunc 117 #[.int .u64 (x : Int)]).run Tryd.prog w = .ok (.value (.float .f64 x)) w := by
  rw [run_callFunc_extern Tryd.func117 (by kernel_rfl) (by kernel_rfl) (by kernel_rfl) (e := Extern.MathFloatBits.float64frombits) (by rfl)]
  rfl
set_option maxRecDepth 100000 in
theorem c_abs {x : Nat} (h : x < 9223372036854775808) (w : World) : Calls Tryd.prog 101 #[fl x] w fun e w' => e = .returned (fl x) ∧ w = w' := by
  have h1 := run_bits x
  have h2 := run_frombits x
  have h3 := andNot63 h
  clear h
  have hgen := sgen; have hgen2 := sgen2; have hgen3 := sgen3; go_enter Tryd.func101, Tryd.ntmps101
  go_wp2
  go_ret
  exact ⟨rfl, rfl⟩
set_option maxRecDepth 100000 in
theorem c_isInf {x : Nat} {X : Rat} (h : Num x X) (hx : x < 9223372036854775808) (h7 : X ≤ 1000000000000) (w : World) : Calls Tryd.prog 120 #[fl x, .int .i64 0] w fun e w' => e = .returned (.bool false) ∧ w = w' := by
  have hm : Num 9218868437227405311 (cv 9218868437227405311) := cv_num (by decide +kernel)
  have hv : (1000000000000 : Rat) < cv 9218868437227405311 := by decide +kernel
  have ho : FloatKind.f64.format.order x 9218868437227405311 = some .lt := (num_order h hm).1 (by grind)
  clear hm hv
  have HO := Lib.hid ho
  clear ho
  have hgen := sgen; have hgen2 := sgen2; have hgen3 := sgen3; go_enter Tryd.func120, Tryd.ntmps120
  go_wp2_with (go_at_call 101; refine (c_abs hx _).mono ?_; rintro e w' ⟨rfl, rfl⟩)
  go_ret
  exact ⟨ret_bool (by show (FloatKind.f64.format.order x 9218868437227405311 == some Ordering.gt) = false; rw [HO.out]; rfl), rfl⟩
end Go.Proofs.YtffnmfcaoldlhaaDoor
