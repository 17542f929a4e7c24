/- The contract of trig.Arc. -/
import Derived.Test.YtplhegjgkmabiaaDoorWalkRt
import Derived.Test.YtplhegjgkmabiaaDoorWkD
import Derived.Test.YtplhegjgkmabiaaDoorTrB
import Derived.Deep.RegionHeld3
import Derived.Deep.DeepCutAuto
set_option linter.unusedVariables false
set_option linter.unusedSimpArgs false
namespace Go.Proofs.YtplhegjgkmabiaaDoor
open Go.RowKit
theorem min2_eq (x y : Nat) (h : (Ieee.double.order x y).isSome = true) : Builtin.min2 (.float .f64 x) (.float .f64 y) = pure (.float .f64 (fminW x y)) := by
  unfold fminW
  have e : Builtin.min2 (.float .f64 x) (.float .f64 y) = (match FloatKind.f64.format.order x y with
    | none => do pure (.float .f64 (← choose (.nanMinMax .f64 false x y)))
    | some .lt => pure (.float .f64 x)
    | some .gt => pure (.float .f64 y)
    | some .eq => pure (.float .f64 (if (FloatKind.f64.decode x).neg then x else y))) := rfl
  rw [e, show FloatKind.f64.format.order x y = Ieee.double.order x y from rfl, show FloatKind.f64.decode x = Ieee.double.read x from rfl]
  cases ho : Ieee.double.order x y with
  | none => rw [ho] at h; cases h
  | some o => cases o <;> rfl
theorem max2_eq (x y : Nat) (h : (Ieee.double.order x y).isSome = true) : Builtin.max2 (.float .f64 x) (.float .f64 y) = pure (.float .f64 (fmaxW x y)) := by
  unfold fmaxW
  have e : Builtin.max2 (.float .f64 x) (.float .f64 y) = (match FloatKind.f64.format.order x y with
    | none => do pure (.float .f64 (← choose (.nanMinMax .f64 true x y)))
    | some .lt => pure (.float .f64 y)
    | some .gt => pure (.float .f64 x)
    | some .eq => pure (.float .f64 (if (FloatKind.f64.decode x).neg then y else x))) := rfl
  rw [e, show FloatKind.f64.format.order x y = Ieee.double.order x y from rfl, show FloatKind.f64.decode x = Ieee.double.read x from rfl]
  cases ho : Ieee.double.order x y with
  | none => rw [ho] at h; cases h
  | some o => cases o <;> rfl
theorem run_minF {x y : Nat} (h : (Ieee.double.order x y).isSome = true) : ∀ ts t w, (Builtin.min_ ts t #[.float .f64 x, .float .f64 y]).run Tryd.prog w = .ok (.float .f64 (fminW x y)) w := by
  intro ts t w
  have := min2_eq x y h
  simp [Builtin.min_, this]
theorem run_maxF {x y : Nat} (h : (Ieee.double.order x y).isSome = true) : ∀ ts t w, (Builtin.max_ ts t #[.float .f64 x, .float .f64 y]).run Tryd.prog w = .ok (.float .f64 (fmaxW x y)) w := by
  intro ts t w
  have := max2_eq x y h
  simp [Builtin.max_, this]
theorem c_AroundP {v : Nat} (h : AroundP v) (w : World) : Calls Tryd.prog 89 #[fl v] w fun e w' => e = .returned (.agg #[.int .i64 (arLo v), .int .i64 (arHi v)]) ∧ Below w.heap.size w w' := by
  obtain ⟨s1, s2, X1, X2, w1, w2, w3, w4, w5, w6, w7, w8, w9, w10⟩ := h
  exact c_Around w1 w2 w3 w4 w5 w6 w7 w8 w9 w10 w
end Go.Proofs.YtplhegjgkmabiaaDoor
