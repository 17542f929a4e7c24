/- The contracts of frac.Check, show and Text. -/
import Derived.Test.YtapmdkinneehjaaDoorWalkGcd
import Derived.Test.YtapmdkinneehjaaDoorWalkNo5
import Derived.Test.YtapmdkinneehjaaDoorPlainFc
set_option linter.unusedVariables false
set_option linter.unusedSimpArgs false
namespace Go.Proofs.YtapmdkinneehjaaDoor
open Go.RowKit
theorem c_ItoaB (n : Int) (w : World) (hT : NTab w) (h0 : -9223372036854775808 ≤ n) (h1 : n ≤ 9223372036854775807) :
    Calls Tryd.prog 14 #[.int .i64 n] w fun e w' => e = .returned (.string (strB (Go.Lib.itoa n))) ∧ Below w.heap.size w w' := c_Itoa n w hT h0 h1
theorem show_steps {N D : List UInt8} (h1 : N.length ≤ 21) (h2 : D.length ≤ 21) :
    (∀ w0, (Op.stringOp .add ⟨#[47]⟩ (strB D)).run Tryd.prog w0 = .ok (.string (strB (47 :: D))) w0) ∧
    (∀ w0, (Op.stringOp .add (strB N) (strB (47 :: D))).run Tryd.prog w0 = .ok (.string (strB (N ++ 47 :: D))) w0) :=
  ⟨fun w0 => add_str [47] D (by simp; omega) w0, fun w0 => add_str _ _ (by simp; omega) w0⟩
end Go.Proofs.YtapmdkinneehjaaDoor
