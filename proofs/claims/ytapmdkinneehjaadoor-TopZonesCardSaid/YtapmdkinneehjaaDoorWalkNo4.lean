/- Contracts of notice.sum and NoticeSum. -/
import Derived.Test.YtapmdkinneehjaaDoorWalkNo3
set_option linter.unusedVariables false
set_option linter.unusedSimpArgs false
namespace Go.Proofs.YtapmdkinneehjaaDoor
open Go.RowKit
def strB (l : List UInt8) : ByteArray := ⟨l.toArray⟩
theorem strB_l (l : List UInt8) : (strB l).data.toList = l := by unfold strB; simp
theorem strB_of (T : ByteArray) : strB T.data.toList = T := by unfold strB; simp
theorem add_str (x y : List UInt8) (h : x.length + y.length ≤ 8388608) (w0 : World) : (Op.stringOp .add (strB x) (strB y)).run Tryd.prog w0 = .ok (.string (strB (x ++ y))) w0 :=
  run_string_add_lists (P := Tryd.prog) w0 x y (by omega) (by omega)
theorem sp_str : (⟨#[32]⟩ : ByteArray) = strB [32] := rfl
/-- What a walk needs of the text that is summed. -/
theorem sum_steps {ia ib l : List UInt8} (h1 : ia.length ≤ 21) (h2 : ib.length ≤ 21) (h3 : l.length ≤ 200) :
    (∀ w0, (Op.stringOp .add (strB ia) ⟨#[32]⟩).run Tryd.prog w0 = .ok (.string (strB (ia ++ [32]))) w0) ∧
    (∀ w0, (Op.stringOp .add (strB (ia ++ [32])) (strB ib)).run Tryd.prog w0 = .ok (.string (strB (ia ++ [32] ++ ib))) w0) ∧
    (∀ w0, (Op.stringOp .add (strB (ia ++ [32] ++ ib)) ⟨#[32]⟩).run Tryd.prog w0 = .ok (.string (strB (ia ++ [32] ++ ib ++ [32]))) w0) ∧
    (∀ w0, (Op.stringOp .add (strB (ia ++ [32] ++ ib ++ [32])) (strB l)).run Tryd.prog w0 = .ok (.string (strB (ia ++ [32] ++ ib ++ [32] ++ l))) w0) := by
  refine ⟨fun w0 => add_str _ _ ?_ w0, fun w0 => add_str _ _ ?_ w0, fun w0 => add_str _ _ ?_ w0, fun w0 => add_str _ _ ?_ w0⟩ <;> (simp; omega)
end Go.Proofs.YtapmdkinneehjaaDoor
