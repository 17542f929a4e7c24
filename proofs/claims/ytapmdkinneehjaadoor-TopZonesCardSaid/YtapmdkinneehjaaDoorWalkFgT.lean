/- The contract of figure.Text. -/
import Derived.Test.YtapmdkinneehjaaDoorWalkFg
import Derived.Test.YtapmdkinneehjaaDoorWalkBld
import Derived.Test.YtapmdkinneehjaaDoorWalkNoD
set_option linter.unusedVariables false
set_option linter.unusedSimpArgs false
namespace Go.Proofs.YtapmdkinneehjaaDoor
open Go.RowKit
/-- A builder of the call's own in block b that holds l. -/
def BldIs (b : Nat) (l : List UInt8) (w : World) : Prop := Lib.IsBuilderF 43 5 b b (Lib.byteCells l) w
theorem BldIs.below {b : Nat} {l : List UInt8} {w w' : World} (h : BldIs b l w) (hb : Below w.heap.size w w') : BldIs b l w' := bld_below h hb
theorem BldIs.lt {b : Nat} {l : List UInt8} {w : World} (h : BldIs b l w) : b < w.heap.size := by rcases h with h | h <;> exact h.lt
theorem bldIs_new (w : World) : BldIs w.heap.size [] (w.alloc (.cells #[.pointer none, .slice none 0 0] 43)) := Lib.IsBuilderF.of (Lib.fresh_isBuilder _ _ _)
theorem c_WriteB (b : Nat) (l s : List UInt8) (w : World) (h : BldIs b l w) (hlen : l.length + s.length ≤ 140737488355328) :
    Calls Tryd.prog 11 #[.pointer (some ⟨b, 0, none⟩), .string (strB s)] w fun e w' => (∃ v, e = .returned v) ∧ BldIs b (l ++ s) w' ∧ Below b w w' := by
  refine (c_WriteString b b (Lib.byteCells l) (strB s) w h (by rw [Lib.byteCells_length, strB_size]; exact hlen) (Nat.le_of_lt h.lt)).mono ?_
  rintro e w' ⟨rfl, h1, h2⟩
  refine ⟨⟨_, rfl⟩, .inr ?_, h2⟩
  rw [Lib.byteCells_append]
  exact h1
theorem c_BldString (b : Nat) (l : List UInt8) (w : World) (h : BldIs b l w) :
    Calls Tryd.prog 15 #[.pointer (some ⟨b, 0, none⟩)] w fun e w' => e = .returned (.string (strB l)) ∧ Below b w w' :=
  (Tryd.Builder_String_any_f b b l w h (Nat.le_of_lt h.lt)).mono fun e w' ⟨h1, h2, h3⟩ => ⟨h1, h3⟩
theorem pt_steps {X Y : List UInt8} (h1 : X.length ≤ 43) (h2 : Y.length ≤ 43) :
    (∀ w0, (Op.stringOp .add ⟨#[112, 32]⟩ (strB X)).run Tryd.prog w0 = .ok (.string (strB ([112, 32] ++ X))) w0) ∧
    (∀ w0, (Op.stringOp .add (strB ([112, 32] ++ X)) ⟨#[32]⟩).run Tryd.prog w0 = .ok (.string (strB ([112, 32] ++ X ++ [32]))) w0) ∧
    (∀ w0, (Op.stringOp .add (strB ([112, 32] ++ X ++ [32])) (strB Y)).run Tryd.prog w0 = .ok (.string (strB ([112, 32] ++ X ++ [32] ++ Y))) w0) ∧
    (∀ w0, (Op.stringOp .add (strB ([112, 32] ++ X ++ [32] ++ Y)) ⟨#[10]⟩).run Tryd.prog w0 = .ok (.string (strB ([112, 32] ++ X ++ [32] ++ Y ++ [10]))) w0) := by
  refine ⟨fun w0 => add_str [112, 32] X ?_ w0, fun w0 => add_str _ [32] ?_ w0, fun w0 => add_str _ _ ?_ w0, fun w0 => add_str _ [10] ?_ w0⟩ <;> (simp; omega)
end Go.Proofs.YtapmdkinneehjaaDoor
