/- Contracts of notice.Write and noticeWorks. -/
import Derived.Test.YtapmdkinneehjaaDoorWalkNo6
set_option linter.unusedVariables false
set_option linter.unusedSimpArgs false
namespace Go.Proofs.YtapmdkinneehjaaDoor
open Go.RowKit
theorem write_steps {ia ib ic l : List UInt8} (h1 : ia.length ≤ 21) (h2 : ib.length ≤ 21) (h3 : ic.length ≤ 21) (h4 : l.length ≤ 200) :
    (∀ w0, (Op.stringOp .add (strB ia) ⟨#[32]⟩).run Tryd.prog w0 = .ok (.string (strB (ia ++ [32]))) w0) ∧
    (∀ w0, (Op.stringOp .add (strB (ia ++ [32])) (strB ib)).run Tryd.prog w0 = .ok (.string (strB (ia ++ [32] ++ ib))) w0) ∧
    (∀ w0, (Op.stringOp .add (strB (ia ++ [32] ++ ib)) ⟨#[32]⟩).run Tryd.prog w0 = .ok (.string (strB (ia ++ [32] ++ ib ++ [32]))) w0) ∧
    (∀ w0, (Op.stringOp .add (strB (ia ++ [32] ++ ib ++ [32])) (strB ic)).run Tryd.prog w0 = .ok (.string (strB (ia ++ [32] ++ ib ++ [32] ++ ic))) w0) ∧
    (∀ w0, (Op.stringOp .add (strB (ia ++ [32] ++ ib ++ [32] ++ ic)) ⟨#[32]⟩).run Tryd.prog w0 = .ok (.string (strB (ia ++ [32] ++ ib ++ [32] ++ ic ++ [32]))) w0) ∧
    (∀ w0, (Op.stringOp .add (strB (ia ++ [32] ++ ib ++ [32] ++ ic ++ [32])) (strB l)).run Tryd.prog w0 = .ok (.string (strB (ia ++ [32] ++ ib ++ [32] ++ ic ++ [32] ++ l))) w0) := by
  refine ⟨fun w0 => add_str _ _ ?_ w0, fun w0 => add_str _ _ ?_ w0, fun w0 => add_str _ _ ?_ w0, fun w0 => add_str _ _ ?_ w0, fun w0 => add_str _ _ ?_ w0, fun w0 => add_str _ _ ?_ w0⟩ <;> (simp; omega)
theorem dec_step {u p q : Nat} (hq : q < 10) (hp : 0 < p) (h : u = 10 * p + q) : Go.Lib.decDigits u = Go.Lib.decDigits p ++ [UInt8.ofNat (48 + q)] := by
  rw [dec_big (by omega), show u / 10 = p by omega, show u % 10 = q by omega]
theorem dec_ex : Go.Lib.decDigits 930818648 = [57, 51, 48, 56, 49, 56, 54, 52, 56] := by
  rw [dec_step (p := 93081864) (q := 8) (by decide) (by decide) (by decide), dec_step (p := 9308186) (q := 4) (by decide) (by decide) (by decide), dec_step (p := 930818) (q := 6) (by decide) (by decide) (by decide), dec_step (p := 93081) (q := 8) (by decide) (by decide) (by decide), dec_step (p := 9308) (q := 1) (by decide) (by decide) (by decide), dec_step (p := 930) (q := 8) (by decide) (by decide) (by decide), dec_step (p := 93) (q := 0) (by decide) (by decide) (by decide), dec_step (p := 9) (q := 3) (by decide) (by decide) (by decide), dec_small (by decide)]
  decide
theorem itoa_0 : Go.Lib.itoa 0 = [48] := by
  rw [show (0 : Int) = ((0 : Nat) : Int) from rfl, itoa_nat, dec_small (by decide)]; decide
theorem itoa_1 : Go.Lib.itoa 1 = [49] := by
  rw [show (1 : Int) = ((1 : Nat) : Int) from rfl, itoa_nat, dec_small (by decide)]; decide
theorem no_ex : noH 1 (noS 0 1 [97]) = 930818648 := by
  unfold noS
  rw [itoa_0, itoa_1]
  decide +kernel
theorem no_exE : noE 0 1 0 [97] = 0 ∧ noE 0 1 930818648 [97] = 0 := by decide +kernel
theorem no_exW : strB (noW 0 1 930818648 [97]) = ⟨#[48, 32, 49, 32, 57, 51, 48, 56, 49, 56, 54, 52, 56, 32, 97]⟩ := by
  unfold noW
  rw [itoa_0, itoa_1, show (930818648 : Int) = ((930818648 : Nat) : Int) from rfl, itoa_nat, dec_ex]
  rfl
end Go.Proofs.YtapmdkinneehjaaDoor
