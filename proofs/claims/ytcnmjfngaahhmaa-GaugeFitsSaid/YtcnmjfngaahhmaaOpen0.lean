/- How integers and intervals that came in read. -/
import Derived.Test.YtcnmjfngaahhmaaProg
import Derived.ProofKit
import Derived.OpenShut
import Derived.Deep.Slices
set_option linter.unusedVariables false
set_option linter.unusedSimpArgs false
set_option maxRecDepth 100000
namespace Go.Proofs.Ytcnmjfngaahhmaa
open Go.ChangeShapes Go.WideShapes Go.ChangeAt Go.RowKit Go.Deep
theorem cells_int : Try.prog.cellsOf 3 = 1 := by kernel_rfl
theorem cells_span : Try.prog.cellsOf 44 = 2 := by kernel_rfl
def wf64 (n : Int) : Prop := -9223372036854775808 ≤ n ∧ n ≤ 9223372036854775807
theorem wf64_of {n : Int} (h : (Lit.int .i64 n).wf = true) : wf64 n := by
  simpa [wf64, Lit.wf, IntKind.min, IntKind.max, IntKind.signed, IntKind.bits] using h
section
variable {H : Type} {enc : TypeId × Value → H} {w : World} {base : Nat} {spare : Nat → Bool} {held : Bool} {fuel : Nat} {cs : List Value} {x : DataW H × List MemPlace}
theorem read_int (h : DataW.trod enc Try.prog w base spare held fuel 3 cs = some x) : ∃ n : Int, cs = [.int .i64 n] ∧ wf64 n := by
  obtain ⟨n, h1, _, h2⟩ := DataW.trod_int Try.underlying3 h
  exact ⟨n, h1, wf64_of h2⟩
theorem read_span (h : DataW.trod enc Try.prog w base spare held fuel 44 cs = some x) : ∃ lo hi : Int, cs = [.int .i64 lo, .int .i64 hi] ∧ wf64 lo ∧ wf64 hi := by
  obtain ⟨xs, n, _, _, hl, hlen, hf⟩ := DataW.trod_struct Try.underlying44 h
  rw [cells_span] at hl
  match cs, hl, xs, hlen with
  | [c0, c1], _, [y0, y1], _ =>
    have g0 := hf 0 _ rfl
    change DataW.trod enc Try.prog w base spare held n 3 (List.take (Try.prog.cellsOf 3) _) = _ at g0
    rw [cells_int] at g0
    obtain ⟨a, e0, w0⟩ := read_int g0
    have g1 := hf 1 _ rfl
    change DataW.trod enc Try.prog w base spare held n 3 (List.take (Try.prog.cellsOf 3) _) = _ at g1
    rw [cells_int] at g1
    obtain ⟨b, e1, w1⟩ := read_int g1
    simp at e0 e1
    exact ⟨a, b, by simp [e0, e1], w0, w1⟩
end
end Go.Proofs.Ytcnmjfngaahhmaa
