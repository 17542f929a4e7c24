/- The cells of a list of intervals. -/
import Derived.Test.YtjkhoepohiafeaaDoorProg
import Derived.Test.YtjkhoepohiafeaaDoorPlainSpan2
import Derived.Test.YtjkhoepohiafeaaDoorSliceSpan2
import Derived.WalkKit
import Derived.WalkSmall
set_option linter.unusedVariables false
set_option linter.unusedSimpArgs false
namespace Go.Proofs.YtjkhoepohiafeaaDoor
open Go.RowKit
def spCells (l : List Sp) : List Value := l.flatMap fun s => [.int .i64 s.lo, .int .i64 s.hi]
theorem spCells_length (l : List Sp) : (spCells l).length = l.length * 2 := by
  unfold spCells
  induction l with
  | nil => rfl
  | cons a l ih => simp only [List.flatMap_cons, List.length_append, ih, List.length_cons, List.length_nil]; omega
theorem spCells_append (l m : List Sp) : spCells (l ++ m) = spCells l ++ spCells m := by simp [spCells]
theorem spCells_get (l : List Sp) (k : Nat) (h : k < l.length) : (spCells l)[k * 2]? = some (.int .i64 l[k].lo) ∧ (spCells l)[k * 2 + 1]? = some (.int .i64 l[k].hi) := by
  induction l generalizing k with
  | nil => simp at h
  | cons a l ih =>
    cases k with
    | zero => simp [spCells]
    | succ k =>
      have := ih k (by simpa using h)
      have e : spCells (a :: l) = .int .i64 a.lo :: .int .i64 a.hi :: spCells l := by simp [spCells]
      rw [e, show (k + 1) * 2 = k * 2 + 1 + 1 by omega]
      simpa using this
theorem info_span : (Tryd.prog.info? 24).map (fun i => (i.zero, i.size, i.bytes)) = some (some (.agg #[.int .i64 0, .int .i64 0]), 2, 16) := by kernel_rfl
end Go.Proofs.YtjkhoepohiafeaaDoor
