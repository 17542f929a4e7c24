/- Slices of leaps that a call has made. -/
import Derived.Test.YtenmiilndiaopaaProg
import Derived.Test.YtenmiilndiaopaaWalkOwn
import Derived.Test.YtenmiilndiaopaaSliceLeap
import Derived.Lib.SliceRun
import Derived.Laws.OwnMore
set_option linter.unusedVariables false
set_option linter.unusedSimpArgs false
namespace Go.Proofs.Ytenmiilndiaopaa
open Go.RowKit
def lpCells (l : List Lp) : List Value := l.flatMap fun c => [.int .i64 c.day, .int .i64 c.sh]
theorem lpCells_append (l m : List Lp) : lpCells (l ++ m) = lpCells l ++ lpCells m := by simp [lpCells]
theorem lpCells_cons (a : Lp) (l : List Lp) : lpCells (a :: l) = .int .i64 a.day :: .int .i64 a.sh :: lpCells l := by simp [lpCells]
theorem lpCells_get (l : List Lp) (k : Nat) (h : k < l.length) : (lpCells l)[k * 2]? = some (.int .i64 l[k].day) ∧ (lpCells l)[k * 2 + 1]? = some (.int .i64 l[k].sh) := by
  induction l generalizing k with
  | nil => simp at h
  | cons a l ih =>
    cases k with
    | zero => simp [lpCells]
    | succ k =>
      have := ih k (by simpa using h)
      rw [lpCells_cons, show (k + 1) * 2 = k * 2 + 1 + 1 by omega]
      simpa using this
theorem info_Lp : (Try.prog.info? 27).map (fun i => (i.zero, i.size, i.bytes)) = some (some (.agg #[.int .i64 0, .int .i64 0]), 2, 16) := by kernel_rfl
theorem own_lpS {w : World} {base : Nat} {v : Value} {l : List Lp} (h : w.ownsRow base 27 2 v l.length (lpCells l)) : ∃ a cap, v = .slice a l.length cap ∧ l.length ≤ cap ∧ LpSlice w a l := by
  rcases own_form h with ⟨h1, h2⟩ | ⟨g, cap, h1, h2, h3, h4, h5, h6, h7⟩
  · exact ⟨none, 0, by rw [h1, h2], by omega, fun k hk => by omega⟩
  · refine ⟨some ⟨g, 0, none⟩, cap, h1, h2, fun k hk => ?_⟩
    obtain ⟨e0, e1⟩ := lpCells_get l k hk
    refine ⟨g, 0, rfl, h5, ?_, ?_⟩
    · rw [Nat.zero_add, h6 _ (by omega), e0]
    · rw [Nat.zero_add, h6 _ (by omega), e1]
end Go.Proofs.Ytenmiilndiaopaa
