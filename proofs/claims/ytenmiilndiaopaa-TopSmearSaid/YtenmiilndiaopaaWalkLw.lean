/- The fact leapWorks of the laws. -/
import Derived.Test.YtenmiilndiaopaaPlainInst
set_option linter.unusedVariables false
set_option linter.unusedSimpArgs false
namespace Go.Proofs.Ytenmiilndiaopaa
open Go.RowKit
theorem lw_slice {W : World} {b : Nat} (h : b < W.heap.size) (c0 : W.cell? ⟨b, 0, none⟩ = some (.int .i64 100)) (c1 : W.cell? ⟨b, 1, none⟩ = some (.int .i64 1)) : LpSlice W (some ⟨b, 0, none⟩) [⟨100, 1⟩] := by
  intro k hk
  obtain rfl : k = 0 := by simpa using hk
  exact ⟨b, 0, rfl, h, c0, c1⟩
theorem c_lw_count (b : Nat) (W : World) (h : b < W.heap.size) (c0 : W.cell? ⟨b, 0, none⟩ = some (.int .i64 100)) (c1 : W.cell? ⟨b, 1, none⟩ = some (.int .i64 1)) :
    Calls Try.prog 9 #[.slice (some ⟨b, 0, none⟩) 1 1, .int .i64 8726400000] W fun e w' => e = .returned (.tuple #[.int .i64 8726401000, .int .i64 0]) ∧ Below W.heap.size W w' := by
  have := c_leapCount (some ⟨b, 0, none⟩) 1 [⟨100, 1⟩] 8726400000 W (by simp) (by decide) (lw_slice h c0 c1) (by omega) (by omega) (by decide)
  refine this.mono ?_
  rintro e w' ⟨hb, hc⟩
  rcases hc with ⟨hg, _⟩ | ⟨_, he⟩
  · exact absurd hg (by decide)
  · exact ⟨he, hb⟩
theorem c_lw_inst (b : Nat) (W : World) (h : b < W.heap.size) (c0 : W.cell? ⟨b, 0, none⟩ = some (.int .i64 100)) (c1 : W.cell? ⟨b, 1, none⟩ = some (.int .i64 1)) :
    Calls Try.prog 8 #[.slice (some ⟨b, 0, none⟩) 1 1, .int .i64 8726400500] W fun e w' => e = .returned (.tuple #[.int .i64 8726399999, .bool true, .int .i64 0]) ∧ Below W.heap.size W w' :=
  c_inst_ok (some ⟨b, 0, none⟩) 1 [⟨100, 1⟩] 8726400500 W (by simp) (by decide) (lw_slice h c0 c1) (by decide)
end Go.Proofs.Ytenmiilndiaopaa
