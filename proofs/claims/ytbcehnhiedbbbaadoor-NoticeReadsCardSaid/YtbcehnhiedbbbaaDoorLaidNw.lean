/- What the rows' condition gives a walk where the library's errors are listed too; a world that meets it. -/
import Derived.Test.YtbcehnhiedbbbaaDoorLaidNo
import Derived.Test.YtbcehnhiedbbbaaDoorWalkNoR
import Derived.Shelf.Vars
set_option linter.unusedVariables false
set_option linter.unusedSimpArgs false
set_option maxRecDepth 100000
namespace Go.Proofs.YtbcehnhiedbbbaaDoor
open Go.ChangeShapes Go.WideShapes Go.ChangeAt Go.RowKit Go.Shelf
theorem nmx_of_shape {W : World} (h : W.ShapedOpen Tryd.prog) : NMx W := by
  obtain ⟨m, c⟩ := cell_of_shapedOpen_int (g := 0) (t := 3) (zero := #[.int .i64 0]) (k := .i64) h (by decide +kernel) (by kernel_rfl) rfl (by kernel_rfl) (by kernel_rfl) Tryd.underlying3
  refine ⟨?_, m, c⟩
  by_cases hq : 0 < W.heap.size
  · exact hq
  · exfalso
    have : W.cell? ⟨0, 0, none⟩ = none := by
      unfold World.cell?
      simp [Array.getElem?_eq_none (Nat.not_lt.1 hq)]
    rw [this] at c
    cases c
/-- So many blocks has the settled world. -/
noncomputable def lowN : Nat := (World.holding Tryd.prog default ⟨#[], #[], []⟩).heap.size
def synS : ByteArray := { data := #[105, 110, 118, 97, 108, 105, 100, 32, 115, 121, 110, 116, 97, 120] }
def rngS : ByteArray := { data := #[118, 97, 108, 117, 101, 32, 111, 117, 116, 32, 111, 102, 32, 114, 97, 110, 103, 101] }
/-- A world in which the listed variables hold what the program's text lays. -/
noncomputable def laidWorldW (os : Os) : World :=
  let w0 := World.holding Tryd.prog os ⟨#[.cells #[.string synS] 165, .cells #[.string rngS] 165], #[], []⟩
  { w0 with heap := ((((w0.heap.modify 6 fun
      | .cells _ t frozen => .cells (rowCells Rows.laid_math_bits_deBruijn32tab) t frozen
      | o => o).modify 7 fun
      | .cells _ t frozen => .cells (rowCells Rows.laid_math_bits_deBruijn64tab) t frozen
      | o => o).modify 3 fun
      | .cells _ t frozen => .cells (rowCells Rows.laid_internal_strconv_uint64pow10) t frozen
      | o => o).modify 1 fun
      | .cells _ t frozen => .cells #[.iface 163 (.pointer (some ⟨lowN, 0, none⟩))] t frozen
      | o => o).modify 2 fun
      | .cells _ t frozen => .cells #[.iface 163 (.pointer (some ⟨lowN + 1, 0, none⟩))] t frozen
      | o => o }
theorem laid_metW (os : Os) (args : Array Value) : laidMet Tryd.prog [("math/bits.deBruijn32tab", Rows.laid_math_bits_deBruijn32tab), ("math/bits.deBruijn64tab", Rows.laid_math_bits_deBruijn64tab), ("internal/strconv.uint64pow10", Rows.laid_internal_strconv_uint64pow10), ("strconv.ErrRange", Rows.laid_strconv_ErrRange), ("strconv.ErrSyntax", Rows.laid_strconv_ErrSyntax)] ((laidWorldW os).forCall (fun _ _ => 0) ⟨#[], args, []⟩).memory :=
  laidMet_of_run' 8 (by kernel_rfl) (by kernel_rfl)
end Go.Proofs.YtbcehnhiedbbbaaDoor
