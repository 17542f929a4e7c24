/- What the rows' condition on the library's tables gives a walk; a world that meets it. -/
import Derived.Test.YtbcehnhiedbbbaaDoorRows
import Derived.Test.YtbcehnhiedbbbaaDoorWalkNo
import Derived.Lib.LaidTab
import Derived.ProofKit
import Derived.LaidLaws
import Derived.OpenShut
set_option linter.unusedVariables false
set_option linter.unusedSimpArgs false
set_option maxRecDepth 100000
namespace Go.Proofs.YtbcehnhiedbbbaaDoor
open Go.ChangeShapes Go.WideShapes Go.ChangeAt Go.RowKit
theorem name_pow : Tryd.prog.globalNamed "internal/strconv.uint64pow10" = some 3 := by kernel_rfl
theorem type_pow : (Tryd.prog.globals[(3 : Nat)]?).map (·.type) = some 156 := by kernel_rfl
theorem data_pow : (Rows.laid_internal_strconv_uint64pow10 : DataW Unit) = Go.Lib.tabData .u64 Go.Lib.pow10Tab := by rfl
theorem ntab_of_laid {W : World} {a b : String × DataW Unit} {l : List (String × DataW Unit)} (h : laidMet Tryd.prog (a :: b :: ("internal/strconv.uint64pow10", Rows.laid_internal_strconv_uint64pow10) :: l) W) : NTab W := by
  obtain ⟨ps, ⟨_, _, _, _, _, _, _, _, _, _, ⟨_, _, _, _, _, _, _, _, _, _, ⟨g, t, cs, fuel, p, q, hg, ht, hvar, hd, _⟩, _⟩, _⟩, _⟩ := h
  obtain rfl := Option.some.inj (name_pow.symm.trans hg)
  obtain rfl := Option.some.inj (type_pow.symm.trans ht)
  rw [data_pow] at hd
  have e := Go.Lib.cells_of_tab Tryd.underlying156 Tryd.underlying124 (by kernel_rfl) (by kernel_rfl) hd
  have tab : Go.Lib.TabIs Tryd.prog W "internal/strconv.uint64pow10" .u64 Go.Lib.pow10Tab := by
    unfold Go.Lib.TabIs
    rw [hvar, ← e]
  have c0 := tab.cell hg 0 (by rw [Go.Lib.pow10Tab_length]; decide)
  refine ⟨?_, tab⟩
  by_cases hq : 3 < W.heap.size
  · exact hq
  · exfalso
    have : W.cell? ⟨3, 0, none⟩ = none := by
      unfold World.cell?
      simp [Array.getElem?_eq_none (Nat.not_lt.1 hq)]
    rw [this] at c0
    cases c0
/-- The cells of a listed array of numbers. -/
def rowCells : DataW Unit → Array Value
  | .agg l => (l.map fun | .lit v => v.value | _ => .int .i64 0).toArray
  | _ => #[]
/-- A world in which the tables hold what the program's text lays. -/
noncomputable def laidWorldN (os : Os) : World :=
  let w0 := World.holding Tryd.prog os ⟨#[], #[], []⟩
  { w0 with heap := ((w0.heap.modify 6 fun
      | .cells _ t frozen => .cells (rowCells Rows.laid_math_bits_deBruijn32tab) t frozen
      | o => o).modify 7 fun
      | .cells _ t frozen => .cells (rowCells Rows.laid_math_bits_deBruijn64tab) t frozen
      | o => o).modify 3 fun
      | .cells _ t frozen => .cells (rowCells Rows.laid_internal_strconv_uint64pow10) t frozen
      | o => o }
theorem laid_metN (os : Os) (args : Array Value) : laidMet Tryd.prog [("math/bits.deBruijn32tab", Rows.laid_math_bits_deBruijn32tab), ("math/bits.deBruijn64tab", Rows.laid_math_bits_deBruijn64tab), ("internal/strconv.uint64pow10", Rows.laid_internal_strconv_uint64pow10)] ((laidWorldN os).forCall (fun _ _ => 0) ⟨#[], args, []⟩).memory :=
  laidMet_of_run' 8 (by kernel_rfl) (by kernel_rfl)
end Go.Proofs.YtbcehnhiedbbbaaDoor
