/- What the rows' condition on the library's tables gives a walk; a world that meets it. What the rows' condition gives a walk where the library's errors are listed too; a world that meets it. What the rows' condition on the library's errors gives a walk. What the rows' condition gives a walk where the two tables of unicode/utf8 are listed too; a world that meets it. -/
import Derived.Test.YtapmdkinneehjaaDoorRows
import Derived.Test.YtapmdkinneehjaaDoorWalkNo
import Derived.Lib.LaidTab
import Derived.ProofKit
import Derived.LaidLaws
import Derived.OpenShut
import Derived.Test.YtapmdkinneehjaaDoorWalkNoR
import Derived.Shelf.Vars
import Derived.Test.YtapmdkinneehjaaDoorWalkNoD
import Derived.Stop.LaidErr
import Derived.SizedLaws
set_option linter.unusedVariables false
set_option linter.unusedSimpArgs false
namespace Go.Proofs.YtapmdkinneehjaaDoor
section
set_option maxRecDepth 100000
open Go.ChangeShapes Go.WideShapes Go.ChangeAt Go.RowKit
theorem name_pow : Tryd.prog.globalNamed "internal/strconv.uint64pow10" = some 1 := by kernel_rfl
theorem type_pow : (Tryd.prog.globals[(1 : Nat)]?).map (·.type) = some 87 := by kernel_rfl
theorem data_pow : (Rows.laid_internal_strconv_uint64pow10 : DataW Unit) = Go.Lib.tabData .u64 Go.Lib.pow10Tab := by rfl
theorem ntab_of_laid {W : World} {a b : String × DataW Unit} {l : List (String × DataW Unit)} (h : laidMet Tryd.prog (a :: b :: ("internal/strconv.uint64pow10", Rows.laid_internal_strconv_uint64pow10) :: l) W) : NTab W := by
  obtain ⟨ps, ⟨_, _, _, _, _, _, _, _, _, _, ⟨_, _, _, _, _, _, _, _, _, _, ⟨g, t, cs, fuel, p, q, hg, ht, hvar, hd, _⟩, _⟩, _⟩, _⟩ := h
  obtain rfl := Option.some.inj (name_pow.symm.trans hg)
  obtain rfl := Option.some.inj (type_pow.symm.trans ht)
  rw [data_pow] at hd
  have e := Go.Lib.cells_of_tab Tryd.underlying87 Tryd.underlying76 (by kernel_rfl) (by kernel_rfl) hd
  have tab : Go.Lib.TabIs Tryd.prog W "internal/strconv.uint64pow10" .u64 Go.Lib.pow10Tab := by
    unfold Go.Lib.TabIs
    rw [hvar, ← e]
  have c0 := tab.cell hg 0 (by rw [Go.Lib.pow10Tab_length]; decide)
  refine ⟨?_, tab⟩
  by_cases hq : 1 < W.heap.size
  · exact hq
  · exfalso
    have : W.cell? ⟨1, 0, none⟩ = none := by
      unfold World.cell?
      simp [Array.getElem?_eq_none (Nat.not_lt.1 hq)]
    rw [this] at c0
    cases c0
/-- The cells of a listed array of numbers. -/
def rowCells : DataW Unit → Array Value
  | .agg l => (l.map fun | .lit v => v.value | _ => .int .i64 0).toArray
  | _ => #[]
/-- A world in which the tables hold what the program's text lays. -/
noncomputable def laidWorldN (os : Os) : World :=
  let w0 := World.holding Tryd.prog os ⟨#[], #[], []⟩
  { w0 with heap := ((w0.heap.modify 4 fun
      | .cells _ t frozen => .cells (rowCells Rows.laid_math_bits_deBruijn32tab) t frozen
      | o => o).modify 5 fun
      | .cells _ t frozen => .cells (rowCells Rows.laid_math_bits_deBruijn64tab) t frozen
      | o => o).modify 1 fun
      | .cells _ t frozen => .cells (rowCells Rows.laid_internal_strconv_uint64pow10) t frozen
      | o => o }
theorem laid_metN (os : Os) (args : Array Value) : laidMet Tryd.prog [("math/bits.deBruijn32tab", Rows.laid_math_bits_deBruijn32tab), ("math/bits.deBruijn64tab", Rows.laid_math_bits_deBruijn64tab), ("internal/strconv.uint64pow10", Rows.laid_internal_strconv_uint64pow10)] ((laidWorldN os).forCall (fun _ _ => 0) ⟨#[], args, []⟩).memory :=
  laidMet_of_run' 8 (by kernel_rfl) (by kernel_rfl)
end
section
set_option maxRecDepth 100000
open Go.ChangeShapes Go.WideShapes Go.ChangeAt Go.RowKit Go.Shelf
theorem nmx_of_shape {W : World} (h : W.ShapedOpen Tryd.prog) : NMx W := by
  obtain ⟨m, c⟩ := cell_of_shapedOpen_int (g := 0) (t := 3) (zero := #[.int .i64 0]) (k := .i64) h (by decide +kernel) (by kernel_rfl) rfl (by kernel_rfl) (by kernel_rfl) Tryd.underlying3
  refine ⟨?_, m, c⟩
  by_cases hq : 0 < W.heap.size
  · exact hq
  · exfalso
    have : W.cell? ⟨0, 0, none⟩ = none := by
      unfold World.cell?
      simp [Array.getElem?_eq_none (Nat.not_lt.1 hq)]
    rw [this] at c
    cases c
/-- So many blocks has the settled world. -/
noncomputable def lowN : Nat := (World.holding Tryd.prog default ⟨#[], #[], []⟩).heap.size
def synS : ByteArray := { data := #[105, 110, 118, 97, 108, 105, 100, 32, 115, 121, 110, 116, 97, 120] }
def rngS : ByteArray := { data := #[118, 97, 108, 117, 101, 32, 111, 117, 116, 32, 111, 102, 32, 114, 97, 110, 103, 101] }
/-- A world in which the listed variables hold what the program's text lays. -/
noncomputable def laidWorldW (os : Os) : World :=
  let w0 := World.holding Tryd.prog os ⟨#[.cells #[.string synS] 118, .cells #[.string rngS] 118], #[], []⟩
  { w0 with heap := ((((w0.heap.modify 4 fun
      | .cells _ t frozen => .cells (rowCells Rows.laid_math_bits_deBruijn32tab) t frozen
      | o => o).modify 5 fun
      | .cells _ t frozen => .cells (rowCells Rows.laid_math_bits_deBruijn64tab) t frozen
      | o => o).modify 1 fun
      | .cells _ t frozen => .cells (rowCells Rows.laid_internal_strconv_uint64pow10) t frozen
      | o => o).modify 2 fun
      | .cells _ t frozen => .cells #[.iface 116 (.pointer (some ⟨lowN, 0, none⟩))] t frozen
      | o => o).modify 3 fun
      | .cells _ t frozen => .cells #[.iface 116 (.pointer (some ⟨lowN + 1, 0, none⟩))] t frozen
      | o => o }
theorem laid_metW (os : Os) (args : Array Value) : laidMet Tryd.prog [("math/bits.deBruijn32tab", Rows.laid_math_bits_deBruijn32tab), ("math/bits.deBruijn64tab", Rows.laid_math_bits_deBruijn64tab), ("internal/strconv.uint64pow10", Rows.laid_internal_strconv_uint64pow10), ("strconv.ErrRange", Rows.laid_strconv_ErrRange), ("strconv.ErrSyntax", Rows.laid_strconv_ErrSyntax)] ((laidWorldW os).forCall (fun _ _ => 0) ⟨#[], args, []⟩).memory :=
  laidMet_of_run' 8 (by kernel_rfl) (by kernel_rfl)
end
section
set_option maxRecDepth 100000
open Go.ChangeShapes Go.WideShapes Go.ChangeAt Go.RowKit Go.Shelf
theorem gES : Tryd.prog.globalNamed "strconv.ErrSyntax" = some 2 := by kernel_rfl
theorem gER : Tryd.prog.globalNamed "strconv.ErrRange" = some 3 := by kernel_rfl
theorem gESt : (Tryd.prog.globals[(2 : Nat)]?).map (·.type) = some 45 := by kernel_rfl
theorem gERt : (Tryd.prog.globals[(3 : Nat)]?).map (·.type) = some 45 := by kernel_rfl
theorem starE : "*" ++ "errors.errorString" = "*errors.errorString" := by decide
theorem rowE (u : TypeId) (h : Tryd.prog.typeName? 3 u = some "*errors.errorString") : u = 116 :=
  typeName_ptr_named (nm := "errors.errorString") (by rw [starE]; kernel_rfl) (by kernel_rfl) (by decide) u (by rw [starE]; exact h)
theorem cellsE : Tryd.prog.cellsOf 118 = 1 := by kernel_rfl
theorem cellsStr : Tryd.prog.cellsOf 9 = 1 := by kernel_rfl
theorem var_lt {W : World} {n : String} {g : Nat} {v : Value} (hg : Tryd.prog.globalNamed n = some g) (h : W.var? Tryd.prog n = some #[v]) : g < W.heap.size := by
  have c := World.var?_cell hg h 0
  by_cases hq : g < W.heap.size
  · exact hq
  · exfalso
    have : W.cell? ⟨g, 0, none⟩ = none := by
      unfold World.cell?
      simp [Array.getElem?_eq_none (Nat.not_lt.1 hq)]
    rw [this] at c
    simp at c
theorem ner_of_laid {W : World} {a b c : String × DataW Unit} {l : List (String × DataW Unit)} (h : laidMet Tryd.prog (a :: b :: c :: ("strconv.ErrRange", Rows.laid_strconv_ErrRange) :: ("strconv.ErrSyntax", Rows.laid_strconv_ErrSyntax) :: l) W) : NEr W := by
  have h1 := h.tail.tail.tail
  obtain ⟨a0, s0, hv0, -, -, -⟩ := laid_sentinel h1 gER gERt Tryd.underlying45 rowE Tryd.underlying116 Tryd.underlying118 rfl rfl Tryd.underlying9 cellsE cellsStr
  obtain ⟨a1, s1, hv1, -, -, -⟩ := laid_sentinel h1.tail gES gESt Tryd.underlying45 rowE Tryd.underlying116 Tryd.underlying118 rfl rfl Tryd.underlying9 cellsE cellsStr
  exact ⟨var_lt gES hv1, ⟨_, _, hv1⟩, var_lt gER hv0, ⟨_, _, hv0⟩⟩
end
section
set_option maxRecDepth 100000
open Go.ChangeShapes Go.WideShapes Go.ChangeAt Go.RowKit Go.Shelf
def flatCells : DataW Unit → Array Value
  | .agg l => (l.flatMap fun | .agg m => (m.map fun | .lit v => v.value | _ => .int .i64 0) | .lit v => [v.value] | _ => []).toArray
  | _ => #[]
/-- A world in which the listed variables hold what the program's text lays. -/
noncomputable def laidWorldF (os : Os) : World :=
  let w0 := laidWorldW os
  { w0 with heap := (w0.heap.modify 7 fun
      | .cells _ t frozen => .cells (flatCells Rows.laid_unicode_utf8_acceptRanges) t frozen
      | o => o).modify 6 fun
      | .cells _ t frozen => .cells (flatCells Rows.laid_unicode_utf8_first) t frozen
      | o => o }
theorem laid_metF (os : Os) (args : Array Value) : laidMet Tryd.prog [("math/bits.deBruijn32tab", Rows.laid_math_bits_deBruijn32tab), ("math/bits.deBruijn64tab", Rows.laid_math_bits_deBruijn64tab), ("internal/strconv.uint64pow10", Rows.laid_internal_strconv_uint64pow10), ("unicode/utf8.acceptRanges", Rows.laid_unicode_utf8_acceptRanges), ("strconv.ErrRange", Rows.laid_strconv_ErrRange), ("strconv.ErrSyntax", Rows.laid_strconv_ErrSyntax), ("unicode/utf8.first", Rows.laid_unicode_utf8_first)] ((laidWorldF os).forCall (fun _ _ => 0) ⟨#[], args, []⟩).memory :=
  laidMet_of_run' 8 (by kernel_rfl) (by kernel_rfl)
end
end Go.Proofs.YtapmdkinneehjaaDoor
