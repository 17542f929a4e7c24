/- What the rows' condition on the library's errors gives a walk. -/
import Derived.Test.YtbcehnhiedbbbaaDoorLaidNw
import Derived.Test.YtbcehnhiedbbbaaDoorWalkNoE
import Derived.Stop.LaidErr
import Derived.SizedLaws
set_option linter.unusedVariables false
set_option linter.unusedSimpArgs false
set_option maxRecDepth 100000
namespace Go.Proofs.YtbcehnhiedbbbaaDoor
open Go.ChangeShapes Go.WideShapes Go.ChangeAt Go.RowKit Go.Shelf
theorem gES : Tryd.prog.globalNamed "strconv.ErrSyntax" = some 1 := by kernel_rfl
theorem gER : Tryd.prog.globalNamed "strconv.ErrRange" = some 2 := by kernel_rfl
theorem gESt : (Tryd.prog.globals[(1 : Nat)]?).map (·.type) = some 90 := by kernel_rfl
theorem gERt : (Tryd.prog.globals[(2 : Nat)]?).map (·.type) = some 90 := by kernel_rfl
theorem starE : "*" ++ "errors.errorString" = "*errors.errorString" := by decide
theorem rowE (u : TypeId) (h : Tryd.prog.typeName? 3 u = some "*errors.errorString") : u = 163 :=
  typeName_ptr_named (nm := "errors.errorString") (by rw [starE]; kernel_rfl) (by kernel_rfl) (by decide) u (by rw [starE]; exact h)
theorem cellsE : Tryd.prog.cellsOf 165 = 1 := by kernel_rfl
theorem cellsStr : Tryd.prog.cellsOf 9 = 1 := by kernel_rfl
theorem var_lt {W : World} {n : String} {g : Nat} {v : Value} (hg : Tryd.prog.globalNamed n = some g) (h : W.var? Tryd.prog n = some #[v]) : g < W.heap.size := by
  have c := World.var?_cell hg h 0
  by_cases hq : g < W.heap.size
  · exact hq
  · exfalso
    have : W.cell? ⟨g, 0, none⟩ = none := by
      unfold World.cell?
      simp [Array.getElem?_eq_none (Nat.not_lt.1 hq)]
    rw [this] at c
    simp at c
theorem ner_of_laid {W : World} {a b c : String × DataW Unit} {l : List (String × DataW Unit)} (h : laidMet Tryd.prog (a :: b :: c :: ("strconv.ErrRange", Rows.laid_strconv_ErrRange) :: ("strconv.ErrSyntax", Rows.laid_strconv_ErrSyntax) :: l) W) : NEr W := by
  have h1 := h.tail.tail.tail
  obtain ⟨a0, s0, hv0, -, -, -⟩ := laid_sentinel h1 gER gERt Tryd.underlying90 rowE Tryd.underlying163 Tryd.underlying165 rfl rfl Tryd.underlying9 cellsE cellsStr
  obtain ⟨a1, s1, hv1, -, -, -⟩ := laid_sentinel h1.tail gES gESt Tryd.underlying90 rowE Tryd.underlying163 Tryd.underlying165 rfl rfl Tryd.underlying9 cellsE cellsStr
  exact ⟨var_lt gES hv1, ⟨_, _, hv1⟩, var_lt gER hv0, ⟨_, _, hv0⟩⟩
end Go.Proofs.YtbcehnhiedbbbaaDoor
