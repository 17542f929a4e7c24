/- A figure that came in, opened. -/
import Derived.Test.YtbcehnhiedbbbaaDoorFgP
import Derived.Test.YtbcehnhiedbbbaaDoorOpenMat
import Derived.Lib.SmallJoins
set_option linter.unusedVariables false
set_option linter.unusedSimpArgs false
set_option maxRecDepth 100000
namespace Go.Proofs.YtbcehnhiedbbbaaDoor
open Go.ChangeShapes Go.WideShapes Go.ChangeAt Go.RowKit Go.Joins
theorem cells_figure : Tryd.prog.cellsOf 57 = 2 := by kernel_rfl
theorem open_fig {H : Type} {enc : TypeId × Value → H} {w : World} {b0 : Nat} {v : Value} {d : DataW H} {p : List MemPlace} (hv : Value.okWide Tryd.prog w .any b0 57 v) (h : DataW.Trod enc Tryd.prog w 0 (fun _ => true) true 57 v d p) :
    ∃ (a b : Option Addr) (ca cb : Nat) (P : List Fp) (L : List (List Int)), v = .agg #[.slice a P.length ca, .slice b L.length cb] ∧ P.length ≤ ca ∧ L.length ≤ cb ∧ FpSlice w a P ∧ MatSlice w b L := by
  obtain ⟨c0, c1, y0, y1, n, rfl, rfl, rfl, h0, h1⟩ := open_agg2 Tryd.underlying57 (by kernel_rfl) cells_figure hv h
  obtain ⟨a, la, ca, e0⟩ := slice_form Tryd.underlying54 h0
  obtain ⟨b, lb, cb, e1⟩ := slice_form Tryd.underlying55 h1
  simp at e0 e1
  subst e0 e1
  obtain ⟨P, l1, l2, _, l4, _⟩ := open_Fp (d := y0.1) (p := y0.2) ⟨n, by simpa [Value.cells] using h0⟩
  obtain ⟨L, m1, m2, _, m4, _⟩ := open_Mat (d := y1.1) (p := y1.2) ⟨n, by simpa [Value.cells] using h1⟩
  subst l1 m1
  exact ⟨a, b, ca, cb, P, L, rfl, l2, m2, l4, m4⟩
end Go.Proofs.YtbcehnhiedbbbaaDoor
