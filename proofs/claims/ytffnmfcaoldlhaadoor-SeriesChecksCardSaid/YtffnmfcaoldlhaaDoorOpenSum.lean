/- How a sum of terms that came in reads. -/
import Derived.Test.YtffnmfcaoldlhaaDoorOpenTerm
import Derived.Test.YtffnmfcaoldlhaaDoorWalkSer
import Derived.Lib.SmallJoins
set_option linter.unusedVariables false
set_option linter.unusedSimpArgs false
set_option maxRecDepth 100000
namespace Go.Proofs.YtffnmfcaoldlhaaDoor
open Go.ChangeShapes Go.WideShapes Go.ChangeAt Go.RowKit Go.Joins
theorem cells_sum : Tryd.prog.cellsOf 46 = 4 := by kernel_rfl
theorem open_sum {H : Type} {enc : TypeId × Value → H} {w : World} {b0 : Nat} {v : Value} {d : DataW H} {p : List MemPlace} (hv : Value.okWide Tryd.prog w .any b0 46 v) (h : DataW.Trod enc Tryd.prog w 0 (fun _ => true) true 46 v d p) :
    ∃ (m r : Int) (a : Option Addr) (len cap : Nat) (s : Int) (l : List Tm), v = sumV m r a len cap s ∧ l.length = len ∧ len ≤ cap ∧ TmSlice w a l := by
  obtain ⟨c0, c1, c2, c3, y0, y1, y2, y3, n, rfl, rfl, rfl, h0, h1, h2, h3⟩ := open_agg4 Tryd.underlying46 (by kernel_rfl) cells_sum hv h
  obtain ⟨m, e0, _, _⟩ := DataW.trod_int Tryd.underlying3 h0
  obtain ⟨r, e1, _, _⟩ := DataW.trod_int Tryd.underlying3 h1
  obtain ⟨s, e3, _, _⟩ := DataW.trod_int Tryd.underlying3 h3
  obtain ⟨a, len, cap, e2⟩ := slice_form Tryd.underlying44 h2
  simp at e0 e1 e2 e3
  subst e0 e1 e2 e3
  obtain ⟨l, l1, l2, _, l4, _⟩ := open_Tm (d := y2.1) (p := y2.2) ⟨n, by simpa [Value.cells] using h2⟩
  exact ⟨m, r, a, len, cap, s, l, rfl, l1, l2, l4⟩
end Go.Proofs.YtffnmfcaoldlhaaDoor
