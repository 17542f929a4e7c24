/- How integers and intervals that came in read. How a slice of api.SeriesTerm that came in reads. How a sum of terms that came in reads. What the rows' condition on the tables of math.Sin gives a walk; a world that meets it. -/
import Derived.Test.YtcgnhnmigmdalaaGreatDoorProg
import Derived.ProofKit
import Derived.OpenShut
import Derived.Deep.Slices
import Derived.Test.YtcgnhnmigmdalaaGreatDoorWkA
import Derived.Test.YtcgnhnmigmdalaaGreatDoorWkD
import Derived.Lib.SmallJoins
import Derived.Test.YtcgnhnmigmdalaaGreatDoorRows
import Derived.Test.YtcgnhnmigmdalaaGreatDoorWkC
import Derived.LaidLaws
set_option linter.unusedVariables false
set_option linter.unusedSimpArgs false
namespace Go.Proofs.YtcgnhnmigmdalaaGreatDoor
section
set_option maxRecDepth 100000
open Go.ChangeShapes Go.WideShapes Go.ChangeAt Go.RowKit Go.Deep
def wf64 (n : Int) : Prop := -9223372036854775808 ≤ n ∧ n ≤ 9223372036854775807
theorem wf64_of {n : Int} (h : (Lit.int .i64 n).wf = true) : wf64 n := by
  simpa [wf64, Lit.wf, IntKind.min, IntKind.max, IntKind.signed, IntKind.bits] using h
section
variable {H : Type} {enc : TypeId × Value → H} {w : World} {base : Nat} {spare : Nat → Bool} {held : Bool} {fuel : Nat} {cs : List Value} {x : DataW H × List MemPlace}
end
end
section
set_option maxRecDepth 100000
open Go.ChangeShapes Go.WideShapes Go.ChangeAt Go.RowKit Go.Deep
section
variable {H : Type} {enc : TypeId × Value → H} {w : World} {base : Nat} {spare : Nat → Bool} {held : Bool} {fuel : Nat} {cs : List Value} {x : DataW H × List MemPlace}
end
end
section
set_option maxRecDepth 100000
open Go.ChangeShapes Go.WideShapes Go.ChangeAt Go.RowKit Go.Joins
end
section
open Go.ChangeShapes Go.WideShapes Go.ChangeAt Go.RowKit
theorem cells_flt : Tryz.prog.cellsOf 97 = 1 := by kernel_rfl
set_option maxRecDepth 100000 in
theorem read_flt {H : Type} {enc : TypeId × Value → H} {w : World} {base : Nat} {spare : Nat → Bool} {held : Bool} {fuel : Nat} {cs : List Value} {x : DataW H × List MemPlace} (h : DataW.trod enc Tryz.prog w base spare held fuel 97 cs = some x) : ∃ b, cs = [.float .f64 b] ∧ x = (.lit (.float .f64 b), []) := by
  cases fuel with
  | zero => simp [DataW.trod] at h
  | succ n =>
    unfold DataW.trod at h
    rw [Tryz.underlying97] at h
    split at h <;> simp_all
theorem read_six {w : World} {fuel : Nat} {cs : List Value} {p : List MemPlace} {b0 b1 b2 b3 b4 b5 : Nat} (h : DataW.trod (fun _ => ()) Tryz.prog w 0 (fun _ => true) false fuel 135 cs = some (.agg [.lit (.float .f64 b0), .lit (.float .f64 b1), .lit (.float .f64 b2), .lit (.float .f64 b3), .lit (.float .f64 b4), .lit (.float .f64 b5)], p)) :
    cs = [.float .f64 b0, .float .f64 b1, .float .f64 b2, .float .f64 b3, .float .f64 b4, .float .f64 b5] := by
  obtain ⟨xs, m, _, hx, hl, hlen, hf⟩ := DataW.trod_array Tryz.underlying135 h
  rw [show Tryz.prog.cellsOf 135 = 6 by kernel_rfl] at hl
  rw [cells_flt] at hf
  match cs, hl, xs, hlen with
  | [c0, c1, c2, c3, c4, c5], _, [y0, y1, y2, y3, y4, y5], _ =>
    obtain ⟨v0, e0, f0⟩ := read_flt (show _ = some y0 from hf 0 (by omega))
    obtain ⟨v1, e1, f1⟩ := read_flt (show _ = some y1 from hf 1 (by omega))
    obtain ⟨v2, e2, f2⟩ := read_flt (show _ = some y2 from hf 2 (by omega))
    obtain ⟨v3, e3, f3⟩ := read_flt (show _ = some y3 from hf 3 (by omega))
    obtain ⟨v4, e4, f4⟩ := read_flt (show _ = some y4 from hf 4 (by omega))
    obtain ⟨v5, e5, f5⟩ := read_flt (show _ = some y5 from hf 5 (by omega))
    subst f0 f1 f2 f3 f4 f5
    simp at e0 e1 e2 e3 e4 e5 hx
    obtain ⟨⟨rfl, rfl, rfl, rfl, rfl, rfl⟩, _⟩ := hx
    simp [e0, e1, e2, e3, e4, e5]
theorem name_sin : Tryz.prog.globalNamed "math._sin" = some 3 := by kernel_rfl
theorem name_cos : Tryz.prog.globalNamed "math._cos" = some 2 := by kernel_rfl
theorem type_sin : (Tryz.prog.globals[(3 : Nat)]?).map (·.type) = some 135 := by kernel_rfl
theorem type_cos : (Tryz.prog.globals[(2 : Nat)]?).map (·.type) = some 135 := by kernel_rfl
/-- The tables, from the row's condition (whatever is listed behind them). -/
theorem tab_of_laid {W : World} {l : List (String × DataW Unit)} (h : laidMet Tryz.prog (("math._sin", Rows.laid_math_sin) :: ("math._cos", Rows.laid_math_cos) :: l) W) : Tab W := by
  obtain ⟨ps, ⟨g, t, cs, fuel, p, q, hg, ht, hvar, hd, ⟨g', t', cs', fuel', p', q', hg', ht', hvar', hd', _, _⟩, _⟩, _⟩ := h
  obtain rfl := Option.some.inj (name_sin.symm.trans hg)
  obtain rfl := Option.some.inj (type_sin.symm.trans ht)
  obtain rfl := Option.some.inj (name_cos.symm.trans hg')
  obtain rfl := Option.some.inj (type_cos.symm.trans ht')
  have e1 := read_six hd
  have e2 := read_six hd'
  have c := fun o => World.var?_cell hg hvar o
  have c' := fun o => World.var?_cell hg' hvar' o
  obtain ⟨ls⟩ := cs
  obtain ⟨lc⟩ := cs'
  simp only at e1 e2
  subst e1 e2
  constructor
  · exact c' 0
  · exact c' 1
  · exact c' 2
  · exact c' 3
  · exact c' 4
  · exact c' 5
  · exact c 0
  · exact c 1
  · exact c 2
  · exact c 3
  · exact c 4
  · exact c 5
end
end Go.Proofs.YtcgnhnmigmdalaaGreatDoor
