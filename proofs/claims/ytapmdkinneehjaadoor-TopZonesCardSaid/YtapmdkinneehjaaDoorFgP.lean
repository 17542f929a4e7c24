/- The Lean type of api.FigurePoint. What the walks know of a slice of api.FigurePoint. How a slice of api.FigurePoint that came in reads. Where element k of a slice of api.FigurePoint lies. -/
import Derived.Below
import Derived.Test.YtapmdkinneehjaaDoorOpen0
import Derived.Test.YtapmdkinneehjaaDoorProg
import Derived.WalkKit
set_option linter.unusedVariables false
set_option linter.unusedSimpArgs false
namespace Go.Proofs.YtapmdkinneehjaaDoor
section
structure Fp where
  xn : Int
  xd : Int
  yn : Int
  yd : Int
instance : Inhabited Fp := ⟨⟨0, 0, 0, 0⟩⟩
end
section
open Go.RowKit
def FpSlice (w : World) (a : Option Addr) (l : List Fp) : Prop := ∀ k (h : k < l.length), ∃ b off, a = some ⟨b, off, none⟩ ∧ b < w.heap.size ∧ w.cell? ⟨b, off + k * 4, none⟩ = some (.int .i64 l[k].xn) ∧ w.cell? ⟨b, off + k * 4 + 1, none⟩ = some (.int .i64 l[k].xd) ∧ w.cell? ⟨b, off + k * 4 + 2, none⟩ = some (.int .i64 l[k].yn) ∧ w.cell? ⟨b, off + k * 4 + 3, none⟩ = some (.int .i64 l[k].yd)
theorem FpSlice.below {B : Nat} {w w' : World} {a : Option Addr} {l : List Fp} (h : FpSlice w a l) (hs : w.heap.size ≤ B) (hb : Below B w w') : FpSlice w' a l := by
  intro k hk
  obtain ⟨b, off, h1, h2, c0, c1, c2, c3⟩ := h k hk
  exact ⟨b, off, h1, Nat.lt_of_lt_of_le h2 hb.size, (hb.cell (p := ⟨b, _, none⟩) (Nat.lt_of_lt_of_le h2 hs)).trans c0, (hb.cell (p := ⟨b, _, none⟩) (Nat.lt_of_lt_of_le h2 hs)).trans c1, (hb.cell (p := ⟨b, _, none⟩) (Nat.lt_of_lt_of_le h2 hs)).trans c2, (hb.cell (p := ⟨b, _, none⟩) (Nat.lt_of_lt_of_le h2 hs)).trans c3⟩
end
section
set_option maxRecDepth 100000
open Go.ChangeShapes Go.WideShapes Go.ChangeAt Go.RowKit Go.Deep
section
variable {H : Type} {enc : TypeId × Value → H} {w : World} {base : Nat} {spare : Nat → Bool} {held : Bool} {fuel : Nat} {cs : List Value} {x : DataW H × List MemPlace}
end
end
section
open Go.RowKit
end
end Go.Proofs.YtapmdkinneehjaaDoor
