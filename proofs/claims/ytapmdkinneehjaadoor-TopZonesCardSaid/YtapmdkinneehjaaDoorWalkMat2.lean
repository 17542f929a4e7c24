/- A slice of slices of int that came in. -/
import Derived.Test.YtapmdkinneehjaaDoorFgI
import Derived.WalkKit
set_option linter.unusedVariables false
set_option linter.unusedSimpArgs false
namespace Go.Proofs.YtapmdkinneehjaaDoor
open Go.RowKit
/-- The rows behind a slice of slices; their lengths and capacities. -/
structure RowAt (w : World) (v : Value) (r : List Int) : Prop where
  ex : ∃ a cap, v = .slice a r.length cap ∧ r.length ≤ cap ∧ IntSlice w a r
def MatSlice (w : World) (a : Option Addr) (L : List (List Int)) : Prop := ∀ k (h : k < L.length), ∃ b off v, a = some ⟨b, off, none⟩ ∧ b < w.heap.size ∧ w.cell? ⟨b, off + k, none⟩ = some v ∧ RowAt w v L[k]
theorem MatSlice.below {B : Nat} {w w' : World} {a : Option Addr} {L : List (List Int)} (h : MatSlice w a L) (hs : w.heap.size ≤ B) (hb : Below B w w') : MatSlice w' a L := by
  intro k hk
  obtain ⟨b, off, v, h1, h2, c0, ⟨a', cap, e, hc, hi⟩⟩ := h k hk
  exact ⟨b, off, v, h1, Nat.lt_of_lt_of_le h2 hb.size, (hb.cell (p := ⟨b, _, none⟩) (Nat.lt_of_lt_of_le h2 hs)).trans c0, ⟨a', cap, e, hc, hi.below hs hb⟩⟩
end Go.Proofs.YtapmdkinneehjaaDoor
