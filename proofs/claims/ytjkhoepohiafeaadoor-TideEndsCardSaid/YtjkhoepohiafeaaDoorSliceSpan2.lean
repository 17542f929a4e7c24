/- What the walks know of a slice of api.Span that came in. -/
import Derived.Test.YtjkhoepohiafeaaDoorPlainSpan2
import Derived.Below
set_option linter.unusedVariables false
set_option linter.unusedSimpArgs false
namespace Go.Proofs.YtjkhoepohiafeaaDoor
open Go.RowKit
def SpSlice (w : World) (a : Option Addr) (l : List Sp) : Prop := ∀ k (h : k < l.length), ∃ b off, a = some ⟨b, off, none⟩ ∧ b < w.heap.size ∧ w.cell? ⟨b, off + k * 2, none⟩ = some (.int .i64 l[k].lo) ∧ w.cell? ⟨b, off + k * 2 + 1, none⟩ = some (.int .i64 l[k].hi)
theorem SpSlice.below {B : Nat} {w w' : World} {a : Option Addr} {l : List Sp} (h : SpSlice w a l) (hs : w.heap.size ≤ B) (hb : Below B w w') : SpSlice w' a l := by
  intro k hk
  obtain ⟨b, off, h1, h2, c0, c1⟩ := h k hk
  exact ⟨b, off, h1, Nat.lt_of_lt_of_le h2 hb.size, (hb.cell (p := ⟨b, _, none⟩) (Nat.lt_of_lt_of_le h2 hs)).trans c0, (hb.cell (p := ⟨b, _, none⟩) (Nat.lt_of_lt_of_le h2 hs)).trans c1⟩
end Go.Proofs.YtjkhoepohiafeaaDoor
