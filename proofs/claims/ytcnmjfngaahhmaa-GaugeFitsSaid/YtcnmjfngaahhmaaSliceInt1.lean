/- What the walks know of a slice of int that came in. -/
import Derived.Test.YtcnmjfngaahhmaaPlainInt1
import Derived.Below
set_option linter.unusedVariables false
set_option linter.unusedSimpArgs false
namespace Go.Proofs.Ytcnmjfngaahhmaa
open Go.RowKit
def IntSlice (w : World) (a : Option Addr) (l : List Int) : Prop := ∀ k (h : k < l.length), ∃ b off, a = some ⟨b, off, none⟩ ∧ b < w.heap.size ∧ w.cell? ⟨b, off + k, none⟩ = some (.int .i64 l[k])
theorem IntSlice.below {B : Nat} {w w' : World} {a : Option Addr} {l : List Int} (h : IntSlice w a l) (hs : w.heap.size ≤ B) (hb : Below B w w') : IntSlice w' a l := by
  intro k hk
  obtain ⟨b, off, h1, h2, c0⟩ := h k hk
  exact ⟨b, off, h1, Nat.lt_of_lt_of_le h2 hb.size, (hb.cell (p := ⟨b, _, none⟩) (Nat.lt_of_lt_of_le h2 hs)).trans c0⟩
end Go.Proofs.Ytcnmjfngaahhmaa
