/- What the walks know of a slice of api.LeapStep that came in. -/
import Derived.Test.YtenmiilndiaopaaPlainLeap
import Derived.Below
set_option linter.unusedVariables false
set_option linter.unusedSimpArgs false
namespace Go.Proofs.Ytenmiilndiaopaa
open Go.RowKit
def LpSlice (w : World) (a : Option Addr) (l : List Lp) : Prop := ∀ k (h : k < l.length), ∃ b off, a = some ⟨b, off, none⟩ ∧ b < w.heap.size ∧ w.cell? ⟨b, off + k * 2, none⟩ = some (.int .i64 l[k].day) ∧ w.cell? ⟨b, off + k * 2 + 1, none⟩ = some (.int .i64 l[k].sh)
theorem LpSlice.below {B : Nat} {w w' : World} {a : Option Addr} {l : List Lp} (h : LpSlice w a l) (hs : w.heap.size ≤ B) (hb : Below B w w') : LpSlice w' a l := by
  intro k hk
  obtain ⟨b, off, h1, h2, c0, c1⟩ := h k hk
  exact ⟨b, off, h1, Nat.lt_of_lt_of_le h2 hb.size, (hb.cell (p := ⟨b, _, none⟩) (Nat.lt_of_lt_of_le h2 hs)).trans c0, (hb.cell (p := ⟨b, _, none⟩) (Nat.lt_of_lt_of_le h2 hs)).trans c1⟩
end Go.Proofs.Ytenmiilndiaopaa
