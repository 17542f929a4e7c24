/- What the walks know of a slice of api.ChronBound that came in. -/
import Derived.Test.YtdpddidfdifbhaaPlainBound
import Derived.Below
set_option linter.unusedVariables false
set_option linter.unusedSimpArgs false
namespace Go.Proofs.Ytdpddidfdifbhaa
open Go.RowKit
def BdSlice (w : World) (a : Option Addr) (l : List Bd) : Prop := ∀ k (h : k < l.length), ∃ b off, a = some ⟨b, off, none⟩ ∧ b < w.heap.size ∧ w.cell? ⟨b, off + k * 4, none⟩ = some (.int .i64 l[k].a) ∧ w.cell? ⟨b, off + k * 4 + 1, none⟩ = some (.int .i64 l[k].b) ∧ w.cell? ⟨b, off + k * 4 + 2, none⟩ = some (.int .i64 l[k].lo) ∧ w.cell? ⟨b, off + k * 4 + 3, none⟩ = some (.int .i64 l[k].hi)
theorem BdSlice.below {B : Nat} {w w' : World} {a : Option Addr} {l : List Bd} (h : BdSlice w a l) (hs : w.heap.size ≤ B) (hb : Below B w w') : BdSlice w' a l := by
  intro k hk
  obtain ⟨b, off, h1, h2, c0, c1, c2, c3⟩ := h k hk
  exact ⟨b, off, h1, Nat.lt_of_lt_of_le h2 hb.size, (hb.cell (p := ⟨b, _, none⟩) (Nat.lt_of_lt_of_le h2 hs)).trans c0, (hb.cell (p := ⟨b, _, none⟩) (Nat.lt_of_lt_of_le h2 hs)).trans c1, (hb.cell (p := ⟨b, _, none⟩) (Nat.lt_of_lt_of_le h2 hs)).trans c2, (hb.cell (p := ⟨b, _, none⟩) (Nat.lt_of_lt_of_le h2 hs)).trans c3⟩
end Go.Proofs.Ytdpddidfdifbhaa
