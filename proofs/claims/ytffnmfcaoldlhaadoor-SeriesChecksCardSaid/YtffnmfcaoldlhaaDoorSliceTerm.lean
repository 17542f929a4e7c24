/- What the walks know of a slice of api.SeriesTerm that came in. -/
import Derived.Test.YtffnmfcaoldlhaaDoorPlainTerm
import Derived.Below
set_option linter.unusedVariables false
set_option linter.unusedSimpArgs false
namespace Go.Proofs.YtffnmfcaoldlhaaDoor
open Go.RowKit
def TmSlice (w : World) (a : Option Addr) (l : List Tm) : Prop := ∀ k (h : k < l.length), ∃ b off, a = some ⟨b, off, none⟩ ∧ b < w.heap.size ∧ w.cell? ⟨b, off + k * 3, none⟩ = some (.int .i64 l[k].amp) ∧ w.cell? ⟨b, off + k * 3 + 1, none⟩ = some (.int .i64 l[k].ph) ∧ w.cell? ⟨b, off + k * 3 + 2, none⟩ = some (.int .i64 l[k].rt)
theorem TmSlice.below {B : Nat} {w w' : World} {a : Option Addr} {l : List Tm} (h : TmSlice w a l) (hs : w.heap.size ≤ B) (hb : Below B w w') : TmSlice w' a l := by
  intro k hk
  obtain ⟨b, off, h1, h2, c0, c1, c2⟩ := h k hk
  exact ⟨b, off, h1, Nat.lt_of_lt_of_le h2 hb.size, (hb.cell (p := ⟨b, _, none⟩) (Nat.lt_of_lt_of_le h2 hs)).trans c0, (hb.cell (p := ⟨b, _, none⟩) (Nat.lt_of_lt_of_le h2 hs)).trans c1, (hb.cell (p := ⟨b, _, none⟩) (Nat.lt_of_lt_of_le h2 hs)).trans c2⟩
end Go.Proofs.YtffnmfcaoldlhaaDoor
