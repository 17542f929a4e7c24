/- The contract of figure.point. -/
import Derived.Test.YtapmdkinneehjaaDoorWalkFr
import Derived.Test.YtapmdkinneehjaaDoorWalkFbx
import Derived.Test.YtapmdkinneehjaaDoorFgQ
set_option linter.unusedVariables false
set_option linter.unusedSimpArgs false
namespace Go.Proofs.YtapmdkinneehjaaDoor
open Go.RowKit
def TxSlice (w : World) (a : Option Addr) (l : List (List UInt8)) : Prop := ∀ k (h : k < l.length), ∃ b off, a = some ⟨b, off, none⟩ ∧ b < w.heap.size ∧ w.cell? ⟨b, off + k, none⟩ = some (.string (strB l[k]))
theorem TxSlice.below {B : Nat} {w w' : World} {a : Option Addr} {l : List (List UInt8)} (h : TxSlice w a l) (hs : w.heap.size ≤ B) (hb : Below B w w') : TxSlice w' a l := by
  intro k hk
  obtain ⟨b, off, h1, h2, c0⟩ := h k hk
  exact ⟨b, off, h1, Nat.lt_of_lt_of_le h2 hb.size, (hb.cell (p := ⟨b, _, none⟩) (Nat.lt_of_lt_of_le h2 hs)).trans c0⟩
theorem ix_Tx {a : Option Addr} {b off len cap k : Nat} (ha : a = some ⟨b, off, none⟩) (hk : k < len) : ∀ w, (Instr.indexAt 65 (.slice a len cap) (.int .i64 k)).run Tryd.prog w = .ok (.pointer (some ⟨b, off + k, none⟩)) w := by
  intro w
  subst ha
  have h1 : (k : Int) < (len : Int) := by omega
  go_simp
/-- What frac.Read answers. -/
noncomputable def frA (w : List UInt8) : Int × Int × Int := match frR w with
  | some p => (p.1, p.2, 0)
  | none => (0, 0, 4)
end Go.Proofs.YtapmdkinneehjaaDoor
