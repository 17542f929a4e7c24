/- The contract of NoticeErr. -/
import Derived.Test.YtapmdkinneehjaaDoorWalkNo2
set_option linter.unusedVariables false
set_option linter.unusedSimpArgs false
namespace Go.Proofs.YtapmdkinneehjaaDoor
open Go.RowKit
/-- The bytes of a string in a block. -/
structure ByAt (w : World) (b : Nat) (T : ByteArray) : Prop where
  lt : b < w.heap.size
  c : ∀ (k : Nat) (c : UInt8), T.data.toList[k]? = some c → w.cell? ⟨b, k, none⟩ = some (.int .u8 (c.toNat : Int))
theorem by_new (w : World) (e : TypeId) (T : ByteArray) (b : Nat) (hb : b = w.heap.size) : ByAt (Go.Lib.bytesWorld w e T) b T := by
  subst hb
  refine ⟨by rw [Go.Lib.bytesWorld_size]; omega, fun k c h => ?_⟩
  have hk : k < T.size := by
    rcases Nat.lt_or_ge k T.data.toList.length with q | q
    · simpa using q
    · rw [List.getElem?_eq_none q] at h; cases h
  rw [Go.Lib.bytesWorld_cell w e T k hk, List.getD, h]
  rfl
end Go.Proofs.YtapmdkinneehjaaDoor
