/- Where element k of a slice of api.TideTerm lies. -/
import Derived.Test.YtjkhoepohiafeaaDoorProg
import Derived.Test.YtjkhoepohiafeaaDoorWkA
import Derived.WalkKit
set_option linter.unusedVariables false
set_option linter.unusedSimpArgs false
namespace Go.Proofs.YtjkhoepohiafeaaDoor
open Go.RowKit
theorem ix_Td {a : Option Addr} {b off len cap k : Nat} (ha : a = some ⟨b, off, none⟩) (hk : k < len) : ∀ w, (Instr.indexAt 47 (.slice a len cap) (.int .i64 k)).run Tryd.prog w = .ok (.pointer (some ⟨b, off + k * 3, none⟩)) w := by
  intro w
  subst ha
  have h1 : (k : Int) < (len : Int) := by omega
  go_simp
end Go.Proofs.YtjkhoepohiafeaaDoor
