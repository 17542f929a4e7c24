/- Where element k of a slice of api.Span lies. -/
import Derived.Test.YtjkhoepohiafeaaDoorProg
import Derived.Test.YtjkhoepohiafeaaDoorSliceSpan2
import Derived.WalkKit
set_option linter.unusedVariables false
set_option linter.unusedSimpArgs false
namespace Go.Proofs.YtjkhoepohiafeaaDoor
open Go.RowKit
theorem ix_Sp {a : Option Addr} {b off len cap k : Nat} (ha : a = some ⟨b, off, none⟩) (hk : k < len) : ∀ w, (Instr.indexAt 28 (.slice a len cap) (.int .i64 k)).run Tryd.prog w = .ok (.pointer (some ⟨b, off + k * 2, none⟩)) w := by
  intro w
  subst ha
  have h1 : (k : Int) < (len : Int) := by omega
  go_simp
end Go.Proofs.YtjkhoepohiafeaaDoor
