/- Where element k of a slice of int lies. -/
import Derived.Test.YtcnmjfngaahhmaaProg
import Derived.Test.YtcnmjfngaahhmaaSliceInt1
import Derived.WalkKit
set_option linter.unusedVariables false
set_option linter.unusedSimpArgs false
namespace Go.Proofs.Ytcnmjfngaahhmaa
open Go.RowKit
theorem ix_Int {a : Option Addr} {b off len cap k : Nat} (ha : a = some ⟨b, off, none⟩) (hk : k < len) : ∀ w, (Instr.indexAt 23 (.slice a len cap) (.int .i64 k)).run Try.prog w = .ok (.pointer (some ⟨b, off + k, none⟩)) w := by
  intro w
  subst ha
  have h1 : (k : Int) < (len : Int) := by omega
  go_simp
end Go.Proofs.Ytcnmjfngaahhmaa
