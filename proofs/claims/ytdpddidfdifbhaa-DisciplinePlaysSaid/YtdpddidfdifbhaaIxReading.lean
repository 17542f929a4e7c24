/- Where element k of a slice of api.SourceReading lies. -/
import Derived.Test.YtdpddidfdifbhaaProg
import Derived.Test.YtdpddidfdifbhaaSliceReading
import Derived.WalkKit
set_option linter.unusedVariables false
set_option linter.unusedSimpArgs false
namespace Go.Proofs.Ytdpddidfdifbhaa
open Go.RowKit
theorem ix_Rd {a : Option Addr} {b off len cap k : Nat} (ha : a = some ⟨b, off, none⟩) (hk : k < len) : ∀ w, (Instr.indexAt 67 (.slice a len cap) (.int .i64 k)).run Try.prog w = .ok (.pointer (some ⟨b, off + k * 3, none⟩)) w := by
  intro w
  subst ha
  have h1 : (k : Int) < (len : Int) := by omega
  go_simp
end Go.Proofs.Ytdpddidfdifbhaa
