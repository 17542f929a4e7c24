/- Where element k of a slice of api.ChronBound lies. -/
import Derived.Test.YtdpddidfdifbhaaProg
import Derived.Test.YtdpddidfdifbhaaSliceBound
import Derived.WalkKit
set_option linter.unusedVariables false
set_option linter.unusedSimpArgs false
namespace Go.Proofs.Ytdpddidfdifbhaa
open Go.RowKit
theorem ix_Bd {a : Option Addr} {b off len cap k : Nat} (ha : a = some ⟨b, off, none⟩) (hk : k < len) : ∀ w, (Instr.indexAt 41 (.slice a len cap) (.int .i64 k)).run Try.prog w = .ok (.pointer (some ⟨b, off + k * 4, none⟩)) w := by
  intro w
  subst ha
  have h1 : (k : Int) < (len : Int) := by omega
  go_simp
end Go.Proofs.Ytdpddidfdifbhaa
