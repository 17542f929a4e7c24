/- Contracts of Digits, NoticeErr, notice.sum and NoticeSum. -/
import Derived.Test.YtapmdkinneehjaaDoorWalkNo
import Derived.Deep.RegionHeld3
import Derived.Deep.DeepCutAuto
import Derived.Lib.SmallJoins
set_option linter.unusedVariables false
set_option linter.unusedSimpArgs false
namespace Go.Proofs.YtapmdkinneehjaaDoor
open Go.RowKit
theorem one_str (w0 : World) (b : Nat) (c : UInt8) (h : w0.cell? ⟨b, 0, none⟩ = some (.int .u8 (c.toNat : Int))) : (convert 41 9 (.slice (some ⟨b, 0, none⟩) 1 1)).run Tryd.prog w0 = .ok (.string ⟨#[c]⟩) w0 := by
  have := run_convert_bytes_back (P := Tryd.prog) w0 41 9 5 ⟨b, 0, none⟩ 1 [c] Tryd.underlying41 Tryd.underlying5 Tryd.underlying9 (by
    intro j hj
    obtain rfl : j = 0 := by simp at hj; omega
    simpa [Addr.add] using h)
  simpa using this
theorem ba_app (a b : List UInt8) : (⟨a.toArray⟩ : ByteArray) ++ ⟨b.toArray⟩ = ⟨(a ++ b).toArray⟩ := by
  apply ByteArray.ext
  simp
theorem dec_small {u : Nat} (h : u < 10) : Go.Lib.decDigits u = [UInt8.ofNat (48 + u)] := by rw [Go.Lib.decDigits, dif_pos h]
theorem dec_big {u : Nat} (h : ¬ u < 10) : Go.Lib.decDigits u = Go.Lib.decDigits (u / 10) ++ [UInt8.ofNat (48 + u % 10)] := by rw [Go.Lib.decDigits, dif_neg h]
theorem digit_c {k : Nat} (h : k < 10) : ((UInt8.ofNat (48 + k)).toNat : Int) = 48 + (k : Int) := by
  rw [UInt8.toNat_ofNat']
  omega
theorem u8_in {n : Int} (h0 : 0 ≤ n) (h1 : n ≤ 255) : IntKind.u8.wrap n = n := by
  rw [IntKind.wrap_u8]; omega
end Go.Proofs.YtapmdkinneehjaaDoor
