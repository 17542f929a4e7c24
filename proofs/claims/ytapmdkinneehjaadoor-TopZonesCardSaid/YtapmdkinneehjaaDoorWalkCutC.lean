/- The contract of strings.Cut at any one byte, for strings of any size. -/
import Derived.Test.YtapmdkinneehjaaDoorWalkNoR
import Derived.Lib.CutLaws
import Derived.Laws.Strings3
set_option linter.unusedVariables false
set_option linter.unusedSimpArgs false
namespace Go.Proofs.YtapmdkinneehjaaDoor
open Go.RowKit
theorem indexB_oneC (c : UInt8) (s : ByteArray) : Go.Lib.indexByte s.data.toList c = Go.Lib.indexB s ⟨#[c]⟩ := by
  show _ = Go.Lib.index s.data.toList [c]
  exact (Go.Lib.index_one _ _).symm
set_option maxHeartbeats 2000000 in
set_option maxRecDepth 100000 in
theorem c_sCutC (c : UInt8) (s : ByteArray) (w : World) (hs : s.size ≤ 9223372036854775800) : Calls Tryd.prog 30 #[.string s, .string ⟨#[c]⟩] w fun e w' => e = .returned (.tuple #[.string ⟨(Go.Lib.cut s.data.toList [c]).1.toArray⟩, .string ⟨(Go.Lib.cut s.data.toList [c]).2.1.toArray⟩, .bool (Go.Lib.cut s.data.toList [c]).2.2]) ∧ ∃ n, w' = w.drewN n := by
  have HI := Lib.hid (fun w1 => Tryd.stringslite_Index_one s c w1)
  rw [indexB_oneC] at HI
  rcases Go.Lib.indexB_cases s ⟨#[c]⟩ with hix | ⟨i, hix, hroom⟩
  · obtain ⟨e1, e2, e3⟩ := Go.Lib.cutB_miss s ⟨#[c]⟩ hix
    rw [show (⟨#[c]⟩ : ByteArray).data.toList = [c] from rfl] at e1 e2 e3
    rw [e1, e2, e3]
    rw [hix] at HI
    clear e1 e2 e3 hix
    have hgen := sgen; have hgen2 := sgen2; have hgen3 := sgen3; go_enter Tryd.func30, Tryd.ntmps30
    go_wp2_with (go_at_call 37; (with_reducible refine (HI.out _).mono ?_); rintro e w' ⟨rfl, rfl⟩)
    go_ret3
    exact ⟨rfl, 0, rfl⟩
  · obtain ⟨e1, e2, e3⟩ := Go.Lib.cutB_hit s ⟨#[c]⟩ i hix
    rw [show (⟨#[c]⟩ : ByteArray).data.toList = [c] from rfl] at e1 e2 e3
    rw [e1, e2, e3]
    rw [hix] at HI
    rw [show (⟨#[c]⟩ : ByteArray).size = 1 from rfl] at hroom ⊢
    have c1 : (0 : Int) ≤ (i : Int) := by omega
    have c2 : (i : Int) ≤ (s.size : Int) := by omega
    have c3 : (0 : Int) ≤ (i : Int) + 1 := by omega
    have c4 : (i : Int) + 1 ≤ (s.size : Int) := by omega
    have V1 : IntKind.i64.wrap ((i : Int) + 1) = (i : Int) + 1 := IntWalk.i64_in _ (by omega)
    clear e1 e2 e3 hix hroom
    have hgen := sgen; have hgen2 := sgen2; have hgen3 := sgen3; go_enter Tryd.func30, Tryd.ntmps30
    go_wp2_with (go_at_call 37; (with_reducible refine (HI.out _).mono ?_); rintro e w' ⟨rfl, rfl⟩)
    go_quiet (fail)
    go_wp2
    go_ret3
    exact ⟨rfl, _, rfl⟩
theorem c_CutC (c : UInt8) (s : ByteArray) (w : World) (hs : s.size ≤ 9223372036854775800) : Calls Tryd.prog 16 #[.string s, .string ⟨#[c]⟩] w fun e w' => e = .returned (.tuple #[.string (strB (Go.Lib.cut s.data.toList [c]).1), .string (strB (Go.Lib.cut s.data.toList [c]).2.1), .bool (Go.Lib.cut s.data.toList [c]).2.2]) ∧ Below w.heap.size w w' := by
  have HC := Lib.hid (fun w1 => c_sCutC c s w1 hs)
  have hgen := sgen; have hgen2 := sgen2; have hgen3 := sgen3; go_enter Tryd.func16, Tryd.ntmps16
  go_wp2_with (go_at_call 30; (with_reducible refine (HC.out _).mono ?_); rintro e w' ⟨rfl, n, rfl⟩)
  go_ret3
  exact ⟨rfl, below_drewN (Below.refl _ _) _⟩
end Go.Proofs.YtapmdkinneehjaaDoor
