/- How many sources a keeper of discipline has heard. -/
import Derived.Test.YtdpddidfdifbhaaWalkAgr
import Derived.Test.YtdpddidfdifbhaaWalkCells
import Derived.Deep.Light
set_option linter.unusedVariables false
set_option linter.unusedSimpArgs false
namespace Go.Proofs.Ytdpddidfdifbhaa
open Go.RowKit
/-- How many are true. -/
def trues (l : List Bool) : Nat := l.countP id
theorem trues_len (l : List Bool) : trues l ≤ l.length := List.countP_le_length
theorem trues_yes {l : List Bool} {k : Nat} (h : k < l.length) (hv : l[k] = true) : trues (l.take (k + 1)) = trues (l.take k) + 1 := by
  unfold trues
  rw [List.take_succ_eq_append_getElem h, List.countP_append, hv]
  rfl
theorem trues_no {l : List Bool} {k : Nat} (h : k < l.length) (hv : l[k] = false) : trues (l.take (k + 1)) = trues (l.take k) := by
  unfold trues
  rw [List.take_succ_eq_append_getElem h, List.countP_append, hv]
  rfl
/-- A row of bools that lies in a block. -/
structure BoolRow (w : World) (g : Nat) (H : List Bool) : Prop where
  lt : g < w.heap.size
  cell : ∀ k (h : k < H.length), w.cell? ⟨g, k, none⟩ = some (.bool H[k])
set_option maxHeartbeats 2000000 in
theorem c_heard (b g : Nat) (H : List Bool) (w : World) (h3 : w.cell? ⟨b, 3, none⟩ = some (.slice (some ⟨g, 0, none⟩) H.length H.length)) (hH : BoolRow w g H) (hl : H.length ≤ 40) :
    Calls Try.prog 43 #[.pointer (some ⟨b, 0, none⟩)] w fun e w' => e = .returned (.int .i64 (trues H)) ∧ w = w' := by
  have hgen := sgen; have hgen2 := sgen2; have hgen3 := sgen3; go_enter Try.func43, Try.ntmps43
  go_wp2_with fail
  go_loopg [3, 11] H.length (fun gk x3 j wr => ∃ k : Nat, gk + k = H.length ∧ x3 = .int .i64 (trues (H.take k)) ∧ j = .int .i64 k ∧ wr = w)
  case atStart => exact ⟨0, by omega, rfl, rfl, rfl⟩
  case round =>
    obtain ⟨k, hk, rfl, rfl, rfl⟩ := hrel
    by_cases hkl : k < H.length
    · have hkz : (k : Int) < (H.length : Int) := by omega
      have hc := hH.cell k hkl
      have ht := trues_len (H.take k)
      have ht2 : (H.take k).length ≤ k := by simp; omega
      have r1 : IntKind.i64.wrap ((trues (H.take k) : Int) + 1) = (trues (H.take k) : Int) + 1 := IntWalk.i64_in _ (by omega)
      have r2 : IntKind.i64.wrap ((k : Int) + 1) = (k : Int) + 1 := IntWalk.i64_in _ (by omega)
      obtain ⟨q, hq⟩ : ∃ q, H[k] = q := ⟨_, rfl⟩
      rw [hq] at hc
      cases q
      · have HT := Lib.hid (trues_no hkl hq)
        clear hq
        go_wp2_with fail
        go_roundg (H.length - (k + 1))
        case measure => go_light; omega
        case rel => exact ⟨k + 1, by omega, by rw [HT.out], by go_num, rfl⟩
      · have HT := Lib.hid (trues_yes hkl hq)
        clear hq
        go_wp2_with fail
        go_roundg (H.length - (k + 1))
        case measure => go_light; omega
        case rel => exact ⟨k + 1, by omega, by rw [HT.out]; simp, by go_num, rfl⟩
    · obtain rfl : k = H.length := by omega
      go_wp2_with fail
      go_ret
      refine ⟨?_, rfl⟩
      show Ending.returned (.int .i64 (trues (H.take H.length))) = _
      rw [List.take_length]
end Go.Proofs.Ytdpddidfdifbhaa
