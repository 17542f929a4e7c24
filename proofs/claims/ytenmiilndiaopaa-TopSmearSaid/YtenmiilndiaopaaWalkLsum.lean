/- Contracts of the small functions of packages leap and line. -/
import Derived.Test.YtenmiilndiaopaaWalkLpc
import Derived.Test.YtenmiilndiaopaaWalkInt
import Derived.Test.YtenmiilndiaopaaPlainLsum
set_option linter.unusedVariables false
set_option linter.unusedSimpArgs false
namespace Go.Proofs.Ytenmiilndiaopaa
open Go.RowKit
set_option maxHeartbeats 1000000 in
theorem c_lsum (a : Option Addr) (cap : Nat) (l : List Lp) (d : Int) (w : World) (hc : l.length ≤ cap) (hv : LpOk l) (hs : LpSlice w a l) :
    Calls Try.prog 25 #[.slice a l.length cap, .int .i64 d] w fun e w' => e = .returned (.int .i64 (lpSum l d)) ∧ Below w.heap.size w w' := by
  have h2 := hv.len
  have hgen := sgen; have hgen2 := sgen2; have hgen3 := sgen3; go_enter Try.func25, Try.ntmps25
  go_wp2_with fail
  go_loopg [5, 10] l.length (fun gk x5 i wr => ∃ k : Nat, gk + k = l.length ∧ i = .int .i64 k ∧ x5 = .int .i64 (lpSum (l.take k) d) ∧ Below w.heap.size w wr)
  case atStart => exact ⟨0, by omega, rfl, rfl, Below.refl _ _⟩
  case round =>
    obtain ⟨k, hk, rfl, rfl, hbel⟩ := hrel
    by_cases hlt : k < l.length
    · obtain ⟨b, off, ha, hb1, c0, c1⟩ := (hs.below (Nat.le_refl _) hbel) k hlt
      have ix1 := @ix_Lp a b off l.length cap k ha hlt
      have hsz := hbel.size
      have hsn := lpSum_snoc l d k hlt
      have hsh := hv.sh k hlt
      obtain ⟨b1, b2⟩ := lpSum_bd hv d k (by omega)
      clear ha
      generalize l[k] = x at *
      generalize lpSum (l.take k) d = n at *
      have HS := Lib.hid hsn
      have h3 : -1 ≤ x.sh := by omega
      have h4 : x.sh ≤ 1 := by omega
      clear hsn hsh
      by_cases hd : x.day < d
      · go_wp2
        go_roundg (l.length - (k + 1))
        case measure => omega
        case rel =>
          refine ⟨k + 1, by omega, by go_num, by rw [HS.out, if_pos hd], ?_⟩
          exact belz
      · go_wp2
        go_roundg (l.length - (k + 1))
        case measure => omega
        case rel =>
          refine ⟨k + 1, by omega, by go_num, by rw [HS.out, if_neg (by omega)], ?_⟩
          exact belz
    · have hkl : k = l.length := by omega
      have e : lpSum (l.take k) d = lpSum l d := by rw [hkl, List.take_of_length_le (Nat.le_refl _)]
      have HE := Lib.hid e
      clear hkl e
      go_wp2
      go_ret
      exact ⟨ret_int HE.out, hbel⟩
def dayB (n : Int) : Bool := decide (-4000000 ≤ n) && decide (n ≤ 4000000)
theorem c_lineIs (n : Int) (w : World) : Calls Try.prog 24 #[.int .i64 n] w fun e w' => e = .returned (.bool (dayB n)) ∧ w = w' := by
  have hgen := sgen; have hgen2 := sgen2; have hgen3 := sgen3; go_enter Try.func24, Try.ntmps24
  go_wp2
  all_goals go_ret
  all_goals exact ⟨ret_bool (by simp [dayB]; first | done | omega), rfl⟩
end Go.Proofs.Ytenmiilndiaopaa
