/- The walk through the law EclipseFinds, joined. -/
import Derived.Test.YtcgnhnmigmdalaaDoorWalkEcl3
set_option linter.unusedVariables false
set_option linter.unusedSimpArgs false
set_option maxRecDepth 100000
namespace Go.Proofs.YtcgnhnmigmdalaaDoor
open Go.RowKit
theorem lat_in {n q : Int} (n0 : -100000 ≤ n) (n1 : n ≤ 100000) (q0 : 0 ≤ q) (q1 : q ≤ 3) {y m : Int} (y0 : (phR n q).lo ≤ y) (y1 : y ≤ (phR n q).hi) (m0 : -8 ≤ m) (m1 : m ≤ 8) :
    eL0 n q * 1048576 ≤ northV y + 2500 * m * 1048576 ∧ northV y + 2500 * m * 1048576 ≤ eH0 n q * 1048576 ∧ eH0 n q - eL0 n q ≤ 66000 := by
  have h := phR_ok n0 n1 q0 q1
  obtain ⟨e1, e2⟩ := ecl_in y0 y1 h.w
  obtain ⟨-, e3⟩ := ecl_wide (Int.le_of_lt h.b) h.w
  have e1' : eL0 n q * 1048576 + 1000000 ≤ northV y - 20000 * 1048576 := e1
  have e2' : northV y + 20000 * 1048576 + 1000000 ≤ eH0 n q * 1048576 := e2
  have e3' : eH0 n q - eL0 n q ≤ 66000 := e3
  generalize northV y = v at *
  omega
theorem walk_EF_ok (n q kk : Int) (w : World) (hT : Tab w) (hq : q = 0 ∨ q = 2) (n0 : -100000 ≤ n) (n1 : n ≤ 100000) (k1 : -9223372036854775808 ≤ kk) (k2 : kk ≤ 9223372036854775807) :
    Calls Tryd.prog 3 #[.int .i64 n, .int .i64 q, .int .i64 kk] w fun e w' => e = .returned (.bool true) ∧ Below w.heap.size w w' := by
  have q0 : 0 ≤ q := by omega
  have q1 : q ≤ 3 := by omega
  obtain ⟨k, a1, a2, a3, a4, a5, a6, x, hO⟩ := eOut_ex q (phR n q).lo (phR n q).hi (eL0 n q) (eH0 n q)
  have HF := Lib.hid (eFnd_ok' n0 n1 hq hO).use
  have HP := Lib.hid (fun w1 (h : Tab w1) => c_pFind_ok n q w1 h n0 n1 q0 q1)
  have ph := phR_ok (n := n) (q := q) n0 n1 q0 q1
  have ha := ph.a
  have hb := ph.b
  have hc := ph.c
  have hw := ph.w
  obtain ⟨b1, b2, b3⟩ := ecl_bd (x0 := (phR n q).lo) (x1 := (phR n q).hi) (by omega) hw
  have B1 : -17000000 ≤ eL0 n q := b1
  have B2 : eL0 n q ≤ eH0 n q := b2
  have B3 : eH0 n q ≤ 17000000 := b3
  have z0 := Int.emod_nonneg kk (show (phR n q).hi - (phR n q).lo + 1 ≠ 0 by omega)
  have z1 := Int.emod_lt_of_pos kk (show 0 < (phR n q).hi - (phR n q).lo + 1 by omega)
  have z2 := Int.emod_nonneg kk (show (17 : Int) ≠ 0 by omega)
  have z3 := Int.emod_lt_of_pos kk (show (0 : Int) < 17 by omega)
  have hin := lat_in n0 n1 q0 q1 (y := (phR n q).lo + kk % ((phR n q).hi - (phR n q).lo + 1)) (m := kk % 17 - 8) (by omega) (by omega) (by omega) (by omega)
  have j0 := inst_bd (ph_inst (n := n) (q := q) n0 n1 q0 q1 (x := (phR n q).lo) (by omega) (by omega))
  have j1 := inst_bd (ph_inst (n := n) (q := q) n0 n1 q0 q1 (x := (phR n q).hi) (by omega) (by omega))
  have jm0 : -300000000000000 ≤ phMid n q - 172800000 := by unfold phMid; omega
  have jm1 : phMid n q + 172800000 ≤ 300000000000000 := by unfold phMid; omega
  have HM := Lib.hid (fun w1 => c_MoonLat ((phR n q).lo + kk % ((phR n q).hi - (phR n q).lo + 1)) (kk % 17 - 8) w1 (by omega) (by omega) (by omega) (by omega))
  exact walk_EF_gen n q kk (phR n q).lo (phR n q).hi (eL0 n q) (eH0 n q) _ k a1 a2 a3 a4 a5 a6 x w hT hq (by omega) (by omega) (by omega) B1 B2 B3 hin.2.2 hin.1 hin.2.1 k1 k2 hO HF HP HM
theorem walk_EclipseFinds (n q k : Int) (w : World) (hT : Tab w) (k1 : -9223372036854775808 ≤ k) (k2 : k ≤ 9223372036854775807) :
    Calls Tryd.prog 3 #[.int .i64 n, .int .i64 q, .int .i64 k] w fun e w' => e = .returned (.bool true) ∧ Below w.heap.size w w' := by
  by_cases hq : q = 0 ∨ q = 2
  · by_cases hn : -100000 ≤ n ∧ n ≤ 100000
    · exact walk_EF_ok n q k w hT hq hn.1 hn.2 k1 k2
    · exact walk_EF_rng n q k w hT hq (by omega)
  · exact walk_EF_arg n q k w hT (fun h => hq (.inl h)) (fun h => hq (.inr h))
end Go.Proofs.YtcgnhnmigmdalaaDoor
