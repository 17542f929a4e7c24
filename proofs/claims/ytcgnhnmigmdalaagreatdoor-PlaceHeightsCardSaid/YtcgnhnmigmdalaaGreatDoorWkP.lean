/- The contract of interval.Ratio, where no long division is wanted. The contract of interval.Product. -/
import Derived.Test.YtcgnhnmigmdalaaGreatDoorWkA
import Derived.Test.YtcgnhnmigmdalaaGreatDoorIvA
import Derived.Test.YtcgnhnmigmdalaaGreatDoorShelf
import Derived.Deep.QuietTactic
import Derived.BigQuiet
import Derived.BigGuard
import Derived.Deep.LoopGhost
set_option linter.unusedVariables false
set_option linter.unusedSimpArgs false
namespace Go.Proofs.YtcgnhnmigmdalaaGreatDoor
section
open Go.RowKit
theorem ret_int2r {a b a' b' : Int} (h1 : a = a') (h2 : b = b') : Ending.returned (.tuple #[.int .i64 a, .int .i64 b]) = .returned (.tuple #[.int .i64 a', .int .i64 b']) := by rw [h1, h2]
theorem c_size (a : Int) (w : World) (h1 : -1000000000000000000 ≤ a) (h2 : a ≤ 1000000000000000000) : Calls Tryz.prog 143 #[.int .i64 a] w fun e w' => e = .returned (.int .u64 (absI a)) ∧ w = w' := by
  by_cases h : a < 0
  · have ha := absI_neg h
    have HA := Lib.hid ha
    clear ha
    have hgen := sgen; have hgen2 := sgen2; have hgen3 := sgen3; go_enter Tryz.func143, Tryz.ntmps143
    go_wp2
    go_ret
    exact ⟨ret_int HA.out.symm, rfl⟩
  · have ha := absI_pos h
    have HA := Lib.hid ha
    clear ha
    have hgen := sgen; have hgen2 := sgen2; have hgen3 := sgen3; go_enter Tryz.func143, Tryz.ntmps143
    go_wp2
    go_ret
    exact ⟨ret_int HA.out.symm, rfl⟩
theorem c_div64_lor (lo y : Int) (w : World) (h1 : 0 ≤ lo) (h2 : lo ≤ 18446744073709551615) (h3 : 1 ≤ y) (h4 : y ≤ 1000000000000000000) :
    Calls Tryz.prog 144 #[.int .u64 0, .int .u64 lo, .int .u64 y] w fun e w' => e = .returned (.tuple #[.int .u64 (lo / y), .int .u64 (lo % y)]) ∧ ∃ n, w' = w.drewN n := by
  have b0 : (y == 0) = false := by simp; omega
  have hgen := sgen; have hgen2 := sgen2; have hgen3 := sgen3; go_enter Tryz.func144, Tryz.ntmps144
  go_wp2
  go_quiet (fail)
  go_wp2
  go_ret2
  exact ⟨rfl, _, rfl⟩
theorem c_mul64r (x y : Int) (w : World) (x0 : 0 ≤ x) (x1 : x ≤ 1000000000000000000) (y0 : 0 ≤ y) (y1 : y ≤ 1000000000000000000) :
    Calls Tryz.prog 142 #[.int .u64 x, .int .u64 y] w fun e w' => e = .returned (.tuple #[.int .u64 (x * y / 18446744073709551616), .int .u64 (x * y % 18446744073709551616)]) ∧ w = w' := by
  obtain ⟨p, rfl⟩ : ∃ p : Nat, x = p := ⟨x.toNat, by omega⟩
  obtain ⟨q, rfl⟩ : ∃ q : Nat, y = q := ⟨y.toNat, by omega⟩
  refine (Tryz.bits_Mul64 p q (by omega) (by omega) w).mono ?_
  rintro e w' ⟨he, hw⟩
  refine ⟨?_, hw.symm⟩
  rw [he]
  congr 1
set_option maxRecDepth 100000 in
set_option maxHeartbeats 2000000 in
theorem c_ratio_hi (a b d : Int) (w : World) (a1 : -1000000000000000000 ≤ a) (a2 : a ≤ 1000000000000000000) (b1 : -1000000000000000000 ≤ b) (b2 : b ≤ 1000000000000000000) (d1 : 1 ≤ d) (d2 : d ≤ 1000000000000000000) (hbig : d * 18446744073709551616 ≤ absI a * absI b) :
    Calls Tryz.prog 125 #[.int .i64 a, .int .i64 b, .int .i64 d] w fun e w' => e = .returned (.tuple #[.int .i64 (ratLo a b d), .int .i64 (ratHi a b d)]) ∧ ∃ n, w' = w.drewN n := by
  have HM := Lib.hid (fun w1 => c_mul64r (absI a) (absI b) w1 (absI_nn a) (absI_bd a1 a2) (absI_nn b) (absI_bd b1 b2))
  have hq : LIM ≤ (absI a * absI b) / d := by
    rw [Int.le_ediv_iff_mul_le (by omega)]
    unfold LIM
    have : 1000000000000000001 * d ≤ d * 18446744073709551616 := by omega
    omega
  have hlo : qDn (absI a * absI b) d = LIM := by unfold qDn; rw [if_pos hq]
  have hup : qUp (absI a * absI b) d = LIM := by unfold qUp; rw [if_pos hq]
  have hP : 0 ≤ absI a * absI b := Int.mul_nonneg (absI_nn a) (absI_nn b)
  have hP2 : absI a * absI b ≤ 1000000000000000000 * 1000000000000000000 := by
    refine Int.le_trans (Int.mul_le_mul_of_nonneg_left (absI_bd b1 b2) (absI_nn a)) (Int.mul_le_mul_of_nonneg_right (absI_bd a1 a2) (by omega))
  have hh1 : d ≤ absI a * absI b / 18446744073709551616 := by rw [Int.le_ediv_iff_mul_le (by omega)]; exact hbig
  have hh2 : absI a * absI b / 18446744073709551616 ≤ 1000000000000000000 := by
    have h := Int.ediv_le_ediv (c := 18446744073709551616) (by omega) hP2
    omega
  have hl1 := Int.emod_nonneg (absI a * absI b) (show (18446744073709551616 : Int) ≠ 0 by omega)
  have hl2 := Int.emod_lt_of_pos (absI a * absI b) (show (0 : Int) < 18446744073709551616 by omega)
  unfold LIM at hlo hup
  have HLO := Lib.hid hlo
  have HUP := Lib.hid hup
  generalize absI a * absI b / 18446744073709551616 = H at *
  generalize absI a * absI b % 18446744073709551616 = L at *
  clear hlo hup hq hP hP2 hbig
  by_cases ha : a < 0 <;> by_cases hb : b < 0
  · have da : decide (a < 0) = true := decide_eq_true ha
    have db : decide (b < 0) = true := decide_eq_true hb
    have hn : negB a b = false := by unfold negB; rw [da, db]; rfl
    have HL := Lib.hid (show ratLo a b d = 1000000000000000001 by rw [ratLo_pos hn, HLO.out])
    have HH := Lib.hid (show ratHi a b d = 1000000000000000001 by rw [ratHi_pos hn, HUP.out])
    clear hn
    have hgen := sgen; have hgen2 := sgen2; have hgen3 := sgen3; go_enter Tryz.func125, Tryz.ntmps125
    go_wp2_with (first | (go_at_call 143; refine (c_size _ _ (by assumption) (by assumption)).mono ?_; rintro e w' ⟨rfl, rfl⟩) | (go_at_call 142; refine (HM.out _).mono ?_; rintro e w' ⟨rfl, rfl⟩) | (go_at_call 144; refine (c_div64_lor _ _ _ (by omega) (by omega) (by omega) (by omega)).mono ?_; rintro e w' ⟨rfl, nn, rfl⟩))
    go_ret2
    exact ⟨ret_int2r HL.out.symm HH.out.symm, 0, rfl⟩
  · have da : decide (a < 0) = true := decide_eq_true ha
    have db : decide (b < 0) = false := decide_eq_false hb
    have hn : negB a b = true := by unfold negB; rw [da, db]; rfl
    have HL := Lib.hid (show ratLo a b d = -1000000000000000001 by rw [ratLo_neg hn, HUP.out])
    have HH := Lib.hid (show ratHi a b d = -1000000000000000001 by rw [ratHi_neg hn, HLO.out])
    clear hn
    have hgen := sgen; have hgen2 := sgen2; have hgen3 := sgen3; go_enter Tryz.func125, Tryz.ntmps125
    go_wp2_with (first | (go_at_call 143; refine (c_size _ _ (by assumption) (by assumption)).mono ?_; rintro e w' ⟨rfl, rfl⟩) | (go_at_call 142; refine (HM.out _).mono ?_; rintro e w' ⟨rfl, rfl⟩) | (go_at_call 144; refine (c_div64_lor _ _ _ (by omega) (by omega) (by omega) (by omega)).mono ?_; rintro e w' ⟨rfl, nn, rfl⟩))
    go_ret2
    exact ⟨ret_int2r HL.out.symm HH.out.symm, 0, rfl⟩
  · have da : decide (a < 0) = false := decide_eq_false ha
    have db : decide (b < 0) = true := decide_eq_true hb
    have hn : negB a b = true := by unfold negB; rw [da, db]; rfl
    have HL := Lib.hid (show ratLo a b d = -1000000000000000001 by rw [ratLo_neg hn, HUP.out])
    have HH := Lib.hid (show ratHi a b d = -1000000000000000001 by rw [ratHi_neg hn, HLO.out])
    clear hn
    have hgen := sgen; have hgen2 := sgen2; have hgen3 := sgen3; go_enter Tryz.func125, Tryz.ntmps125
    go_wp2_with (first | (go_at_call 143; refine (c_size _ _ (by assumption) (by assumption)).mono ?_; rintro e w' ⟨rfl, rfl⟩) | (go_at_call 142; refine (HM.out _).mono ?_; rintro e w' ⟨rfl, rfl⟩) | (go_at_call 144; refine (c_div64_lor _ _ _ (by omega) (by omega) (by omega) (by omega)).mono ?_; rintro e w' ⟨rfl, nn, rfl⟩))
    go_ret2
    exact ⟨ret_int2r HL.out.symm HH.out.symm, 0, rfl⟩
  · have da : decide (a < 0) = false := decide_eq_false ha
    have db : decide (b < 0) = false := decide_eq_false hb
    have hn : negB a b = false := by unfold negB; rw [da, db]; rfl
    have HL := Lib.hid (show ratLo a b d = 1000000000000000001 by rw [ratLo_pos hn, HLO.out])
    have HH := Lib.hid (show ratHi a b d = 1000000000000000001 by rw [ratHi_pos hn, HUP.out])
    clear hn
    have hgen := sgen; have hgen2 := sgen2; have hgen3 := sgen3; go_enter Tryz.func125, Tryz.ntmps125
    go_wp2_with (first | (go_at_call 143; refine (c_size _ _ (by assumption) (by assumption)).mono ?_; rintro e w' ⟨rfl, rfl⟩) | (go_at_call 142; refine (HM.out _).mono ?_; rintro e w' ⟨rfl, rfl⟩) | (go_at_call 144; refine (c_div64_lor _ _ _ (by omega) (by omega) (by omega) (by omega)).mono ?_; rintro e w' ⟨rfl, nn, rfl⟩))
    go_ret2
    exact ⟨ret_int2r HL.out.symm HH.out.symm, 0, rfl⟩
set_option maxRecDepth 100000 in
set_option maxHeartbeats 4000000 in
theorem c_ratio_lo (a b d : Int) (w : World) (a1 : -1000000000000000000 ≤ a) (a2 : a ≤ 1000000000000000000) (b1 : -1000000000000000000 ≤ b) (b2 : b ≤ 1000000000000000000) (d1 : 1 ≤ d) (d2 : d ≤ 1000000000000000000) (hsm : absI a * absI b < 18446744073709551616) :
    Calls Tryz.prog 125 #[.int .i64 a, .int .i64 b, .int .i64 d] w fun e w' => e = .returned (.tuple #[.int .i64 (ratLo a b d), .int .i64 (ratHi a b d)]) ∧ ∃ n, w' = w.drewN n := by
  have hM := fun w1 => c_mul64r (absI a) (absI b) w1 (absI_nn a) (absI_bd a1 a2) (absI_nn b) (absI_bd b1 b2)
  have hP : 0 ≤ absI a * absI b := Int.mul_nonneg (absI_nn a) (absI_nn b)
  rw [Int.ediv_eq_zero_of_lt hP hsm, Int.emod_eq_of_lt hP hsm] at hM
  have HM := Lib.hid hM
  clear hM
  have HL0 : Hid (∀ x, ratLo a b d = x → ratLo a b d = x) := Lib.hid fun _ h => h
  have hdn : qDn (absI a * absI b) d = if 1000000000000000001 ≤ absI a * absI b / d then 1000000000000000001 else absI a * absI b / d := rfl
  have hup : qUp (absI a * absI b) d = if 1000000000000000001 ≤ absI a * absI b / d then 1000000000000000001 else if 0 < absI a * absI b % d then absI a * absI b / d + 1 else absI a * absI b / d := rfl
  have hr1 := Int.emod_nonneg (absI a * absI b) (show d ≠ 0 by omega)
  have hr2 := Int.emod_lt_of_pos (absI a * absI b) (show (0 : Int) < d by omega)
  have hq1 := Int.ediv_nonneg hP (show 0 ≤ d by omega)
  have hq2 : absI a * absI b / d ≤ 18446744073709551615 := by
    have := Int.ediv_le_self d hP
    omega
  by_cases c1 : 1000000000000000001 ≤ absI a * absI b / d
  · rw [if_pos c1] at hdn hup
    have HLO := Lib.hid hdn
    have HUP := Lib.hid hup
    clear hdn hup
    by_cases ha : a < 0 <;> by_cases hb : b < 0
    · have da : decide (a < 0) = true := decide_eq_true ha
      have db : decide (b < 0) = true := decide_eq_true hb
      have hn : negB a b = false := by unfold negB; rw [da, db]; rfl
      have HL := Lib.hid (show ratLo a b d = 1000000000000000001 by rw [ratLo_pos hn, HLO.out])
      have HH := Lib.hid (show ratHi a b d = 1000000000000000001 by rw [ratHi_pos hn, HUP.out])
      clear hn
      have hgen := sgen; have hgen2 := sgen2; have hgen3 := sgen3; go_enter Tryz.func125, Tryz.ntmps125
      go_wp2_with (first | (go_at_call 143; refine (c_size _ _ (by assumption) (by assumption)).mono ?_; rintro e w' ⟨rfl, rfl⟩) | (go_at_call 142; refine (HM.out _).mono ?_; rintro e w' ⟨rfl, rfl⟩) | (go_at_call 144; refine (c_div64_lor _ _ _ (by omega) (by omega) (by omega) (by omega)).mono ?_; rintro e w' ⟨rfl, nn, rfl⟩))
      go_ret2
      exact ⟨ret_int2r HL.out.symm HH.out.symm, _, rfl⟩
    · have da : decide (a < 0) = true := decide_eq_true ha
      have db : decide (b < 0) = false := decide_eq_false hb
      have hn : negB a b = true := by unfold negB; rw [da, db]; rfl
      have HL := Lib.hid (show ratLo a b d = -1000000000000000001 by rw [ratLo_neg hn, HUP.out])
      have HH := Lib.hid (show ratHi a b d = -1000000000000000001 by rw [ratHi_neg hn, HLO.out])
      clear hn
      have hgen := sgen; have hgen2 := sgen2; have hgen3 := sgen3; go_enter Tryz.func125, Tryz.ntmps125
      go_wp2_with (first | (go_at_call 143; refine (c_size _ _ (by assumption) (by assumption)).mono ?_; rintro e w' ⟨rfl, rfl⟩) | (go_at_call 142; refine (HM.out _).mono ?_; rintro e w' ⟨rfl, rfl⟩) | (go_at_call 144; refine (c_div64_lor _ _ _ (by omega) (by omega) (by omega) (by omega)).mono ?_; rintro e w' ⟨rfl, nn, rfl⟩))
      go_ret2
      exact ⟨ret_int2r HL.out.symm HH.out.symm, _, rfl⟩
    · have da : decide (a < 0) = false := decide_eq_false ha
      have db : decide (b < 0) = true := decide_eq_true hb
      have hn : negB a b = true := by unfold negB; rw [da, db]; rfl
      have HL := Lib.hid (show ratLo a b d = -1000000000000000001 by rw [ratLo_neg hn, HUP.out])
      have HH := Lib.hid (show ratHi a b d = -1000000000000000001 by rw [ratHi_neg hn, HLO.out])
      clear hn
      have hgen := sgen; have hgen2 := sgen2; have hgen3 := sgen3; go_enter Tryz.func125, Tryz.ntmps125
      go_wp2_with (first | (go_at_call 143; refine (c_size _ _ (by assumption) (by assumption)).mono ?_; rintro e w' ⟨rfl, rfl⟩) | (go_at_call 142; refine (HM.out _).mono ?_; rintro e w' ⟨rfl, rfl⟩) | (go_at_call 144; refine (c_div64_lor _ _ _ (by omega) (by omega) (by omega) (by omega)).mono ?_; rintro e w' ⟨rfl, nn, rfl⟩))
      go_ret2
      exact ⟨ret_int2r HL.out.symm HH.out.symm, _, rfl⟩
    · have da : decide (a < 0) = false := decide_eq_false ha
      have db : decide (b < 0) = false := decide_eq_false hb
      have hn : negB a b = false := by unfold negB; rw [da, db]; rfl
      have HL := Lib.hid (show ratLo a b d = 1000000000000000001 by rw [ratLo_pos hn, HLO.out])
      have HH := Lib.hid (show ratHi a b d = 1000000000000000001 by rw [ratHi_pos hn, HUP.out])
      clear hn
      have hgen := sgen; have hgen2 := sgen2; have hgen3 := sgen3; go_enter Tryz.func125, Tryz.ntmps125
      go_wp2_with (first | (go_at_call 143; refine (c_size _ _ (by assumption) (by assumption)).mono ?_; rintro e w' ⟨rfl, rfl⟩) | (go_at_call 142; refine (HM.out _).mono ?_; rintro e w' ⟨rfl, rfl⟩) | (go_at_call 144; refine (c_div64_lor _ _ _ (by omega) (by omega) (by omega) (by omega)).mono ?_; rintro e w' ⟨rfl, nn, rfl⟩))
      go_ret2
      exact ⟨ret_int2r HL.out.symm HH.out.symm, _, rfl⟩
  · rw [if_neg c1] at hdn hup
    have c1' : absI a * absI b / d < 1000000000000000001 := by omega
    by_cases c2 : 0 < absI a * absI b % d
    · rw [if_pos c2] at hup
      have HLO := Lib.hid hdn
      have HUP := Lib.hid hup
      clear hdn hup
      by_cases ha : a < 0 <;> by_cases hb : b < 0
      · have da : decide (a < 0) = true := decide_eq_true ha
        have db : decide (b < 0) = true := decide_eq_true hb
        have hn : negB a b = false := by unfold negB; rw [da, db]; rfl
        have HL := Lib.hid (show ratLo a b d = (absI a * absI b / d) by rw [ratLo_pos hn, HLO.out])
        have HH := Lib.hid (show ratHi a b d = (absI a * absI b / d + 1) by rw [ratHi_pos hn, HUP.out])
        clear hn
        have hgen := sgen; have hgen2 := sgen2; have hgen3 := sgen3; go_enter Tryz.func125, Tryz.ntmps125
        go_wp2_with (first | (go_at_call 143; refine (c_size _ _ (by assumption) (by assumption)).mono ?_; rintro e w' ⟨rfl, rfl⟩) | (go_at_call 142; refine (HM.out _).mono ?_; rintro e w' ⟨rfl, rfl⟩) | (go_at_call 144; refine (c_div64_lor _ _ _ (by omega) (by omega) (by omega) (by omega)).mono ?_; rintro e w' ⟨rfl, nn, rfl⟩))
        go_ret2
        exact ⟨ret_int2r HL.out.symm HH.out.symm, _, rfl⟩
      · have da : decide (a < 0) = true := decide_eq_true ha
        have db : decide (b < 0) = false := decide_eq_false hb
        have hn : negB a b = true := by unfold negB; rw [da, db]; rfl
        have HL := Lib.hid (show ratLo a b d = -(absI a * absI b / d + 1) by rw [ratLo_neg hn, HUP.out])
        have HH := Lib.hid (show ratHi a b d = -(absI a * absI b / d) by rw [ratHi_neg hn, HLO.out])
        clear hn
        have hgen := sgen; have hgen2 := sgen2; have hgen3 := sgen3; go_enter Tryz.func125, Tryz.ntmps125
        go_wp2_with (first | (go_at_call 143; refine (c_size _ _ (by assumption) (by assumption)).mono ?_; rintro e w' ⟨rfl, rfl⟩) | (go_at_call 142; refine (HM.out _).mono ?_; rintro e w' ⟨rfl, rfl⟩) | (go_at_call 144; refine (c_div64_lor _ _ _ (by omega) (by omega) (by omega) (by omega)).mono ?_; rintro e w' ⟨rfl, nn, rfl⟩))
        go_ret2
        exact ⟨ret_int2r HL.out.symm HH.out.symm, _, rfl⟩
      · have da : decide (a < 0) = false := decide_eq_false ha
        have db : decide (b < 0) = true := decide_eq_true hb
        have hn : negB a b = true := by unfold negB; rw [da, db]; rfl
        have HL := Lib.hid (show ratLo a b d = -(absI a * absI b / d + 1) by rw [ratLo_neg hn, HUP.out])
        have HH := Lib.hid (show ratHi a b d = -(absI a * absI b / d) by rw [ratHi_neg hn, HLO.out])
        clear hn
        have hgen := sgen; have hgen2 := sgen2; have hgen3 := sgen3; go_enter Tryz.func125, Tryz.ntmps125
        go_wp2_with (first | (go_at_call 143; refine (c_size _ _ (by assumption) (by assumption)).mono ?_; rintro e w' ⟨rfl, rfl⟩) | (go_at_call 142; refine (HM.out _).mono ?_; rintro e w' ⟨rfl, rfl⟩) | (go_at_call 144; refine (c_div64_lor _ _ _ (by omega) (by omega) (by omega) (by omega)).mono ?_; rintro e w' ⟨rfl, nn, rfl⟩))
        go_ret2
        exact ⟨ret_int2r HL.out.symm HH.out.symm, _, rfl⟩
      · have da : decide (a < 0) = false := decide_eq_false ha
        have db : decide (b < 0) = false := decide_eq_false hb
        have hn : negB a b = false := by unfold negB; rw [da, db]; rfl
        have HL := Lib.hid (show ratLo a b d = (absI a * absI b / d) by rw [ratLo_pos hn, HLO.out])
        have HH := Lib.hid (show ratHi a b d = (absI a * absI b / d + 1) by rw [ratHi_pos hn, HUP.out])
        clear hn
        have hgen := sgen; have hgen2 := sgen2; have hgen3 := sgen3; go_enter Tryz.func125, Tryz.ntmps125
        go_wp2_with (first | (go_at_call 143; refine (c_size _ _ (by assumption) (by assumption)).mono ?_; rintro e w' ⟨rfl, rfl⟩) | (go_at_call 142; refine (HM.out _).mono ?_; rintro e w' ⟨rfl, rfl⟩) | (go_at_call 144; refine (c_div64_lor _ _ _ (by omega) (by omega) (by omega) (by omega)).mono ?_; rintro e w' ⟨rfl, nn, rfl⟩))
        go_ret2
        exact ⟨ret_int2r HL.out.symm HH.out.symm, _, rfl⟩
    · rw [if_neg c2] at hup
      have HLO := Lib.hid hdn
      have HUP := Lib.hid hup
      clear hdn hup
      by_cases ha : a < 0 <;> by_cases hb : b < 0
      · have da : decide (a < 0) = true := decide_eq_true ha
        have db : decide (b < 0) = true := decide_eq_true hb
        have hn : negB a b = false := by unfold negB; rw [da, db]; rfl
        have HL := Lib.hid (show ratLo a b d = (absI a * absI b / d) by rw [ratLo_pos hn, HLO.out])
        have HH := Lib.hid (show ratHi a b d = (absI a * absI b / d) by rw [ratHi_pos hn, HUP.out])
        clear hn
        have hgen := sgen; have hgen2 := sgen2; have hgen3 := sgen3; go_enter Tryz.func125, Tryz.ntmps125
        go_wp2_with (first | (go_at_call 143; refine (c_size _ _ (by assumption) (by assumption)).mono ?_; rintro e w' ⟨rfl, rfl⟩) | (go_at_call 142; refine (HM.out _).mono ?_; rintro e w' ⟨rfl, rfl⟩) | (go_at_call 144; refine (c_div64_lor _ _ _ (by omega) (by omega) (by omega) (by omega)).mono ?_; rintro e w' ⟨rfl, nn, rfl⟩))
        go_ret2
        exact ⟨ret_int2r HL.out.symm HH.out.symm, _, rfl⟩
      · have da : decide (a < 0) = true := decide_eq_true ha
        have db : decide (b < 0) = false := decide_eq_false hb
        have hn : negB a b = true := by unfold negB; rw [da, db]; rfl
        have HL := Lib.hid (show ratLo a b d = -(absI a * absI b / d) by rw [ratLo_neg hn, HUP.out])
        have HH := Lib.hid (show ratHi a b d = -(absI a * absI b / d) by rw [ratHi_neg hn, HLO.out])
        clear hn
        have hgen := sgen; have hgen2 := sgen2; have hgen3 := sgen3; go_enter Tryz.func125, Tryz.ntmps125
        go_wp2_with (first | (go_at_call 143; refine (c_size _ _ (by assumption) (by assumption)).mono ?_; rintro e w' ⟨rfl, rfl⟩) | (go_at_call 142; refine (HM.out _).mono ?_; rintro e w' ⟨rfl, rfl⟩) | (go_at_call 144; refine (c_div64_lor _ _ _ (by omega) (by omega) (by omega) (by omega)).mono ?_; rintro e w' ⟨rfl, nn, rfl⟩))
        go_ret2
        exact ⟨ret_int2r HL.out.symm HH.out.symm, _, rfl⟩
      · have da : decide (a < 0) = false := decide_eq_false ha
        have db : decide (b < 0) = true := decide_eq_true hb
        have hn : negB a b = true := by unfold negB; rw [da, db]; rfl
        have HL := Lib.hid (show ratLo a b d = -(absI a * absI b / d) by rw [ratLo_neg hn, HUP.out])
        have HH := Lib.hid (show ratHi a b d = -(absI a * absI b / d) by rw [ratHi_neg hn, HLO.out])
        clear hn
        have hgen := sgen; have hgen2 := sgen2; have hgen3 := sgen3; go_enter Tryz.func125, Tryz.ntmps125
        go_wp2_with (first | (go_at_call 143; refine (c_size _ _ (by assumption) (by assumption)).mono ?_; rintro e w' ⟨rfl, rfl⟩) | (go_at_call 142; refine (HM.out _).mono ?_; rintro e w' ⟨rfl, rfl⟩) | (go_at_call 144; refine (c_div64_lor _ _ _ (by omega) (by omega) (by omega) (by omega)).mono ?_; rintro e w' ⟨rfl, nn, rfl⟩))
        go_ret2
        exact ⟨ret_int2r HL.out.symm HH.out.symm, _, rfl⟩
      · have da : decide (a < 0) = false := decide_eq_false ha
        have db : decide (b < 0) = false := decide_eq_false hb
        have hn : negB a b = false := by unfold negB; rw [da, db]; rfl
        have HL := Lib.hid (show ratLo a b d = (absI a * absI b / d) by rw [ratLo_pos hn, HLO.out])
        have HH := Lib.hid (show ratHi a b d = (absI a * absI b / d) by rw [ratHi_pos hn, HUP.out])
        clear hn
        have hgen := sgen; have hgen2 := sgen2; have hgen3 := sgen3; go_enter Tryz.func125, Tryz.ntmps125
        go_wp2_with (first | (go_at_call 143; refine (c_size _ _ (by assumption) (by assumption)).mono ?_; rintro e w' ⟨rfl, rfl⟩) | (go_at_call 142; refine (HM.out _).mono ?_; rintro e w' ⟨rfl, rfl⟩) | (go_at_call 144; refine (c_div64_lor _ _ _ (by omega) (by omega) (by omega) (by omega)).mono ?_; rintro e w' ⟨rfl, nn, rfl⟩))
        go_ret2
        exact ⟨ret_int2r HL.out.symm HH.out.symm, _, rfl⟩
end
section
open Go.RowKit
def RatOk (a b d : Int) : Prop := absI a * absI b < 18446744073709551616 ∨ d * 18446744073709551616 ≤ absI a * absI b
theorem c_ratio (a b d : Int) (w : World) (a1 : -1000000000000000000 ≤ a) (a2 : a ≤ 1000000000000000000) (b1 : -1000000000000000000 ≤ b) (b2 : b ≤ 1000000000000000000) (d1 : 1 ≤ d) (d2 : d ≤ 1000000000000000000) (hs : RatOk a b d) :
    Calls Tryz.prog 125 #[.int .i64 a, .int .i64 b, .int .i64 d] w fun e w' => e = .returned (.tuple #[.int .i64 (ratLo a b d), .int .i64 (ratHi a b d)]) ∧ ∃ n, w' = w.drewN n := by
  rcases hs with h | h
  · exact c_ratio_lo a b d w a1 a2 b1 b2 d1 d2 h
  · exact c_ratio_hi a b d w a1 a2 b1 b2 d1 d2 h
theorem ret_agg {a b a' b' : Int} (h1 : a = a') (h2 : b = b') : Ending.returned (.agg #[.int .i64 a, .int .i64 b]) = .returned (.agg #[.int .i64 a', .int .i64 b']) := by rw [h1, h2]
/-- The least and the greatest of four quotients. -/
def pLo (al ah bl bh d : Int) : Int := min (min (min (ratLo al bl d) (ratLo al bh d)) (ratLo ah bl d)) (ratLo ah bh d)
def pHi (al ah bl bh d : Int) : Int := max (max (max (ratHi al bl d) (ratHi al bh d)) (ratHi ah bl d)) (ratHi ah bh d)
set_option maxRecDepth 100000 in
set_option maxHeartbeats 4000000 in
theorem c_product (al ah bl bh d : Int) (w : World) (a1 : -1000000000000000000 ≤ al) (a2 : al ≤ 1000000000000000000) (a3 : -1000000000000000000 ≤ ah) (a4 : ah ≤ 1000000000000000000) (b1 : -1000000000000000000 ≤ bl) (b2 : bl ≤ 1000000000000000000) (b3 : -1000000000000000000 ≤ bh) (b4 : bh ≤ 1000000000000000000) (d1 : 1 ≤ d) (d2 : d ≤ 1000000000000000000)
    (s0 : RatOk al bl d) (s1 : RatOk al bh d) (s2 : RatOk ah bl d) (s3 : RatOk ah bh d) :
    Calls Tryz.prog 103 #[.agg #[.int .i64 al, .int .i64 ah], .agg #[.int .i64 bl, .int .i64 bh], .int .i64 d] w fun e w' => e = .returned (.agg #[.int .i64 (pLo al ah bl bh d), .int .i64 (pHi al ah bl bh d)]) ∧ Below w.heap.size w w' := by
  have R0 := Lib.hid (fun w1 => c_ratio al bl d w1 a1 a2 b1 b2 d1 d2 s0)
  have R1 := Lib.hid (fun w1 => c_ratio al bh d w1 a1 a2 b3 b4 d1 d2 s1)
  have R2 := Lib.hid (fun w1 => c_ratio ah bl d w1 a3 a4 b1 b2 d1 d2 s2)
  have R3 := Lib.hid (fun w1 => c_ratio ah bh d w1 a3 a4 b3 b4 d1 d2 s3)
  have HP := Lib.hid (show pLo al ah bl bh d = min (min (min (ratLo al bl d) (ratLo al bh d)) (ratLo ah bl d)) (ratLo ah bh d) from rfl)
  have HQ := Lib.hid (show pHi al ah bl bh d = max (max (max (ratHi al bl d) (ratHi al bh d)) (ratHi ah bl d)) (ratHi ah bh d) from rfl)
  clear s0 s1 s2 s3
  generalize ratLo al bl d = l0 at *
  generalize ratLo al bh d = l1 at *
  generalize ratLo ah bl d = l2 at *
  generalize ratLo ah bh d = l3 at *
  generalize ratHi al bl d = h0 at *
  generalize ratHi al bh d = h1 at *
  generalize ratHi ah bl d = h2 at *
  generalize ratHi ah bh d = h3 at *
  have i0 : ∀ w, (Instr.index 116 (.agg #[.int .i64 al, .int .i64 bl, .int .i64 al, .int .i64 bh, .int .i64 ah, .int .i64 bl, .int .i64 ah, .int .i64 bh]) (.int .i64 0)).run Tryz.prog w = .ok (.agg #[.int .i64 al, .int .i64 bl]) w := fun _ => by kernel_rfl
  have i1 : ∀ w, (Instr.index 116 (.agg #[.int .i64 al, .int .i64 bl, .int .i64 al, .int .i64 bh, .int .i64 ah, .int .i64 bl, .int .i64 ah, .int .i64 bh]) (.int .i64 1)).run Tryz.prog w = .ok (.agg #[.int .i64 al, .int .i64 bh]) w := fun _ => by kernel_rfl
  have i2 : ∀ w, (Instr.index 116 (.agg #[.int .i64 al, .int .i64 bl, .int .i64 al, .int .i64 bh, .int .i64 ah, .int .i64 bl, .int .i64 ah, .int .i64 bh]) (.int .i64 2)).run Tryz.prog w = .ok (.agg #[.int .i64 ah, .int .i64 bl]) w := fun _ => by kernel_rfl
  have i3 : ∀ w, (Instr.index 116 (.agg #[.int .i64 al, .int .i64 bl, .int .i64 al, .int .i64 bh, .int .i64 ah, .int .i64 bl, .int .i64 ah, .int .i64 bh]) (.int .i64 3)).run Tryz.prog w = .ok (.agg #[.int .i64 ah, .int .i64 bh]) w := fun _ => by kernel_rfl
  have hgen := sgen; have hgen2 := sgen2; have hgen3 := sgen3; go_enter Tryz.func103, Tryz.ntmps103
  go_wp2
  go_loopg [33] 4 (fun gk j wr => ∃ p q : Int, Below w.heap.size w wr ∧ SpAt wr (w.heap.size + 1 + 1) 0 0 ∧ SpAt wr (w.heap.size + 1 + 1 + 1) p q ∧ ((gk = 4 ∧ j = .int .i64 0) ∨ (gk = 3 ∧ j = .int .i64 1 ∧ p = l0 ∧ q = h0) ∨ (gk = 2 ∧ j = .int .i64 2 ∧ p = min l0 l1 ∧ q = max h0 h1) ∨ (gk = 1 ∧ j = .int .i64 3 ∧ p = min (min l0 l1) l2 ∧ q = max (max h0 h1) h2) ∨ (gk = 0 ∧ j = .int .i64 4 ∧ p = min (min (min l0 l1) l2) l3 ∧ q = max (max (max h0 h1) h2) h3)))
  case atStart =>
    refine ⟨0, 0, ?_, ?_, ?_, .inl ⟨rfl, rfl⟩⟩
    · exact belz
    · constructor <;> go_simp
    · constructor <;> go_simp
  case round =>
    obtain ⟨p, q, hbel, hR, hB, hj⟩ := hrel
    have hsz := hbel.size
    have hbl := hB.lt
    have HR := Lib.hid hR
    have HB := Lib.hid hB
    obtain ⟨e0, e1, e2, e3, e4⟩ := hB
    have nb1 : ¬ w.heap.size + 1 + 1 + 1 = wr.heap.size := by omega
    have nb2 : ¬ wr.heap.size = w.heap.size + 1 + 1 + 1 := by omega
    clear hR
    rcases hj with ⟨rfl, rfl⟩ | ⟨rfl, rfl, hp, hq⟩ | ⟨rfl, rfl, hp, hq⟩ | ⟨rfl, rfl, hp, hq⟩ | ⟨rfl, rfl, hp, hq⟩
    · go_wp2_with (go_at_call 125; refine (R0.out _).mono ?_; rintro e w' ⟨rfl, nn, rfl⟩)
      go_roundg 3
      case measure => omega
      case rel =>
        refine ⟨l0, h0, ?_, ?_, ?_, .inr (.inl ⟨rfl, rfl, rfl, rfl⟩)⟩
        · exact belz
        · exact ((HR.out.below (below_drewN ((Below.refl _ _).alloc (Nat.le_refl _) _) nn)).setOther (c := w.heap.size + 1 + 1 + 1) (by omega) _ _).setOther (c := w.heap.size + 1 + 1 + 1) (by omega) _ _
        · exact ((HB.out.below (below_drewN ((Below.refl _ _).alloc (Nat.le_refl _) _) nn)).set _ _).set _ _
    · have HPp := Lib.hid hp
      have HQq := Lib.hid hq
      clear hp hq
      have m1 : (p ≤ l1 ∧ p ≤ l1) ∨ (l1 < p ∧ l1 ≤ p) := by omega
      have m2 : (q < h1 ∧ q ≤ h1) ∨ (h1 ≤ q ∧ h1 ≤ q) := by omega
      rcases m1 with ⟨m1, m1'⟩ | ⟨m1, m1'⟩ <;> rcases m2 with ⟨m2, m2'⟩ | ⟨m2, m2'⟩
      all_goals
        go_wp2_with (go_at_call 125; refine (R1.out _).mono ?_; rintro e w' ⟨rfl, nn, rfl⟩)
        go_roundg 2
        case measure => omega
        case rel =>
          refine ⟨_, _, ?_, (HR.out.below (below_drewN ((Below.refl _ _).alloc (Nat.le_refl _) _) nn)).setOther (c := w.heap.size + 1 + 1 + 1) (by omega) _ _, (HB.out.below (below_drewN ((Below.refl _ _).alloc (Nat.le_refl _) _) nn)).set _ _, .inr (.inr (.inl ⟨rfl, rfl, by have := HPp.out; omega, by have := HQq.out; omega⟩))⟩
          exact belz
    · have HPp := Lib.hid hp
      have HQq := Lib.hid hq
      clear hp hq
      have m1 : (p ≤ l2 ∧ p ≤ l2) ∨ (l2 < p ∧ l2 ≤ p) := by omega
      have m2 : (q < h2 ∧ q ≤ h2) ∨ (h2 ≤ q ∧ h2 ≤ q) := by omega
      rcases m1 with ⟨m1, m1'⟩ | ⟨m1, m1'⟩ <;> rcases m2 with ⟨m2, m2'⟩ | ⟨m2, m2'⟩
      all_goals
        go_wp2_with (go_at_call 125; refine (R2.out _).mono ?_; rintro e w' ⟨rfl, nn, rfl⟩)
        go_roundg 1
        case measure => omega
        case rel =>
          refine ⟨_, _, ?_, (HR.out.below (below_drewN ((Below.refl _ _).alloc (Nat.le_refl _) _) nn)).setOther (c := w.heap.size + 1 + 1 + 1) (by omega) _ _, (HB.out.below (below_drewN ((Below.refl _ _).alloc (Nat.le_refl _) _) nn)).set _ _, .inr (.inr (.inr (.inl ⟨rfl, rfl, by have := HPp.out; omega, by have := HQq.out; omega⟩)))⟩
          exact belz
    · have HPp := Lib.hid hp
      have HQq := Lib.hid hq
      clear hp hq
      have m1 : (p ≤ l3 ∧ p ≤ l3) ∨ (l3 < p ∧ l3 ≤ p) := by omega
      have m2 : (q < h3 ∧ q ≤ h3) ∨ (h3 ≤ q ∧ h3 ≤ q) := by omega
      rcases m1 with ⟨m1, m1'⟩ | ⟨m1, m1'⟩ <;> rcases m2 with ⟨m2, m2'⟩ | ⟨m2, m2'⟩
      all_goals
        go_wp2_with (go_at_call 125; refine (R3.out _).mono ?_; rintro e w' ⟨rfl, nn, rfl⟩)
        go_roundg 0
        case measure => omega
        case rel =>
          refine ⟨_, _, ?_, (HR.out.below (below_drewN ((Below.refl _ _).alloc (Nat.le_refl _) _) nn)).setOther (c := w.heap.size + 1 + 1 + 1) (by omega) _ _, (HB.out.below (below_drewN ((Below.refl _ _).alloc (Nat.le_refl _) _) nn)).set _ _, .inr (.inr (.inr (.inr ⟨rfl, rfl, by have := HPp.out; omega, by have := HQq.out; omega⟩)))⟩
          exact belz
    · obtain ⟨r0, r1, r2, r3, r4⟩ := HR.out
      have HPp := Lib.hid hp
      have HQq := Lib.hid hq
      clear hp hq
      go_wp2
      refine bodyPost_ret (v := .agg #[.int .i64 p, .int .i64 q]) (by simp only [results, Tryz.results103]; go_simp) rfl ⟨ret_agg (by rw [HP.out, HPp.out]) (by rw [HQ.out, HQq.out]), ?_⟩
      exact belz
end
end Go.Proofs.YtcgnhnmigmdalaaGreatDoor
