/- The contract of interval.Ratio, where no long division is wanted. -/
import Derived.Test.YtpgoahbmeedghaaWalkBase
import Derived.Test.YtpgoahbmeedghaaPlainIv
import Derived.Test.YtpgoahbmeedghaaShelf3
import Derived.Deep.QuietTactic
import Derived.BigQuiet
import Derived.BigGuard
set_option linter.unusedVariables false
set_option linter.unusedSimpArgs false
namespace Go.Proofs.Ytpgoahbmeedghaa
open Go.RowKit
theorem ret_int2 {a b a' b' : Int} (h1 : a = a') (h2 : b = b') : Ending.returned (.tuple #[.int .i64 a, .int .i64 b]) = .returned (.tuple #[.int .i64 a', .int .i64 b']) := by rw [h1, h2]
theorem c_size (a : Int) (w : World) (h1 : -1000000000000000000 ≤ a) (h2 : a ≤ 1000000000000000000) : Calls Try.prog 47 #[.int .i64 a] w fun e w' => e = .returned (.int .u64 (absI a)) ∧ w = w' := by
  by_cases h : a < 0
  · have ha := absI_neg h
    have HA := Lib.hid ha
    clear ha
    have hgen := sgen; have hgen2 := sgen2; have hgen3 := sgen3; go_enter Try.func47, Try.ntmps47
    go_wp2
    go_ret
    exact ⟨ret_int HA.out.symm, rfl⟩
  · have ha := absI_pos h
    have HA := Lib.hid ha
    clear ha
    have hgen := sgen; have hgen2 := sgen2; have hgen3 := sgen3; go_enter Try.func47, Try.ntmps47
    go_wp2
    go_ret
    exact ⟨ret_int HA.out.symm, rfl⟩
theorem c_div64_lo (lo y : Int) (w : World) (h1 : 0 ≤ lo) (h2 : lo ≤ 18446744073709551615) (h3 : 1 ≤ y) (h4 : y ≤ 1000000000000000000) :
    Calls Try.prog 48 #[.int .u64 0, .int .u64 lo, .int .u64 y] w fun e w' => e = .returned (.tuple #[.int .u64 (lo / y), .int .u64 (lo % y)]) ∧ ∃ n, w' = w.drewN n := by
  have b0 : (y == 0) = false := by simp; omega
  have hgen := sgen; have hgen2 := sgen2; have hgen3 := sgen3; go_enter Try.func48, Try.ntmps48
  go_wp2
  go_quiet (fail)
  go_wp2
  go_ret2
  exact ⟨rfl, _, rfl⟩
theorem c_mul64 (x y : Int) (w : World) (x0 : 0 ≤ x) (x1 : x ≤ 1000000000000000000) (y0 : 0 ≤ y) (y1 : y ≤ 1000000000000000000) :
    Calls Try.prog 46 #[.int .u64 x, .int .u64 y] w fun e w' => e = .returned (.tuple #[.int .u64 (x * y / 18446744073709551616), .int .u64 (x * y % 18446744073709551616)]) ∧ w = w' := by
  obtain ⟨p, rfl⟩ : ∃ p : Nat, x = p := ⟨x.toNat, by omega⟩
  obtain ⟨q, rfl⟩ : ∃ q : Nat, y = q := ⟨y.toNat, by omega⟩
  refine (Try.bits_Mul64 p q (by omega) (by omega) w).mono ?_
  rintro e w' ⟨he, hw⟩
  refine ⟨?_, hw.symm⟩
  rw [he]
  congr 1
set_option maxRecDepth 100000 in
set_option maxHeartbeats 2000000 in
theorem c_ratio_hi (a b d : Int) (w : World) (a1 : -1000000000000000000 ≤ a) (a2 : a ≤ 1000000000000000000) (b1 : -1000000000000000000 ≤ b) (b2 : b ≤ 1000000000000000000) (d1 : 1 ≤ d) (d2 : d ≤ 1000000000000000000) (hbig : d * 18446744073709551616 ≤ absI a * absI b) :
    Calls Try.prog 41 #[.int .i64 a, .int .i64 b, .int .i64 d] w fun e w' => e = .returned (.tuple #[.int .i64 (ratLo a b d), .int .i64 (ratHi a b d)]) ∧ ∃ n, w' = w.drewN n := by
  have HM := Lib.hid (fun w1 => c_mul64 (absI a) (absI b) w1 (absI_nn a) (absI_bd a1 a2) (absI_nn b) (absI_bd b1 b2))
  have hq : LIM ≤ (absI a * absI b) / d := by
    rw [Int.le_ediv_iff_mul_le (by omega)]
    unfold LIM
    have : 1000000000000000001 * d ≤ d * 18446744073709551616 := by omega
    omega
  have hlo : qDn (absI a * absI b) d = LIM := by unfold qDn; rw [if_pos hq]
  have hup : qUp (absI a * absI b) d = LIM := by unfold qUp; rw [if_pos hq]
  have hP : 0 ≤ absI a * absI b := Int.mul_nonneg (absI_nn a) (absI_nn b)
  have hP2 : absI a * absI b ≤ 1000000000000000000 * 1000000000000000000 := by
    refine Int.le_trans (Int.mul_le_mul_of_nonneg_left (absI_bd b1 b2) (absI_nn a)) (Int.mul_le_mul_of_nonneg_right (absI_bd a1 a2) (by omega))
  have hh1 : d ≤ absI a * absI b / 18446744073709551616 := by rw [Int.le_ediv_iff_mul_le (by omega)]; exact hbig
  have hh2 : absI a * absI b / 18446744073709551616 ≤ 1000000000000000000 := by
    have h := Int.ediv_le_ediv (c := 18446744073709551616) (by omega) hP2
    omega
  have hl1 := Int.emod_nonneg (absI a * absI b) (show (18446744073709551616 : Int) ≠ 0 by omega)
  have hl2 := Int.emod_lt_of_pos (absI a * absI b) (show (0 : Int) < 18446744073709551616 by omega)
  unfold LIM at hlo hup
  have HLO := Lib.hid hlo
  have HUP := Lib.hid hup
  generalize absI a * absI b / 18446744073709551616 = H at *
  generalize absI a * absI b % 18446744073709551616 = L at *
  clear hlo hup hq hP hP2 hbig
  by_cases ha : a < 0 <;> by_cases hb : b < 0
  · have da : decide (a < 0) = true := decide_eq_true ha
    have db : decide (b < 0) = true := decide_eq_true hb
    have hn : negB a b = false := by unfold negB; rw [da, db]; rfl
    have HL := Lib.hid (show ratLo a b d = 1000000000000000001 by rw [ratLo_pos hn, HLO.out])
    have HH := Lib.hid (show ratHi a b d = 1000000000000000001 by rw [ratHi_pos hn, HUP.out])
    clear hn
    have hgen := sgen; have hgen2 := sgen2; have hgen3 := sgen3; go_enter Try.func41, Try.ntmps41
    go_wp2_with (first | (go_at_call 47; refine (c_size _ _ (by assumption) (by assumption)).mono ?_; rintro e w' ⟨rfl, rfl⟩) | (go_at_call 46; refine (HM.out _).mono ?_; rintro e w' ⟨rfl, rfl⟩) | (go_at_call 48; refine (c_div64_lo _ _ _ (by omega) (by omega) (by omega) (by omega)).mono ?_; rintro e w' ⟨rfl, nn, rfl⟩))
    go_ret2
    exact ⟨ret_int2 HL.out.symm HH.out.symm, 0, rfl⟩
  · have da : decide (a < 0) = true := decide_eq_true ha
    have db : decide (b < 0) = false := decide_eq_false hb
    have hn : negB a b = true := by unfold negB; rw [da, db]; rfl
    have HL := Lib.hid (show ratLo a b d = -1000000000000000001 by rw [ratLo_neg hn, HUP.out])
    have HH := Lib.hid (show ratHi a b d = -1000000000000000001 by rw [ratHi_neg hn, HLO.out])
    clear hn
    have hgen := sgen; have hgen2 := sgen2; have hgen3 := sgen3; go_enter Try.func41, Try.ntmps41
    go_wp2_with (first | (go_at_call 47; refine (c_size _ _ (by assumption) (by assumption)).mono ?_; rintro e w' ⟨rfl, rfl⟩) | (go_at_call 46; refine (HM.out _).mono ?_; rintro e w' ⟨rfl, rfl⟩) | (go_at_call 48; refine (c_div64_lo _ _ _ (by omega) (by omega) (by omega) (by omega)).mono ?_; rintro e w' ⟨rfl, nn, rfl⟩))
    go_ret2
    exact ⟨ret_int2 HL.out.symm HH.out.symm, 0, rfl⟩
  · have da : decide (a < 0) = false := decide_eq_false ha
    have db : decide (b < 0) = true := decide_eq_true hb
    have hn : negB a b = true := by unfold negB; rw [da, db]; rfl
    have HL := Lib.hid (show ratLo a b d = -1000000000000000001 by rw [ratLo_neg hn, HUP.out])
    have HH := Lib.hid (show ratHi a b d = -1000000000000000001 by rw [ratHi_neg hn, HLO.out])
    clear hn
    have hgen := sgen; have hgen2 := sgen2; have hgen3 := sgen3; go_enter Try.func41, Try.ntmps41
    go_wp2_with (first | (go_at_call 47; refine (c_size _ _ (by assumption) (by assumption)).mono ?_; rintro e w' ⟨rfl, rfl⟩) | (go_at_call 46; refine (HM.out _).mono ?_; rintro e w' ⟨rfl, rfl⟩) | (go_at_call 48; refine (c_div64_lo _ _ _ (by omega) (by omega) (by omega) (by omega)).mono ?_; rintro e w' ⟨rfl, nn, rfl⟩))
    go_ret2
    exact ⟨ret_int2 HL.out.symm HH.out.symm, 0, rfl⟩
  · have da : decide (a < 0) = false := decide_eq_false ha
    have db : decide (b < 0) = false := decide_eq_false hb
    have hn : negB a b = false := by unfold negB; rw [da, db]; rfl
    have HL := Lib.hid (show ratLo a b d = 1000000000000000001 by rw [ratLo_pos hn, HLO.out])
    have HH := Lib.hid (show ratHi a b d = 1000000000000000001 by rw [ratHi_pos hn, HUP.out])
    clear hn
    have hgen := sgen; have hgen2 := sgen2; have hgen3 := sgen3; go_enter Try.func41, Try.ntmps41
    go_wp2_with (first | (go_at_call 47; refine (c_size _ _ (by assumption) (by assumption)).mono ?_; rintro e w' ⟨rfl, rfl⟩) | (go_at_call 46; refine (HM.out _).mono ?_; rintro e w' ⟨rfl, rfl⟩) | (go_at_call 48; refine (c_div64_lo _ _ _ (by omega) (by omega) (by omega) (by omega)).mono ?_; rintro e w' ⟨rfl, nn, rfl⟩))
    go_ret2
    exact ⟨ret_int2 HL.out.symm HH.out.symm, 0, rfl⟩
set_option maxRecDepth 100000 in
set_option maxHeartbeats 4000000 in
theorem c_ratio_lo (a b d : Int) (w : World) (a1 : -1000000000000000000 ≤ a) (a2 : a ≤ 1000000000000000000) (b1 : -1000000000000000000 ≤ b) (b2 : b ≤ 1000000000000000000) (d1 : 1 ≤ d) (d2 : d ≤ 1000000000000000000) (hsm : absI a * absI b < 18446744073709551616) :
    Calls Try.prog 41 #[.int .i64 a, .int .i64 b, .int .i64 d] w fun e w' => e = .returned (.tuple #[.int .i64 (ratLo a b d), .int .i64 (ratHi a b d)]) ∧ ∃ n, w' = w.drewN n := by
  have hM := fun w1 => c_mul64 (absI a) (absI b) w1 (absI_nn a) (absI_bd a1 a2) (absI_nn b) (absI_bd b1 b2)
  have hP : 0 ≤ absI a * absI b := Int.mul_nonneg (absI_nn a) (absI_nn b)
  rw [Int.ediv_eq_zero_of_lt hP hsm, Int.emod_eq_of_lt hP hsm] at hM
  have HM := Lib.hid hM
  clear hM
  have HL0 : Hid (∀ x, ratLo a b d = x → ratLo a b d = x) := Lib.hid fun _ h => h
  have hdn : qDn (absI a * absI b) d = if 1000000000000000001 ≤ absI a * absI b / d then 1000000000000000001 else absI a * absI b / d := rfl
  have hup : qUp (absI a * absI b) d = if 1000000000000000001 ≤ absI a * absI b / d then 1000000000000000001 else if 0 < absI a * absI b % d then absI a * absI b / d + 1 else absI a * absI b / d := rfl
  have hr1 := Int.emod_nonneg (absI a * absI b) (show d ≠ 0 by omega)
  have hr2 := Int.emod_lt_of_pos (absI a * absI b) (show (0 : Int) < d by omega)
  have hq1 := Int.ediv_nonneg hP (show 0 ≤ d by omega)
  have hq2 : absI a * absI b / d ≤ 18446744073709551615 := by
    have := Int.ediv_le_self d hP
    omega
  by_cases c1 : 1000000000000000001 ≤ absI a * absI b / d
  · rw [if_pos c1] at hdn hup
    have HLO := Lib.hid hdn
    have HUP := Lib.hid hup
    clear hdn hup
    by_cases ha : a < 0 <;> by_cases hb : b < 0
    · have da : decide (a < 0) = true := decide_eq_true ha
      have db : decide (b < 0) = true := decide_eq_true hb
      have hn : negB a b = false := by unfold negB; rw [da, db]; rfl
      have HL := Lib.hid (show ratLo a b d = 1000000000000000001 by rw [ratLo_pos hn, HLO.out])
      have HH := Lib.hid (show ratHi a b d = 1000000000000000001 by rw [ratHi_pos hn, HUP.out])
      clear hn
      have hgen := sgen; have hgen2 := sgen2; have hgen3 := sgen3; go_enter Try.func41, Try.ntmps41
      go_wp2_with (first | (go_at_call 47; refine (c_size _ _ (by assumption) (by assumption)).mono ?_; rintro e w' ⟨rfl, rfl⟩) | (go_at_call 46; refine (HM.out _).mono ?_; rintro e w' ⟨rfl, rfl⟩) | (go_at_call 48; refine (c_div64_lo _ _ _ (by omega) (by omega) (by omega) (by omega)).mono ?_; rintro e w' ⟨rfl, nn, rfl⟩))
      go_ret2
      exact ⟨ret_int2 HL.out.symm HH.out.symm, _, rfl⟩
    · have da : decide (a < 0) = true := decide_eq_true ha
      have db : decide (b < 0) = false := decide_eq_false hb
      have hn : negB a b = true := by unfold negB; rw [da, db]; rfl
      have HL := Lib.hid (show ratLo a b d = -1000000000000000001 by rw [ratLo_neg hn, HUP.out])
      have HH := Lib.hid (show ratHi a b d = -1000000000000000001 by rw [ratHi_neg hn, HLO.out])
      clear hn
      have hgen := sgen; have hgen2 := sgen2; have hgen3 := sgen3; go_enter Try.func41, Try.ntmps41
      go_wp2_with (first | (go_at_call 47; refine (c_size _ _ (by assumption) (by assumption)).mono ?_; rintro e w' ⟨rfl, rfl⟩) | (go_at_call 46; refine (HM.out _).mono ?_; rintro e w' ⟨rfl, rfl⟩) | (go_at_call 48; refine (c_div64_lo _ _ _ (by omega) (by omega) (by omega) (by omega)).mono ?_; rintro e w' ⟨rfl, nn, rfl⟩))
      go_ret2
      exact ⟨ret_int2 HL.out.symm HH.out.symm, _, rfl⟩
    · have da : decide (a < 0) = false := decide_eq_false ha
      have db : decide (b < 0) = true := decide_eq_true hb
      have hn : negB a b = true := by unfold negB; rw [da, db]; rfl
      have HL := Lib.hid (show ratLo a b d = -1000000000000000001 by rw [ratLo_neg hn, HUP.out])
      have HH := Lib.hid (show ratHi a b d = -1000000000000000001 by rw [ratHi_neg hn, HLO.out])
      clear hn
      have hgen := sgen; have hgen2 := sgen2; have hgen3 := sgen3; go_enter Try.func41, Try.ntmps41
      go_wp2_with (first | (go_at_call 47; refine (c_size _ _ (by assumption) (by assumption)).mono ?_; rintro e w' ⟨rfl, rfl⟩) | (go_at_call 46; refine (HM.out _).mono ?_; rintro e w' ⟨rfl, rfl⟩) | (go_at_call 48; refine (c_div64_lo _ _ _ (by omega) (by omega) (by omega) (by omega)).mono ?_; rintro e w' ⟨rfl, nn, rfl⟩))
      go_ret2
      exact ⟨ret_int2 HL.out.symm HH.out.symm, _, rfl⟩
    · have da : decide (a < 0) = false := decide_eq_false ha
      have db : decide (b < 0) = false := decide_eq_false hb
      have hn : negB a b = false := by unfold negB; rw [da, db]; rfl
      have HL := Lib.hid (show ratLo a b d = 1000000000000000001 by rw [ratLo_pos hn, HLO.out])
      have HH := Lib.hid (show ratHi a b d = 1000000000000000001 by rw [ratHi_pos hn, HUP.out])
      clear hn
      have hgen := sgen; have hgen2 := sgen2; have hgen3 := sgen3; go_enter Try.func41, Try.ntmps41
      go_wp2_with (first | (go_at_call 47; refine (c_size _ _ (by assumption) (by assumption)).mono ?_; rintro e w' ⟨rfl, rfl⟩) | (go_at_call 46; refine (HM.out _).mono ?_; rintro e w' ⟨rfl, rfl⟩) | (go_at_call 48; refine (c_div64_lo _ _ _ (by omega) (by omega) (by omega) (by omega)).mono ?_; rintro e w' ⟨rfl, nn, rfl⟩))
      go_ret2
      exact ⟨ret_int2 HL.out.symm HH.out.symm, _, rfl⟩
  · rw [if_neg c1] at hdn hup
    have c1' : absI a * absI b / d < 1000000000000000001 := by omega
    by_cases c2 : 0 < absI a * absI b % d
    · rw [if_pos c2] at hup
      have HLO := Lib.hid hdn
      have HUP := Lib.hid hup
      clear hdn hup
      by_cases ha : a < 0 <;> by_cases hb : b < 0
      · have da : decide (a < 0) = true := decide_eq_true ha
        have db : decide (b < 0) = true := decide_eq_true hb
        have hn : negB a b = false := by unfold negB; rw [da, db]; rfl
        have HL := Lib.hid (show ratLo a b d = (absI a * absI b / d) by rw [ratLo_pos hn, HLO.out])
        have HH := Lib.hid (show ratHi a b d = (absI a * absI b / d + 1) by rw [ratHi_pos hn, HUP.out])
        clear hn
        have hgen := sgen; have hgen2 := sgen2; have hgen3 := sgen3; go_enter Try.func41, Try.ntmps41
        go_wp2_with (first | (go_at_call 47; refine (c_size _ _ (by assumption) (by assumption)).mono ?_; rintro e w' ⟨rfl, rfl⟩) | (go_at_call 46; refine (HM.out _).mono ?_; rintro e w' ⟨rfl, rfl⟩) | (go_at_call 48; refine (c_div64_lo _ _ _ (by omega) (by omega) (by omega) (by omega)).mono ?_; rintro e w' ⟨rfl, nn, rfl⟩))
        go_ret2
        exact ⟨ret_int2 HL.out.symm HH.out.symm, _, rfl⟩
      · have da : decide (a < 0) = true := decide_eq_true ha
        have db : decide (b < 0) = false := decide_eq_false hb
        have hn : negB a b = true := by unfold negB; rw [da, db]; rfl
        have HL := Lib.hid (show ratLo a b d = -(absI a * absI b / d + 1) by rw [ratLo_neg hn, HUP.out])
        have HH := Lib.hid (show ratHi a b d = -(absI a * absI b / d) by rw [ratHi_neg hn, HLO.out])
        clear hn
        have hgen := sgen; have hgen2 := sgen2; have hgen3 := sgen3; go_enter Try.func41, Try.ntmps41
        go_wp2_with (first | (go_at_call 47; refine (c_size _ _ (by assumption) (by assumption)).mono ?_; rintro e w' ⟨rfl, rfl⟩) | (go_at_call 46; refine (HM.out _).mono ?_; rintro e w' ⟨rfl, rfl⟩) | (go_at_call 48; refine (c_div64_lo _ _ _ (by omega) (by omega) (by omega) (by omega)).mono ?_; rintro e w' ⟨rfl, nn, rfl⟩))
        go_ret2
        exact ⟨ret_int2 HL.out.symm HH.out.symm, _, rfl⟩
      · have da : decide (a < 0) = false := decide_eq_false ha
        have db : decide (b < 0) = true := decide_eq_true hb
        have hn : negB a b = true := by unfold negB; rw [da, db]; rfl
        have HL := Lib.hid (show ratLo a b d = -(absI a * absI b / d + 1) by rw [ratLo_neg hn, HUP.out])
        have HH := Lib.hid (show ratHi a b d = -(absI a * absI b / d) by rw [ratHi_neg hn, HLO.out])
        clear hn
        have hgen := sgen; have hgen2 := sgen2; have hgen3 := sgen3; go_enter Try.func41, Try.ntmps41
        go_wp2_with (first | (go_at_call 47; refine (c_size _ _ (by assumption) (by assumption)).mono ?_; rintro e w' ⟨rfl, rfl⟩) | (go_at_call 46; refine (HM.out _).mono ?_; rintro e w' ⟨rfl, rfl⟩) | (go_at_call 48; refine (c_div64_lo _ _ _ (by omega) (by omega) (by omega) (by omega)).mono ?_; rintro e w' ⟨rfl, nn, rfl⟩))
        go_ret2
        exact ⟨ret_int2 HL.out.symm HH.out.symm, _, rfl⟩
      · have da : decide (a < 0) = false := decide_eq_false ha
        have db : decide (b < 0) = false := decide_eq_false hb
        have hn : negB a b = false := by unfold negB; rw [da, db]; rfl
        have HL := Lib.hid (show ratLo a b d = (absI a * absI b / d) by rw [ratLo_pos hn, HLO.out])
        have HH := Lib.hid (show ratHi a b d = (absI a * absI b / d + 1) by rw [ratHi_pos hn, HUP.out])
        clear hn
        have hgen := sgen; have hgen2 := sgen2; have hgen3 := sgen3; go_enter Try.func41, Try.ntmps41
        go_wp2_with (first | (go_at_call 47; refine (c_size _ _ (by assumption) (by assumption)).mono ?_; rintro e w' ⟨rfl, rfl⟩) | (go_at_call 46; refine (HM.out _).mono ?_; rintro e w' ⟨rfl, rfl⟩) | (go_at_call 48; refine (c_div64_lo _ _ _ (by omega) (by omega) (by omega) (by omega)).mono ?_; rintro e w' ⟨rfl, nn, rfl⟩))
        go_ret2
        exact ⟨ret_int2 HL.out.symm HH.out.symm, _, rfl⟩
    · rw [if_neg c2] at hup
      have HLO := Lib.hid hdn
      have HUP := Lib.hid hup
      clear hdn hup
      by_cases ha : a < 0 <;> by_cases hb : b < 0
      · have da : decide (a < 0) = true := decide_eq_true ha
        have db : decide (b < 0) = true := decide_eq_true hb
        have hn : negB a b = false := by unfold negB; rw [da, db]; rfl
        have HL := Lib.hid (show ratLo a b d = (absI a * absI b / d) by rw [ratLo_pos hn, HLO.out])
        have HH := Lib.hid (show ratHi a b d = (absI a * absI b / d) by rw [ratHi_pos hn, HUP.out])
        clear hn
        have hgen := sgen; have hgen2 := sgen2; have hgen3 := sgen3; go_enter Try.func41, Try.ntmps41
        go_wp2_with (first | (go_at_call 47; refine (c_size _ _ (by assumption) (by assumption)).mono ?_; rintro e w' ⟨rfl, rfl⟩) | (go_at_call 46; refine (HM.out _).mono ?_; rintro e w' ⟨rfl, rfl⟩) | (go_at_call 48; refine (c_div64_lo _ _ _ (by omega) (by omega) (by omega) (by omega)).mono ?_; rintro e w' ⟨rfl, nn, rfl⟩))
        go_ret2
        exact ⟨ret_int2 HL.out.symm HH.out.symm, _, rfl⟩
      · have da : decide (a < 0) = true := decide_eq_true ha
        have db : decide (b < 0) = false := decide_eq_false hb
        have hn : negB a b = true := by unfold negB; rw [da, db]; rfl
        have HL := Lib.hid (show ratLo a b d = -(absI a * absI b / d) by rw [ratLo_neg hn, HUP.out])
        have HH := Lib.hid (show ratHi a b d = -(absI a * absI b / d) by rw [ratHi_neg hn, HLO.out])
        clear hn
        have hgen := sgen; have hgen2 := sgen2; have hgen3 := sgen3; go_enter Try.func41, Try.ntmps41
        go_wp2_with (first | (go_at_call 47; refine (c_size _ _ (by assumption) (by assumption)).mono ?_; rintro e w' ⟨rfl, rfl⟩) | (go_at_call 46; refine (HM.out _).mono ?_; rintro e w' ⟨rfl, rfl⟩) | (go_at_call 48; refine (c_div64_lo _ _ _ (by omega) (by omega) (by omega) (by omega)).mono ?_; rintro e w' ⟨rfl, nn, rfl⟩))
        go_ret2
        exact ⟨ret_int2 HL.out.symm HH.out.symm, _, rfl⟩
      · have da : decide (a < 0) = false := decide_eq_false ha
        have db : decide (b < 0) = true := decide_eq_true hb
        have hn : negB a b = true := by unfold negB; rw [da, db]; rfl
        have HL := Lib.hid (show ratLo a b d = -(absI a * absI b / d) by rw [ratLo_neg hn, HUP.out])
        have HH := Lib.hid (show ratHi a b d = -(absI a * absI b / d) by rw [ratHi_neg hn, HLO.out])
        clear hn
        have hgen := sgen; have hgen2 := sgen2; have hgen3 := sgen3; go_enter Try.func41, Try.ntmps41
        go_wp2_with (first | (go_at_call 47; refine (c_size _ _ (by assumption) (by assumption)).mono ?_; rintro e w' ⟨rfl, rfl⟩) | (go_at_call 46; refine (HM.out _).mono ?_; rintro e w' ⟨rfl, rfl⟩) | (go_at_call 48; refine (c_div64_lo _ _ _ (by omega) (by omega) (by omega) (by omega)).mono ?_; rintro e w' ⟨rfl, nn, rfl⟩))
        go_ret2
        exact ⟨ret_int2 HL.out.symm HH.out.symm, _, rfl⟩
      · have da : decide (a < 0) = false := decide_eq_false ha
        have db : decide (b < 0) = false := decide_eq_false hb
        have hn : negB a b = false := by unfold negB; rw [da, db]; rfl
        have HL := Lib.hid (show ratLo a b d = (absI a * absI b / d) by rw [ratLo_pos hn, HLO.out])
        have HH := Lib.hid (show ratHi a b d = (absI a * absI b / d) by rw [ratHi_pos hn, HUP.out])
        clear hn
        have hgen := sgen; have hgen2 := sgen2; have hgen3 := sgen3; go_enter Try.func41, Try.ntmps41
        go_wp2_with (first | (go_at_call 47; refine (c_size _ _ (by assumption) (by assumption)).mono ?_; rintro e w' ⟨rfl, rfl⟩) | (go_at_call 46; refine (HM.out _).mono ?_; rintro e w' ⟨rfl, rfl⟩) | (go_at_call 48; refine (c_div64_lo _ _ _ (by omega) (by omega) (by omega) (by omega)).mono ?_; rintro e w' ⟨rfl, nn, rfl⟩))
        go_ret2
        exact ⟨ret_int2 HL.out.symm HH.out.symm, _, rfl⟩
end Go.Proofs.Ytpgoahbmeedghaa
