/- The contract of interval.Ratio for divisors of at most 10^9. -/
import Derived.Test.YtpgoahbmeedghaaWalkDiv
import Derived.Test.YtpgoahbmeedghaaWalkProd
set_option linter.unusedVariables false
set_option linter.unusedSimpArgs false
namespace Go.Proofs.Ytpgoahbmeedghaa
open Go.RowKit
set_option maxRecDepth 100000 in
set_option maxHeartbeats 8000000 in
theorem c_ratio_mid (a b d : Int) (w : World) (a1 : -1000000000000000000 ≤ a) (a2 : a ≤ 1000000000000000000) (b1 : -1000000000000000000 ≤ b) (b2 : b ≤ 1000000000000000000) (d1 : 1 ≤ d) (d2 : d ≤ 1000000000) (hge : 18446744073709551616 ≤ absI a * absI b) (hlt : absI a * absI b < d * 18446744073709551616) :
    Calls Try.prog 41 #[.int .i64 a, .int .i64 b, .int .i64 d] w fun e w' => e = .returned (.tuple #[.int .i64 (ratLo a b d), .int .i64 (ratHi a b d)]) ∧ ∃ n, w' = w.drewN n := by
  have HM := Lib.hid (fun w1 => c_mul64 (absI a) (absI b) w1 (absI_nn a) (absI_bd a1 a2) (absI_nn b) (absI_bd b1 b2))
  have hP : 0 ≤ absI a * absI b := Int.mul_nonneg (absI_nn a) (absI_nn b)
  have hh0 : 1 ≤ absI a * absI b / 18446744073709551616 := by omega
  have hh1 : absI a * absI b / 18446744073709551616 < d := by omega
  have hl1 := Int.emod_nonneg (absI a * absI b) (show (18446744073709551616 : Int) ≠ 0 by omega)
  have hl2 := Int.emod_lt_of_pos (absI a * absI b) (show (0 : Int) < 18446744073709551616 by omega)
  have hD := fun w1 => c_div64_hi (absI a * absI b / 18446744073709551616) (absI a * absI b % 18446744073709551616) d w1 hh0 hh1 d2 hl1 (by omega)
  rw [show absI a * absI b / 18446744073709551616 * 18446744073709551616 + absI a * absI b % 18446744073709551616 = absI a * absI b by omega] at hD
  have HD := Lib.hid hD
  clear hD
  have HL0 : Hid (∀ x, ratLo a b d = x → ratLo a b d = x) := Lib.hid fun _ h => h
  have hdn : qDn (absI a * absI b) d = if 1000000000000000001 ≤ absI a * absI b / d then 1000000000000000001 else absI a * absI b / d := rfl
  have hup : qUp (absI a * absI b) d = if 1000000000000000001 ≤ absI a * absI b / d then 1000000000000000001 else if 0 < absI a * absI b % d then absI a * absI b / d + 1 else absI a * absI b / d := rfl
  have hr1 := Int.emod_nonneg (absI a * absI b) (show d ≠ 0 by omega)
  have hr2 := Int.emod_lt_of_pos (absI a * absI b) (show (0 : Int) < d by omega)
  have hq1 := Int.ediv_nonneg hP (show 0 ≤ d by omega)
  have hq2 : absI a * absI b / d ≤ 18446744073709551615 := by
    have : absI a * absI b / d < 18446744073709551616 := Int.ediv_lt_of_lt_mul (by omega) (by omega)
    omega
  generalize absI a * absI b / 18446744073709551616 = H at *
  generalize absI a * absI b % 18446744073709551616 = L at *
  clear hge hlt
  by_cases c1 : 1000000000000000001 ≤ absI a * absI b / d
  · rw [if_pos c1] at hdn hup
    have HLO := Lib.hid hdn
    have HUP := Lib.hid hup
    clear hdn hup
    by_cases ha : a < 0 <;> by_cases hb : b < 0
    · have da : decide (a < 0) = true := decide_eq_true ha
      have db : decide (b < 0) = true := decide_eq_true hb
      have hn : negB a b = false := by unfold negB; rw [da, db]; rfl
      have HL := Lib.hid (show ratLo a b d = 1000000000000000001 by rw [ratLo_pos hn, HLO.out])
      have HH := Lib.hid (show ratHi a b d = 1000000000000000001 by rw [ratHi_pos hn, HUP.out])
      clear hn
      have hgen := sgen; have hgen2 := sgen2; have hgen3 := sgen3; go_enter Try.func41, Try.ntmps41
      go_wp2_with (first | (go_at_call 47; refine (c_size _ _ (by assumption) (by assumption)).mono ?_; rintro e w' ⟨rfl, rfl⟩) | (go_at_call 46; refine (HM.out _).mono ?_; rintro e w' ⟨rfl, rfl⟩) | (go_at_call 48; refine (HD.out _).mono ?_; rintro e w' ⟨rfl, nn, rfl⟩))
      go_ret2
      exact ⟨ret_int2 HL.out.symm HH.out.symm, _, rfl⟩
    · have da : decide (a < 0) = true := decide_eq_true ha
      have db : decide (b < 0) = false := decide_eq_false hb
      have hn : negB a b = true := by unfold negB; rw [da, db]; rfl
      have HL := Lib.hid (show ratLo a b d = -1000000000000000001 by rw [ratLo_neg hn, HUP.out])
      have HH := Lib.hid (show ratHi a b d = -1000000000000000001 by rw [ratHi_neg hn, HLO.out])
      clear hn
      have hgen := sgen; have hgen2 := sgen2; have hgen3 := sgen3; go_enter Try.func41, Try.ntmps41
      go_wp2_with (first | (go_at_call 47; refine (c_size _ _ (by assumption) (by assumption)).mono ?_; rintro e w' ⟨rfl, rfl⟩) | (go_at_call 46; refine (HM.out _).mono ?_; rintro e w' ⟨rfl, rfl⟩) | (go_at_call 48; refine (HD.out _).mono ?_; rintro e w' ⟨rfl, nn, rfl⟩))
      go_ret2
      exact ⟨ret_int2 HL.out.symm HH.out.symm, _, rfl⟩
    · have da : decide (a < 0) = false := decide_eq_false ha
      have db : decide (b < 0) = true := decide_eq_true hb
      have hn : negB a b = true := by unfold negB; rw [da, db]; rfl
      have HL := Lib.hid (show ratLo a b d = -1000000000000000001 by rw [ratLo_neg hn, HUP.out])
      have HH := Lib.hid (show ratHi a b d = -1000000000000000001 by rw [ratHi_neg hn, HLO.out])
      clear hn
      have hgen := sgen; have hgen2 := sgen2; have hgen3 := sgen3; go_enter Try.func41, Try.ntmps41
      go_wp2_with (first | (go_at_call 47; refine (c_size _ _ (by assumption) (by assumption)).mono ?_; rintro e w' ⟨rfl, rfl⟩) | (go_at_call 46; refine (HM.out _).mono ?_; rintro e w' ⟨rfl, rfl⟩) | (go_at_call 48; refine (HD.out _).mono ?_; rintro e w' ⟨rfl, nn, rfl⟩))
      go_ret2
      exact ⟨ret_int2 HL.out.symm HH.out.symm, _, rfl⟩
    · have da : decide (a < 0) = false := decide_eq_false ha
      have db : decide (b < 0) = false := decide_eq_false hb
      have hn : negB a b = false := by unfold negB; rw [da, db]; rfl
      have HL := Lib.hid (show ratLo a b d = 1000000000000000001 by rw [ratLo_pos hn, HLO.out])
      have HH := Lib.hid (show ratHi a b d = 1000000000000000001 by rw [ratHi_pos hn, HUP.out])
      clear hn
      have hgen := sgen; have hgen2 := sgen2; have hgen3 := sgen3; go_enter Try.func41, Try.ntmps41
      go_wp2_with (first | (go_at_call 47; refine (c_size _ _ (by assumption) (by assumption)).mono ?_; rintro e w' ⟨rfl, rfl⟩) | (go_at_call 46; refine (HM.out _).mono ?_; rintro e w' ⟨rfl, rfl⟩) | (go_at_call 48; refine (HD.out _).mono ?_; rintro e w' ⟨rfl, nn, rfl⟩))
      go_ret2
      exact ⟨ret_int2 HL.out.symm HH.out.symm, _, rfl⟩
  · rw [if_neg c1] at hdn hup
    have c1' : absI a * absI b / d < 1000000000000000001 := by omega
    by_cases c2 : 0 < absI a * absI b % d
    · rw [if_pos c2] at hup
      have HLO := Lib.hid hdn
      have HUP := Lib.hid hup
      clear hdn hup
      by_cases ha : a < 0 <;> by_cases hb : b < 0
      · have da : decide (a < 0) = true := decide_eq_true ha
        have db : decide (b < 0) = true := decide_eq_true hb
        have hn : negB a b = false := by unfold negB; rw [da, db]; rfl
        have HL := Lib.hid (show ratLo a b d = (absI a * absI b / d) by rw [ratLo_pos hn, HLO.out])
        have HH := Lib.hid (show ratHi a b d = (absI a * absI b / d + 1) by rw [ratHi_pos hn, HUP.out])
        clear hn
        have hgen := sgen; have hgen2 := sgen2; have hgen3 := sgen3; go_enter Try.func41, Try.ntmps41
        go_wp2_with (first | (go_at_call 47; refine (c_size _ _ (by assumption) (by assumption)).mono ?_; rintro e w' ⟨rfl, rfl⟩) | (go_at_call 46; refine (HM.out _).mono ?_; rintro e w' ⟨rfl, rfl⟩) | (go_at_call 48; refine (HD.out _).mono ?_; rintro e w' ⟨rfl, nn, rfl⟩))
        go_ret2
        exact ⟨ret_int2 HL.out.symm HH.out.symm, _, rfl⟩
      · have da : decide (a < 0) = true := decide_eq_true ha
        have db : decide (b < 0) = false := decide_eq_false hb
        have hn : negB a b = true := by unfold negB; rw [da, db]; rfl
        have HL := Lib.hid (show ratLo a b d = -(absI a * absI b / d + 1) by rw [ratLo_neg hn, HUP.out])
        have HH := Lib.hid (show ratHi a b d = -(absI a * absI b / d) by rw [ratHi_neg hn, HLO.out])
        clear hn
        have hgen := sgen; have hgen2 := sgen2; have hgen3 := sgen3; go_enter Try.func41, Try.ntmps41
        go_wp2_with (first | (go_at_call 47; refine (c_size _ _ (by assumption) (by assumption)).mono ?_; rintro e w' ⟨rfl, rfl⟩) | (go_at_call 46; refine (HM.out _).mono ?_; rintro e w' ⟨rfl, rfl⟩) | (go_at_call 48; refine (HD.out _).mono ?_; rintro e w' ⟨rfl, nn, rfl⟩))
        go_ret2
        exact ⟨ret_int2 HL.out.symm HH.out.symm, _, rfl⟩
      · have da : decide (a < 0) = false := decide_eq_false ha
        have db : decide (b < 0) = true := decide_eq_true hb
        have hn : negB a b = true := by unfold negB; rw [da, db]; rfl
        have HL := Lib.hid (show ratLo a b d = -(absI a * absI b / d + 1) by rw [ratLo_neg hn, HUP.out])
        have HH := Lib.hid (show ratHi a b d = -(absI a * absI b / d) by rw [ratHi_neg hn, HLO.out])
        clear hn
        have hgen := sgen; have hgen2 := sgen2; have hgen3 := sgen3; go_enter Try.func41, Try.ntmps41
        go_wp2_with (first | (go_at_call 47; refine (c_size _ _ (by assumption) (by assumption)).mono ?_; rintro e w' ⟨rfl, rfl⟩) | (go_at_call 46; refine (HM.out _).mono ?_; rintro e w' ⟨rfl, rfl⟩) | (go_at_call 48; refine (HD.out _).mono ?_; rintro e w' ⟨rfl, nn, rfl⟩))
        go_ret2
        exact ⟨ret_int2 HL.out.symm HH.out.symm, _, rfl⟩
      · have da : decide (a < 0) = false := decide_eq_false ha
        have db : decide (b < 0) = false := decide_eq_false hb
        have hn : negB a b = false := by unfold negB; rw [da, db]; rfl
        have HL := Lib.hid (show ratLo a b d = (absI a * absI b / d) by rw [ratLo_pos hn, HLO.out])
        have HH := Lib.hid (show ratHi a b d = (absI a * absI b / d + 1) by rw [ratHi_pos hn, HUP.out])
        clear hn
        have hgen := sgen; have hgen2 := sgen2; have hgen3 := sgen3; go_enter Try.func41, Try.ntmps41
        go_wp2_with (first | (go_at_call 47; refine (c_size _ _ (by assumption) (by assumption)).mono ?_; rintro e w' ⟨rfl, rfl⟩) | (go_at_call 46; refine (HM.out _).mono ?_; rintro e w' ⟨rfl, rfl⟩) | (go_at_call 48; refine (HD.out _).mono ?_; rintro e w' ⟨rfl, nn, rfl⟩))
        go_ret2
        exact ⟨ret_int2 HL.out.symm HH.out.symm, _, rfl⟩
    · rw [if_neg c2] at hup
      have HLO := Lib.hid hdn
      have HUP := Lib.hid hup
      clear hdn hup
      by_cases ha : a < 0 <;> by_cases hb : b < 0
      · have da : decide (a < 0) = true := decide_eq_true ha
        have db : decide (b < 0) = true := decide_eq_true hb
        have hn : negB a b = false := by unfold negB; rw [da, db]; rfl
        have HL := Lib.hid (show ratLo a b d = (absI a * absI b / d) by rw [ratLo_pos hn, HLO.out])
        have HH := Lib.hid (show ratHi a b d = (absI a * absI b / d) by rw [ratHi_pos hn, HUP.out])
        clear hn
        have hgen := sgen; have hgen2 := sgen2; have hgen3 := sgen3; go_enter Try.func41, Try.ntmps41
        go_wp2_with (first | (go_at_call 47; refine (c_size _ _ (by assumption) (by assumption)).mono ?_; rintro e w' ⟨rfl, rfl⟩) | (go_at_call 46; refine (HM.out _).mono ?_; rintro e w' ⟨rfl, rfl⟩) | (go_at_call 48; refine (HD.out _).mono ?_; rintro e w' ⟨rfl, nn, rfl⟩))
        go_ret2
        exact ⟨ret_int2 HL.out.symm HH.out.symm, _, rfl⟩
      · have da : decide (a < 0) = true := decide_eq_true ha
        have db : decide (b < 0) = false := decide_eq_false hb
        have hn : negB a b = true := by unfold negB; rw [da, db]; rfl
        have HL := Lib.hid (show ratLo a b d = -(absI a * absI b / d) by rw [ratLo_neg hn, HUP.out])
        have HH := Lib.hid (show ratHi a b d = -(absI a * absI b / d) by rw [ratHi_neg hn, HLO.out])
        clear hn
        have hgen := sgen; have hgen2 := sgen2; have hgen3 := sgen3; go_enter Try.func41, Try.ntmps41
        go_wp2_with (first | (go_at_call 47; refine (c_size _ _ (by assumption) (by assumption)).mono ?_; rintro e w' ⟨rfl, rfl⟩) | (go_at_call 46; refine (HM.out _).mono ?_; rintro e w' ⟨rfl, rfl⟩) | (go_at_call 48; refine (HD.out _).mono ?_; rintro e w' ⟨rfl, nn, rfl⟩))
        go_ret2
        exact ⟨ret_int2 HL.out.symm HH.out.symm, _, rfl⟩
      · have da : decide (a < 0) = false := decide_eq_false ha
        have db : decide (b < 0) = true := decide_eq_true hb
        have hn : negB a b = true := by unfold negB; rw [da, db]; rfl
        have HL := Lib.hid (show ratLo a b d = -(absI a * absI b / d) by rw [ratLo_neg hn, HUP.out])
        have HH := Lib.hid (show ratHi a b d = -(absI a * absI b / d) by rw [ratHi_neg hn, HLO.out])
        clear hn
        have hgen := sgen; have hgen2 := sgen2; have hgen3 := sgen3; go_enter Try.func41, Try.ntmps41
        go_wp2_with (first | (go_at_call 47; refine (c_size _ _ (by assumption) (by assumption)).mono ?_; rintro e w' ⟨rfl, rfl⟩) | (go_at_call 46; refine (HM.out _).mono ?_; rintro e w' ⟨rfl, rfl⟩) | (go_at_call 48; refine (HD.out _).mono ?_; rintro e w' ⟨rfl, nn, rfl⟩))
        go_ret2
        exact ⟨ret_int2 HL.out.symm HH.out.symm, _, rfl⟩
      · have da : decide (a < 0) = false := decide_eq_false ha
        have db : decide (b < 0) = false := decide_eq_false hb
        have hn : negB a b = false := by unfold negB; rw [da, db]; rfl
        have HL := Lib.hid (show ratLo a b d = (absI a * absI b / d) by rw [ratLo_pos hn, HLO.out])
        have HH := Lib.hid (show ratHi a b d = (absI a * absI b / d) by rw [ratHi_pos hn, HUP.out])
        clear hn
        have hgen := sgen; have hgen2 := sgen2; have hgen3 := sgen3; go_enter Try.func41, Try.ntmps41
        go_wp2_with (first | (go_at_call 47; refine (c_size _ _ (by assumption) (by assumption)).mono ?_; rintro e w' ⟨rfl, rfl⟩) | (go_at_call 46; refine (HM.out _).mono ?_; rintro e w' ⟨rfl, rfl⟩) | (go_at_call 48; refine (HD.out _).mono ?_; rintro e w' ⟨rfl, nn, rfl⟩))
        go_ret2
        exact ⟨ret_int2 HL.out.symm HH.out.symm, _, rfl⟩
theorem c_ratio9 (a b d : Int) (w : World) (a1 : -1000000000000000000 ≤ a) (a2 : a ≤ 1000000000000000000) (b1 : -1000000000000000000 ≤ b) (b2 : b ≤ 1000000000000000000) (d1 : 1 ≤ d) (d2 : d ≤ 1000000000) :
    Calls Try.prog 41 #[.int .i64 a, .int .i64 b, .int .i64 d] w fun e w' => e = .returned (.tuple #[.int .i64 (ratLo a b d), .int .i64 (ratHi a b d)]) ∧ ∃ n, w' = w.drewN n := by
  by_cases h1 : absI a * absI b < 18446744073709551616
  · exact c_ratio_lo a b d w a1 a2 b1 b2 d1 (by omega) h1
  · by_cases h2 : absI a * absI b < d * 18446744073709551616
    · exact c_ratio_mid a b d w a1 a2 b1 b2 d1 d2 (by omega) h2
    · exact c_ratio_hi a b d w a1 a2 b1 b2 d1 (by omega) (by omega)
end Go.Proofs.Ytpgoahbmeedghaa
