/- The contract of series.grown. -/
import Derived.Test.YtffnmfcaoldlhaaDoorWalkDivU
import Derived.Test.YtffnmfcaoldlhaaDoorPlainGr
set_option linter.unusedVariables false
set_option linter.unusedSimpArgs false
namespace Go.Proofs.YtffnmfcaoldlhaaDoor
open Go.RowKit
theorem ret_int2' {a b a' b' : Int} (h1 : a = a') (h2 : b = b') : Ending.returned (.tuple #[.int .i64 a, .int .i64 b]) = .returned (.tuple #[.int .i64 a', .int .i64 b']) := by rw [h1, h2]
theorem c_ssize (n p : Int) (w : World) (h : (n < 0 ∧ p = -n) ∨ (0 ≤ n ∧ p = n)) (h2 : p ≤ 9223372036854775807) : Calls Tryd.prog 96 #[.int .i64 n] w fun e w' => e = .returned (.int .i64 p) ∧ w = w' := by
  rcases h with ⟨h, hp⟩ | ⟨h, hp⟩
  · have h3 : n ≤ -n := by omega
    have h4 : n < -n := by omega
    have HP := Lib.hid hp
    have h5 : -9223372036854775807 ≤ n := by omega
    clear hp
    have hgen := sgen; have hgen2 := sgen2; have hgen3 := sgen3; go_enter Tryd.func96, Tryd.ntmps96
    go_wp2
    all_goals go_ret
    all_goals exact ⟨ret_int (by rw [HP.out]; omega), rfl⟩
  · have h3 : -n ≤ n := by omega
    have HP := Lib.hid hp
    have h5 : n ≤ 9223372036854775807 := by omega
    clear hp
    have hgen := sgen; have hgen2 := sgen2; have hgen3 := sgen3; go_enter Tryd.func96, Tryd.ntmps96
    go_wp2
    all_goals go_ret
    all_goals exact ⟨ret_int (by rw [HP.out]; omega), rfl⟩
set_option maxHeartbeats 2000000 in
theorem grown_core (rate inst R I : Int) (w : World) (hR : (rate < 0 ∧ R = -rate) ∨ (0 ≤ rate ∧ R = rate)) (hI : (inst < 0 ∧ I = -inst) ∨ (0 ≤ inst ∧ I = inst)) (r1 : R ≤ 4000000000000000) (i1 : I ≤ 400000000000000) :
    Calls Tryd.prog 100 #[.int .i64 rate, .int .i64 inst] w fun e w' => e = .returned (.tuple #[.int .i64 (grQ rate inst), .int .i64 (grR rate inst)]) ∧ ∃ n, w' = w.drewN n := by
  have r0 : 0 ≤ R := by omega
  have i0 : 0 ≤ I := by omega
  obtain ⟨p0, p1⟩ := prod_mags r0 r1 i0 i1
  have HE := gr_end hR hI
  have S1 := Lib.hid (fun w1 => c_ssize rate R w1 hR (by omega))
  have S2 := Lib.hid (fun w1 => c_ssize inst I w1 hI (by omega))
  have HM := Lib.hid (fun w1 => c_mul64 R I w1 r0 (by omega) i0 (by omega))
  have hd := fun w1 => c_div64_unit (R * I / 18446744073709551616) (R * I % 18446744073709551616) w1 (by omega) (by omega) (by omega) (by omega)
  have hpe : R * I / 18446744073709551616 * 18446744073709551616 + R * I % 18446744073709551616 = R * I := by omega
  rw [hpe] at hd
  have HD := Lib.hid hd
  clear hd hpe
  have q0 : 0 ≤ R * I / 86400000000000 := by omega
  have q1 : R * I / 86400000000000 ≤ 20000000000000000 := by omega
  have m0 : 0 ≤ R * I % 86400000000000 := by omega
  have m1 : R * I % 86400000000000 < 86400000000000 := by omega
  have l0 : 0 ≤ R * I / 18446744073709551616 := by omega
  have l1 : R * I / 18446744073709551616 < 86400000000000 := by omega
  have k0 : 0 ≤ R * I % 18446744073709551616 := by omega
  have k1 : R * I % 18446744073709551616 < 18446744073709551616 := by omega
  generalize R * I / 86400000000000 = Q at *
  generalize R * I % 86400000000000 = M at *
  generalize R * I / 18446744073709551616 = H at *
  generalize R * I % 18446744073709551616 = L at *
  clear p0 p1
  rcases hR with ⟨h1, -⟩ | ⟨h1, -⟩ <;> rcases hI with ⟨h2, -⟩ | ⟨h2, -⟩
  · have d1 : decide (rate < 0) = true := decide_eq_true h1
    have d2 : decide (inst < 0) = true := decide_eq_true h2
    have hz := HE.1 (by rw [d1, d2])
    clear HE
    have d3 : (((true : Bool) != true) : Bool) = false := rfl
    have HF := Lib.hid hz
    clear hz
    have hgen := sgen; have hgen2 := sgen2; have hgen3 := sgen3; go_enter Tryd.func100, Tryd.ntmps100
    go_wp2_with (first | (go_at_call 96; (with_reducible refine (S1.out _).mono ?_); rintro e w' ⟨rfl, rfl⟩) | (go_at_call 96; (with_reducible refine (S2.out _).mono ?_); rintro e w' ⟨rfl, rfl⟩) | (go_at_call 115; refine (HM.out _).mono ?_; rintro e w' ⟨rfl, rfl⟩) | (go_at_call 116; refine (HD.out _).mono ?_; rintro e w' ⟨rfl, nn, rfl⟩))
    go_ret2
    exact ⟨ret_int2' HF.out.1 HF.out.2, _, rfl⟩
  · have d1 : decide (rate < 0) = true := decide_eq_true h1
    have d2 : decide (inst < 0) = false := decide_eq_false (by omega)
    have hz := HE.2 (by rw [d1, d2]; decide)
    clear HE
    have d3 : (((true : Bool) != false) : Bool) = true := rfl
    by_cases hr : 0 < M
    · have HF := Lib.hid (hz.1 hr)
      clear hz
      have hr2 : -M < 0 := by omega
      have hgen := sgen; have hgen2 := sgen2; have hgen3 := sgen3; go_enter Tryd.func100, Tryd.ntmps100
      go_wp2_with (first | (go_at_call 96; (with_reducible refine (S1.out _).mono ?_); rintro e w' ⟨rfl, rfl⟩) | (go_at_call 96; (with_reducible refine (S2.out _).mono ?_); rintro e w' ⟨rfl, rfl⟩) | (go_at_call 115; refine (HM.out _).mono ?_; rintro e w' ⟨rfl, rfl⟩) | (go_at_call 116; refine (HD.out _).mono ?_; rintro e w' ⟨rfl, nn, rfl⟩))
      go_ret2
      exact ⟨ret_int2' HF.out.1 HF.out.2, _, rfl⟩
    · have HF := Lib.hid (hz.2 (by omega))
      clear hz
      have hr2 : 0 ≤ -M := by omega
      have hgen := sgen; have hgen2 := sgen2; have hgen3 := sgen3; go_enter Tryd.func100, Tryd.ntmps100
      go_wp2_with (first | (go_at_call 96; (with_reducible refine (S1.out _).mono ?_); rintro e w' ⟨rfl, rfl⟩) | (go_at_call 96; (with_reducible refine (S2.out _).mono ?_); rintro e w' ⟨rfl, rfl⟩) | (go_at_call 115; refine (HM.out _).mono ?_; rintro e w' ⟨rfl, rfl⟩) | (go_at_call 116; refine (HD.out _).mono ?_; rintro e w' ⟨rfl, nn, rfl⟩))
      go_ret2
      exact ⟨ret_int2' HF.out.1 HF.out.2, _, rfl⟩
  · have d1 : decide (rate < 0) = false := decide_eq_false (by omega)
    have d2 : decide (inst < 0) = true := decide_eq_true h2
    have hz := HE.2 (by rw [d1, d2]; decide)
    clear HE
    have d3 : (((false : Bool) != true) : Bool) = true := rfl
    by_cases hr : 0 < M
    · have HF := Lib.hid (hz.1 hr)
      clear hz
      have hr2 : -M < 0 := by omega
      have hgen := sgen; have hgen2 := sgen2; have hgen3 := sgen3; go_enter Tryd.func100, Tryd.ntmps100
      go_wp2_with (first | (go_at_call 96; (with_reducible refine (S1.out _).mono ?_); rintro e w' ⟨rfl, rfl⟩) | (go_at_call 96; (with_reducible refine (S2.out _).mono ?_); rintro e w' ⟨rfl, rfl⟩) | (go_at_call 115; refine (HM.out _).mono ?_; rintro e w' ⟨rfl, rfl⟩) | (go_at_call 116; refine (HD.out _).mono ?_; rintro e w' ⟨rfl, nn, rfl⟩))
      go_ret2
      exact ⟨ret_int2' HF.out.1 HF.out.2, _, rfl⟩
    · have HF := Lib.hid (hz.2 (by omega))
      clear hz
      have hr2 : 0 ≤ -M := by omega
      have hgen := sgen; have hgen2 := sgen2; have hgen3 := sgen3; go_enter Tryd.func100, Tryd.ntmps100
      go_wp2_with (first | (go_at_call 96; (with_reducible refine (S1.out _).mono ?_); rintro e w' ⟨rfl, rfl⟩) | (go_at_call 96; (with_reducible refine (S2.out _).mono ?_); rintro e w' ⟨rfl, rfl⟩) | (go_at_call 115; refine (HM.out _).mono ?_; rintro e w' ⟨rfl, rfl⟩) | (go_at_call 116; refine (HD.out _).mono ?_; rintro e w' ⟨rfl, nn, rfl⟩))
      go_ret2
      exact ⟨ret_int2' HF.out.1 HF.out.2, _, rfl⟩
  · have d1 : decide (rate < 0) = false := decide_eq_false (by omega)
    have d2 : decide (inst < 0) = false := decide_eq_false (by omega)
    have hz := HE.1 (by rw [d1, d2])
    clear HE
    have d3 : (((false : Bool) != false) : Bool) = false := rfl
    have HF := Lib.hid hz
    clear hz
    have hgen := sgen; have hgen2 := sgen2; have hgen3 := sgen3; go_enter Tryd.func100, Tryd.ntmps100
    go_wp2_with (first | (go_at_call 96; (with_reducible refine (S1.out _).mono ?_); rintro e w' ⟨rfl, rfl⟩) | (go_at_call 96; (with_reducible refine (S2.out _).mono ?_); rintro e w' ⟨rfl, rfl⟩) | (go_at_call 115; refine (HM.out _).mono ?_; rintro e w' ⟨rfl, rfl⟩) | (go_at_call 116; refine (HD.out _).mono ?_; rintro e w' ⟨rfl, nn, rfl⟩))
    go_ret2
    exact ⟨ret_int2' HF.out.1 HF.out.2, _, rfl⟩
theorem c_grown (rate inst : Int) (w : World) (r1 : -4000000000000000 ≤ rate) (r2 : rate ≤ 4000000000000000) (i1 : -400000000000000 ≤ inst) (i2 : inst ≤ 400000000000000) :
    Calls Tryd.prog 100 #[.int .i64 rate, .int .i64 inst] w fun e w' => e = .returned (.tuple #[.int .i64 (grQ rate inst), .int .i64 (grR rate inst)]) ∧ ∃ n, w' = w.drewN n := by
  by_cases h1 : rate < 0 <;> by_cases h2 : inst < 0
  · exact grown_core rate inst (-rate) (-inst) w (.inl ⟨h1, rfl⟩) (.inl ⟨h2, rfl⟩) (by omega) (by omega)
  · exact grown_core rate inst (-rate) inst w (.inl ⟨h1, rfl⟩) (.inr ⟨by omega, rfl⟩) (by omega) (by omega)
  · exact grown_core rate inst rate (-inst) w (.inr ⟨by omega, rfl⟩) (.inl ⟨h2, rfl⟩) (by omega) (by omega)
  · exact grown_core rate inst rate inst w (.inr ⟨by omega, rfl⟩) (.inr ⟨by omega, rfl⟩) (by omega) (by omega)
end Go.Proofs.YtffnmfcaoldlhaaDoor
