/- The contracts of bits.Mul64 and of bits.Div64 where no long division is wanted. The contract of bits.Div64 at the divisor of the sums of terms. The contract of series.grown. -/
import Derived.Test.YtcgnhnmigmdalaaGreatDoorWkA
import Derived.Test.YtcgnhnmigmdalaaGreatDoorShelf
import Derived.Deep.QuietTactic
import Derived.BigQuiet
import Derived.BigGuard
import Derived.Test.YtcgnhnmigmdalaaGreatDoorPlA
import Derived.Shelf.Bits.Mul64
import Derived.Laws.Bits64b
import Derived.Lib.BitFns
import Derived.Test.YtcgnhnmigmdalaaGreatDoorFltD
set_option linter.unusedVariables false
set_option linter.unusedSimpArgs false
namespace Go.Proofs.YtcgnhnmigmdalaaGreatDoor
section
open Go.RowKit
theorem c_div64_lo (lo y : Int) (w : World) (h1 : 0 ≤ lo) (h2 : lo ≤ 18446744073709551615) (h3 : 1 ≤ y) (h4 : y ≤ 1000000000000000000) :
    Calls Tryz.prog 144 #[.int .u64 0, .int .u64 lo, .int .u64 y] w fun e w' => e = .returned (.tuple #[.int .u64 (lo / y), .int .u64 (lo % y)]) ∧ ∃ n, w' = w.drewN n := by
  have b0 : (y == 0) = false := by simp; omega
  have hgen := sgen; have hgen2 := sgen2; have hgen3 := sgen3; go_enter Tryz.func144, Tryz.ntmps144
  go_wp2
  go_quiet (fail)
  go_wp2
  go_ret2
  exact ⟨rfl, _, rfl⟩
theorem c_mul64 (x y : Int) (w : World) (x0 : 0 ≤ x) (x1 : x ≤ 1000000000000000000) (y0 : 0 ≤ y) (y1 : y ≤ 1000000000000000000) :
    Calls Tryz.prog 142 #[.int .u64 x, .int .u64 y] w fun e w' => e = .returned (.tuple #[.int .u64 (x * y / 18446744073709551616), .int .u64 (x * y % 18446744073709551616)]) ∧ w = w' := by
  obtain ⟨p, rfl⟩ : ∃ p : Nat, x = p := ⟨x.toNat, by omega⟩
  obtain ⟨q, rfl⟩ : ∃ q : Nat, y = q := ⟨y.toNat, by omega⟩
  refine (Tryz.bits_Mul64 p q (by omega) (by omega) w).mono ?_
  rintro e w' ⟨he, hw⟩
  refine ⟨?_, hw.symm⟩
  rw [he]
  congr 1
end
section
open Go.RowKit
theorem bl_bd : ∀ (n x : Nat), x ≤ n → x ≠ 0 → x < 2 ^ 64 → ∃ k, Lib.bitLen x = k + 1 ∧ 2 ^ k ≤ x ∧ x < 2 ^ (k + 1)
  | 0, x, hn, h0, _ => by omega
  | n + 1, x, hn, h0, h => by
    by_cases h1 : x = 1
    · subst h1; exact ⟨0, by decide, by decide, by decide⟩
    · obtain ⟨k, e, p, q⟩ := bl_bd n (x / 2) (by omega) (by omega) (by omega)
      refine ⟨k + 1, by rw [Lib.bitLen_half x h0 h, e]; omega, ?_, ?_⟩
      · rw [Nat.pow_succ]; omega
      · rw [Nat.pow_succ]; omega
theorem or_add (a b s : Nat) (hb : b < 2 ^ s) (ha : a * 2 ^ s < 18446744073709551616) (hb' : b < 18446744073709551616) : bits .or .u64 ((a * 2 ^ s : Nat) : Int) (b : Int) = ((a * 2 ^ s + b : Nat) : Int) := by
  rw [bits_or_u64_nat _ _ ha hb', ← Nat.shiftLeft_eq, Nat.shiftLeft_add_eq_or_of_lt hb]
theorem and_mask (a : Nat) (ha : a < 18446744073709551616) : bits .and .u64 (a : Int) 4294967295 = ((a % 4294967296 : Nat) : Int) := by
  have := bits_and_u64_nat a 4294967295 ha (by omega)
  rw [show ((4294967295 : Nat) : Int) = 4294967295 from rfl] at this
  rw [this, show (4294967295 : Nat) = 2 ^ 32 - 1 from rfl, Nat.and_two_pow_sub_one_eq_mod]
theorem u64_id {n : Int} (h0 : 0 ≤ n) (h1 : n < 18446744073709551616) : IntKind.u64.wrap n = n := IntWalk.u64_in n ⟨h0, by omega⟩
theorem u64_sub (A B : Int) {V : Int} (h : V = A - B) (h0 : 0 ≤ V) (h1 : V < 18446744073709551616) : IntKind.u64.wrap (IntKind.u64.wrap A - IntKind.u64.wrap B) = V := by
  rw [IntKind.wrap_u64, IntKind.wrap_u64, IntKind.wrap_u64, ← Int.sub_emod, ← h, Int.emod_eq_of_lt h0 h1]
theorem u64_add_l (A B : Int) : IntKind.u64.wrap (IntKind.u64.wrap A + B) = IntKind.u64.wrap (A + B) := by
  rw [IntKind.wrap_u64, IntKind.wrap_u64, IntKind.wrap_u64, Int.emod_add_emod]
theorem u64_nn (A : Int) : 0 ≤ IntKind.u64.wrap A := by rw [IntKind.wrap_u64]; omega
set_option maxHeartbeats 2000000 in
theorem c_div64_in (hi lo y s Y yn U L un1 un0 q1 V q0 Q R rh rh2 t1 t2 : Int) (w : World) (h1 : 1 ≤ hi) (h2 : hi < y) (h3 : y ≤ 100000000000000) (l0 : 0 ≤ lo) (l1 : lo ≤ 18446744073709551615)
   (s0 : 1 ≤ s) (s1 : s ≤ 62) (HL : Hid (∀ w, Calls Tryz.prog 155 #[.int .u64 y] w fun e w' => e = .returned (.int .i64 s) ∧ w = w'))
   (E1 : IntKind.u64.wrap (y * 2 ^ s.toNat) = Y) (E2 : Y / 4294967296 = yn) (E3 : bits .and .u64 Y 4294967295 = 0)
   (E4 : bits .or .u64 (IntKind.u64.wrap (hi * 2 ^ s.toNat)) (lo / 2 ^ (64 - s).toNat) = U)
   (E5 : IntKind.u64.wrap (lo * 2 ^ s.toNat) = L) (E6 : L / 4294967296 = un1) (E7 : bits .and .u64 L 4294967295 = un0)
   (E8 : U / yn = q1) (y0 : 0 ≤ Y) (n1 : 1 ≤ yn) (n2 : yn ≤ 4294967295) (u0 : 0 ≤ U) (u1 : U ≤ 18446744073709551615) (q10 : 0 ≤ q1) (q11 : q1 ≤ 4294967295) (p0 : 0 ≤ L) (p1 : L ≤ 18446744073709551615)
   (un10 : 0 ≤ un1) (un11 : un1 ≤ 4294967295) (un00 : 0 ≤ un0) (un01 : un0 ≤ 4294967295) (V0 : 0 ≤ V) (V1 : V ≤ 18446744073709551615) (q00 : 0 ≤ q0) (q01 : q0 ≤ 4294967295)
   (E10 : IntKind.u64.wrap (IntKind.u64.wrap (IntKind.u64.wrap (U * 4294967296) + un1) - IntKind.u64.wrap (q1 * Y)) = V)
   (E11 : V / yn = q0) 
   (E12 : IntKind.u64.wrap (IntKind.u64.wrap (IntKind.u64.wrap (V * 4294967296) + un0) - IntKind.u64.wrap (q0 * Y)) / 2 ^ s.toNat = R)
   (E9 : IntKind.u64.wrap (U - IntKind.u64.wrap (q1 * yn)) = rh) (E9b : IntKind.u64.wrap (IntKind.u64.wrap (4294967296 * rh) + un1) = t1) (t10 : 0 ≤ t1)
   (E9c : IntKind.u64.wrap (V - IntKind.u64.wrap (q0 * yn)) = rh2) (E9d : IntKind.u64.wrap (IntKind.u64.wrap (4294967296 * rh2) + un0) = t2) (t20 : 0 ≤ t2)
   (E13 : q1 * 4294967296 + q0 = Q) :
    Calls Tryz.prog 144 #[.int .u64 hi, .int .u64 lo, .int .u64 y] w fun e w' => e = .returned (.tuple #[.int .u64 Q, .int .u64 R]) ∧ ∃ n, w' = w.drewN n := by
  have b0 : (y == 0) = false := by simp; omega
  have b1 : (hi == 0) = false := by simp; omega
  have b2 : (yn == 0) = false := by simp; omega
  have hgen := sgen; have hgen2 := sgen2; have hgen3 := sgen3; go_enter Tryz.func144, Tryz.ntmps144
  go_wp2_with (go_at_call 155; refine (HL.out _).mono ?_; rintro e w' ⟨rfl, rfl⟩)
  refine wp_loop_rounds 1 ?_; rw [rounds_succ]; go_wp2
  refine wp_loop_rounds 1 ?_; rw [rounds_succ]; go_wp2
  go_ret2
  exact ⟨rfl, 0, rfl⟩
theorem c_div64_unit (hi lo : Int) (w : World) (h0 : 0 ≤ hi) (h2 : hi < 86400000000000) (l0 : 0 ≤ lo) (l1 : lo ≤ 18446744073709551615) :
    Calls Tryz.prog 144 #[.int .u64 hi, .int .u64 lo, .int .u64 86400000000000] w fun e w' => e = .returned (.tuple #[.int .u64 ((hi * 18446744073709551616 + lo) / 86400000000000), .int .u64 ((hi * 18446744073709551616 + lo) % 86400000000000)]) ∧ ∃ n, w' = w.drewN n := by
  by_cases hz : hi = 0
  · subst hz
    rw [Int.zero_mul, Int.zero_add]
    exact c_div64_lo lo 86400000000000 w l0 l1 (by omega) (by omega)
  have h1 : 1 ≤ hi := by omega
  have hHL := fun w => Tryz.bits_LeadingZeros64 86400000000000 w (by omega) (by omega)
  rw [show (64 : Int) - (Lib.bitLen (86400000000000 : Int).toNat : Int) = 17 by decide +kernel] at hHL
  have HL : Hid (∀ w, Calls Tryz.prog 155 #[.int .u64 86400000000000] w fun e w' => e = .returned (.int .i64 17) ∧ w = w') := Lib.hid fun w => (hHL w).mono fun _ _ ⟨a, b⟩ => ⟨a, b.symm⟩
  obtain ⟨H, hH⟩ : ∃ H : Nat, hi = H := ⟨hi.toNat, by omega⟩
  obtain ⟨G, hG⟩ : ∃ G : Nat, lo = G := ⟨lo.toNat, by omega⟩
  subst hH hG
  have d := div_twoU (hi := (H : Int)) (lo := (G : Int)) (y := 86400000000000) (S := 131072) (T := 140737488355328) (yn := 2636718750) (by omega) (by omega) (by omega) (by omega) (by omega) (by omega) (by omega) (by omega) rfl (by omega) rfl rfl rfl
  obtain ⟨d3, d4, d5, d6, d7, d8, d9, f1, f2, f3, f4, f5, f6, g1, g2, g3, g4, g5, g6, r1, r2⟩ := d.2.2
  have e17 : (2 : Nat) ^ 17 = 131072 := by decide
  refine c_div64_in (H : Int) (G : Int) 86400000000000 17 (86400000000000 * 131072) 2636718750 ((H : Int) * 131072 + (G : Int) / 140737488355328) ((G : Int) % 140737488355328 * 131072) ((G : Int) % 140737488355328 * 131072 / 4294967296) ((G : Int) % 140737488355328 * 131072 % 4294967296) (((H : Int) * 131072 + (G : Int) / 140737488355328) / 2636718750) (((H : Int) * 131072 + (G : Int) / 140737488355328) * 4294967296 + (G : Int) % 140737488355328 * 131072 / 4294967296 - ((H : Int) * 131072 + (G : Int) / 140737488355328) / 2636718750 * (86400000000000 * 131072)) _ _ _ _ _ _ _ w h1 h2 (by omega) l0 l1 (by omega) (by omega) HL (by decide +kernel) (by decide +kernel) (by decide +kernel) ?_ ?_ rfl ?_ rfl (by omega) (by omega) (by omega) d3 (by omega) f1 f2 d7 (by omega) (by omega) (by omega) (by omega) (by omega) f5 (by omega) g1 g2 ?_ rfl ?_ rfl rfl (u64_nn _) rfl rfl (u64_nn _) r1
  · rw [show ((2 : Int) ^ (17 : Int).toNat) = 131072 by decide, show ((2 : Int) ^ (64 - (17 : Int)).toNat) = 140737488355328 by decide, u64_id (by omega) (by omega)]
    have := or_add H (G / 140737488355328) 17 (by rw [e17]; omega) (by rw [e17]; omega) (by omega)
    rw [e17] at this
    rw [show (H : Int) * 131072 = ((H * 131072 : Nat) : Int) by omega, show (G : Int) / 140737488355328 = ((G / 140737488355328 : Nat) : Int) by omega, this]
    omega
  · rw [show ((2 : Int) ^ (17 : Int).toNat) = 131072 by decide, d9, IntKind.wrap_u64]; omega
  · rw [show (G : Int) % 140737488355328 * 131072 = ((G % 140737488355328 * 131072 : Nat) : Int) by omega, and_mask _ (by omega)]; omega
  · rw [u64_add_l]; exact u64_sub _ _ rfl f5 (by omega)
  · rw [u64_add_l, u64_sub _ _ rfl g5 (by omega), r2, show ((2 : Int) ^ (17 : Int).toNat) = 131072 by decide]
    exact Int.mul_ediv_cancel_left _ (by omega)
end
section
open Go.RowKit
theorem ret_int2' {a b a' b' : Int} (h1 : a = a') (h2 : b = b') : Ending.returned (.tuple #[.int .i64 a, .int .i64 b]) = .returned (.tuple #[.int .i64 a', .int .i64 b']) := by rw [h1, h2]
theorem c_ssize (n p : Int) (w : World) (h : (n < 0 ∧ p = -n) ∨ (0 ≤ n ∧ p = n)) (h2 : p ≤ 9223372036854775807) : Calls Tryz.prog 146 #[.int .i64 n] w fun e w' => e = .returned (.int .i64 p) ∧ w = w' := by
  rcases h with ⟨h, hp⟩ | ⟨h, hp⟩
  · have h3 : n ≤ -n := by omega
    have h4 : n < -n := by omega
    have HP := Lib.hid hp
    have h5 : -9223372036854775807 ≤ n := by omega
    clear hp
    have hgen := sgen; have hgen2 := sgen2; have hgen3 := sgen3; go_enter Tryz.func146, Tryz.ntmps146
    go_wp2
    all_goals go_ret
    all_goals exact ⟨ret_int (by rw [HP.out]; omega), rfl⟩
  · have h3 : -n ≤ n := by omega
    have HP := Lib.hid hp
    have h5 : n ≤ 9223372036854775807 := by omega
    clear hp
    have hgen := sgen; have hgen2 := sgen2; have hgen3 := sgen3; go_enter Tryz.func146, Tryz.ntmps146
    go_wp2
    all_goals go_ret
    all_goals exact ⟨ret_int (by rw [HP.out]; omega), rfl⟩
set_option maxHeartbeats 2000000 in
theorem grown_core (rate inst R I : Int) (w : World) (hR : (rate < 0 ∧ R = -rate) ∨ (0 ≤ rate ∧ R = rate)) (hI : (inst < 0 ∧ I = -inst) ∨ (0 ≤ inst ∧ I = inst)) (r1 : R ≤ 4000000000000000) (i1 : I ≤ 400000000000000) :
    Calls Tryz.prog 131 #[.int .i64 rate, .int .i64 inst] w fun e w' => e = .returned (.tuple #[.int .i64 (grQ rate inst), .int .i64 (grR rate inst)]) ∧ ∃ n, w' = w.drewN n := by
  have r0 : 0 ≤ R := by omega
  have i0 : 0 ≤ I := by omega
  obtain ⟨p0, p1⟩ := prod_mags r0 r1 i0 i1
  have HE := gr_end hR hI
  have S1 := Lib.hid (fun w1 => c_ssize rate R w1 hR (by omega))
  have S2 := Lib.hid (fun w1 => c_ssize inst I w1 hI (by omega))
  have HM := Lib.hid (fun w1 => c_mul64 R I w1 r0 (by omega) i0 (by omega))
  have hd := fun w1 => c_div64_unit (R * I / 18446744073709551616) (R * I % 18446744073709551616) w1 (by omega) (by omega) (by omega) (by omega)
  have hpe : R * I / 18446744073709551616 * 18446744073709551616 + R * I % 18446744073709551616 = R * I := by omega
  rw [hpe] at hd
  have HD := Lib.hid hd
  clear hd hpe
  have q0 : 0 ≤ R * I / 86400000000000 := by omega
  have q1 : R * I / 86400000000000 ≤ 20000000000000000 := by omega
  have m0 : 0 ≤ R * I % 86400000000000 := by omega
  have m1 : R * I % 86400000000000 < 86400000000000 := by omega
  have l0 : 0 ≤ R * I / 18446744073709551616 := by omega
  have l1 : R * I / 18446744073709551616 < 86400000000000 := by omega
  have k0 : 0 ≤ R * I % 18446744073709551616 := by omega
  have k1 : R * I % 18446744073709551616 < 18446744073709551616 := by omega
  generalize R * I / 86400000000000 = Q at *
  generalize R * I % 86400000000000 = M at *
  generalize R * I / 18446744073709551616 = H at *
  generalize R * I % 18446744073709551616 = L at *
  clear p0 p1
  rcases hR with ⟨h1, -⟩ | ⟨h1, -⟩ <;> rcases hI with ⟨h2, -⟩ | ⟨h2, -⟩
  · have d1 : decide (rate < 0) = true := decide_eq_true h1
    have d2 : decide (inst < 0) = true := decide_eq_true h2
    have hz := HE.1 (by rw [d1, d2])
    clear HE
    have d3 : (((true : Bool) != true) : Bool) = false := rfl
    have HF := Lib.hid hz
    clear hz
    have hgen := sgen; have hgen2 := sgen2; have hgen3 := sgen3; go_enter Tryz.func131, Tryz.ntmps131
    go_wp2_with (first | (go_at_call 146; (with_reducible refine (S1.out _).mono ?_); rintro e w' ⟨rfl, rfl⟩) | (go_at_call 146; (with_reducible refine (S2.out _).mono ?_); rintro e w' ⟨rfl, rfl⟩) | (go_at_call 142; refine (HM.out _).mono ?_; rintro e w' ⟨rfl, rfl⟩) | (go_at_call 144; refine (HD.out _).mono ?_; rintro e w' ⟨rfl, nn, rfl⟩))
    go_ret2
    exact ⟨ret_int2' HF.out.1 HF.out.2, _, rfl⟩
  · have d1 : decide (rate < 0) = true := decide_eq_true h1
    have d2 : decide (inst < 0) = false := decide_eq_false (by omega)
    have hz := HE.2 (by rw [d1, d2]; decide)
    clear HE
    have d3 : (((true : Bool) != false) : Bool) = true := rfl
    by_cases hr : 0 < M
    · have HF := Lib.hid (hz.1 hr)
      clear hz
      have hr2 : -M < 0 := by omega
      have hgen := sgen; have hgen2 := sgen2; have hgen3 := sgen3; go_enter Tryz.func131, Tryz.ntmps131
      go_wp2_with (first | (go_at_call 146; (with_reducible refine (S1.out _).mono ?_); rintro e w' ⟨rfl, rfl⟩) | (go_at_call 146; (with_reducible refine (S2.out _).mono ?_); rintro e w' ⟨rfl, rfl⟩) | (go_at_call 142; refine (HM.out _).mono ?_; rintro e w' ⟨rfl, rfl⟩) | (go_at_call 144; refine (HD.out _).mono ?_; rintro e w' ⟨rfl, nn, rfl⟩))
      go_ret2
      exact ⟨ret_int2' HF.out.1 HF.out.2, _, rfl⟩
    · have HF := Lib.hid (hz.2 (by omega))
      clear hz
      have hr2 : 0 ≤ -M := by omega
      have hgen := sgen; have hgen2 := sgen2; have hgen3 := sgen3; go_enter Tryz.func131, Tryz.ntmps131
      go_wp2_with (first | (go_at_call 146; (with_reducible refine (S1.out _).mono ?_); rintro e w' ⟨rfl, rfl⟩) | (go_at_call 146; (with_reducible refine (S2.out _).mono ?_); rintro e w' ⟨rfl, rfl⟩) | (go_at_call 142; refine (HM.out _).mono ?_; rintro e w' ⟨rfl, rfl⟩) | (go_at_call 144; refine (HD.out _).mono ?_; rintro e w' ⟨rfl, nn, rfl⟩))
      go_ret2
      exact ⟨ret_int2' HF.out.1 HF.out.2, _, rfl⟩
  · have d1 : decide (rate < 0) = false := decide_eq_false (by omega)
    have d2 : decide (inst < 0) = true := decide_eq_true h2
    have hz := HE.2 (by rw [d1, d2]; decide)
    clear HE
    have d3 : (((false : Bool) != true) : Bool) = true := rfl
    by_cases hr : 0 < M
    · have HF := Lib.hid (hz.1 hr)
      clear hz
      have hr2 : -M < 0 := by omega
      have hgen := sgen; have hgen2 := sgen2; have hgen3 := sgen3; go_enter Tryz.func131, Tryz.ntmps131
      go_wp2_with (first | (go_at_call 146; (with_reducible refine (S1.out _).mono ?_); rintro e w' ⟨rfl, rfl⟩) | (go_at_call 146; (with_reducible refine (S2.out _).mono ?_); rintro e w' ⟨rfl, rfl⟩) | (go_at_call 142; refine (HM.out _).mono ?_; rintro e w' ⟨rfl, rfl⟩) | (go_at_call 144; refine (HD.out _).mono ?_; rintro e w' ⟨rfl, nn, rfl⟩))
      go_ret2
      exact ⟨ret_int2' HF.out.1 HF.out.2, _, rfl⟩
    · have HF := Lib.hid (hz.2 (by omega))
      clear hz
      have hr2 : 0 ≤ -M := by omega
      have hgen := sgen; have hgen2 := sgen2; have hgen3 := sgen3; go_enter Tryz.func131, Tryz.ntmps131
      go_wp2_with (first | (go_at_call 146; (with_reducible refine (S1.out _).mono ?_); rintro e w' ⟨rfl, rfl⟩) | (go_at_call 146; (with_reducible refine (S2.out _).mono ?_); rintro e w' ⟨rfl, rfl⟩) | (go_at_call 142; refine (HM.out _).mono ?_; rintro e w' ⟨rfl, rfl⟩) | (go_at_call 144; refine (HD.out _).mono ?_; rintro e w' ⟨rfl, nn, rfl⟩))
      go_ret2
      exact ⟨ret_int2' HF.out.1 HF.out.2, _, rfl⟩
  · have d1 : decide (rate < 0) = false := decide_eq_false (by omega)
    have d2 : decide (inst < 0) = false := decide_eq_false (by omega)
    have hz := HE.1 (by rw [d1, d2])
    clear HE
    have d3 : (((false : Bool) != false) : Bool) = false := rfl
    have HF := Lib.hid hz
    clear hz
    have hgen := sgen; have hgen2 := sgen2; have hgen3 := sgen3; go_enter Tryz.func131, Tryz.ntmps131
    go_wp2_with (first | (go_at_call 146; (with_reducible refine (S1.out _).mono ?_); rintro e w' ⟨rfl, rfl⟩) | (go_at_call 146; (with_reducible refine (S2.out _).mono ?_); rintro e w' ⟨rfl, rfl⟩) | (go_at_call 142; refine (HM.out _).mono ?_; rintro e w' ⟨rfl, rfl⟩) | (go_at_call 144; refine (HD.out _).mono ?_; rintro e w' ⟨rfl, nn, rfl⟩))
    go_ret2
    exact ⟨ret_int2' HF.out.1 HF.out.2, _, rfl⟩
theorem c_grown (rate inst : Int) (w : World) (r1 : -4000000000000000 ≤ rate) (r2 : rate ≤ 4000000000000000) (i1 : -400000000000000 ≤ inst) (i2 : inst ≤ 400000000000000) :
    Calls Tryz.prog 131 #[.int .i64 rate, .int .i64 inst] w fun e w' => e = .returned (.tuple #[.int .i64 (grQ rate inst), .int .i64 (grR rate inst)]) ∧ ∃ n, w' = w.drewN n := by
  by_cases h1 : rate < 0 <;> by_cases h2 : inst < 0
  · exact grown_core rate inst (-rate) (-inst) w (.inl ⟨h1, rfl⟩) (.inl ⟨h2, rfl⟩) (by omega) (by omega)
  · exact grown_core rate inst (-rate) inst w (.inl ⟨h1, rfl⟩) (.inr ⟨by omega, rfl⟩) (by omega) (by omega)
  · exact grown_core rate inst rate (-inst) w (.inr ⟨by omega, rfl⟩) (.inl ⟨h2, rfl⟩) (by omega) (by omega)
  · exact grown_core rate inst rate inst w (.inr ⟨by omega, rfl⟩) (.inr ⟨by omega, rfl⟩) (by omega) (by omega)
end
end Go.Proofs.YtcgnhnmigmdalaaGreatDoor
