/- The contract of bits.Div64 where the divisor is at most 10^9. -/
import Derived.Test.YtpgoahbmeedghaaWalkRat
import Derived.Test.YtpgoahbmeedghaaPlainDiv
import Derived.Shelf.Bits.Mul64
import Derived.Laws.Bits64b
import Derived.Lib.BitFns
set_option linter.unusedVariables false
set_option linter.unusedSimpArgs false
namespace Go.Proofs.Ytpgoahbmeedghaa
open Go.RowKit
theorem bl_bd : ∀ (n x : Nat), x ≤ n → x ≠ 0 → x < 2 ^ 64 → ∃ k, Lib.bitLen x = k + 1 ∧ 2 ^ k ≤ x ∧ x < 2 ^ (k + 1)
  | 0, x, hn, h0, _ => by omega
  | n + 1, x, hn, h0, h => by
    by_cases h1 : x = 1
    · subst h1; exact ⟨0, by decide, by decide, by decide⟩
    · obtain ⟨k, e, p, q⟩ := bl_bd n (x / 2) (by omega) (by omega) (by omega)
      refine ⟨k + 1, by rw [Lib.bitLen_half x h0 h, e]; omega, ?_, ?_⟩
      · rw [Nat.pow_succ]; omega
      · rw [Nat.pow_succ]; omega
theorem or_add (a b s : Nat) (hb : b < 2 ^ s) (ha : a * 2 ^ s < 18446744073709551616) (hb' : b < 18446744073709551616) : bits .or .u64 ((a * 2 ^ s : Nat) : Int) (b : Int) = ((a * 2 ^ s + b : Nat) : Int) := by
  rw [bits_or_u64_nat _ _ ha hb', ← Nat.shiftLeft_eq, Nat.shiftLeft_add_eq_or_of_lt hb]
theorem and_mask (a : Nat) (ha : a < 18446744073709551616) : bits .and .u64 (a : Int) 4294967295 = ((a % 4294967296 : Nat) : Int) := by
  have := bits_and_u64_nat a 4294967295 ha (by omega)
  rw [show ((4294967295 : Nat) : Int) = 4294967295 from rfl] at this
  rw [this, show (4294967295 : Nat) = 2 ^ 32 - 1 from rfl, Nat.and_two_pow_sub_one_eq_mod]
theorem u64_id {n : Int} (h0 : 0 ≤ n) (h1 : n < 18446744073709551616) : IntKind.u64.wrap n = n := IntWalk.u64_in n ⟨h0, by omega⟩
theorem u64_sub (A B : Int) {V : Int} (h : V = A - B) (h0 : 0 ≤ V) (h1 : V < 18446744073709551616) : IntKind.u64.wrap (IntKind.u64.wrap A - IntKind.u64.wrap B) = V := by
  rw [IntKind.wrap_u64, IntKind.wrap_u64, IntKind.wrap_u64, ← Int.sub_emod, ← h, Int.emod_eq_of_lt h0 h1]
theorem u64_add_l (A B : Int) : IntKind.u64.wrap (IntKind.u64.wrap A + B) = IntKind.u64.wrap (A + B) := by
  rw [IntKind.wrap_u64, IntKind.wrap_u64, IntKind.wrap_u64, Int.emod_add_emod]
theorem u64_nn (A : Int) : 0 ≤ IntKind.u64.wrap A := by rw [IntKind.wrap_u64]; omega
set_option maxHeartbeats 2000000 in
theorem c_div64_in (hi lo y s Y yn U L un1 un0 q1 V q0 Q R rh rh2 t1 t2 : Int) (w : World) (h1 : 1 ≤ hi) (h2 : hi < y) (h3 : y ≤ 1000000000) (l0 : 0 ≤ lo) (l1 : lo ≤ 18446744073709551615)
   (s0 : 34 ≤ s) (s1 : s ≤ 62) (HL : Hid (∀ w, Calls Try.prog 51 #[.int .u64 y] w fun e w' => e = .returned (.int .i64 s) ∧ w = w'))
   (E1 : IntKind.u64.wrap (y * 2 ^ s.toNat) = Y) (E2 : Y / 4294967296 = yn) (E3 : bits .and .u64 Y 4294967295 = 0)
   (E4 : bits .or .u64 (IntKind.u64.wrap (hi * 2 ^ s.toNat)) (lo / 2 ^ (64 - s).toNat) = U)
   (E5 : IntKind.u64.wrap (lo * 2 ^ s.toNat) = L) (E6 : L / 4294967296 = un1) (E7 : bits .and .u64 L 4294967295 = un0)
   (E8 : U / yn = q1) (y0 : 0 ≤ Y) (n1 : 1 ≤ yn) (n2 : yn ≤ 4294967295) (u0 : 0 ≤ U) (u1 : U ≤ 18446744073709551615) (q10 : 0 ≤ q1) (q11 : q1 ≤ 4294967295) (p0 : 0 ≤ L) (p1 : L ≤ 18446744073709551615)
   (un10 : 0 ≤ un1) (un11 : un1 ≤ 4294967295) (un00 : 0 ≤ un0) (un01 : un0 ≤ 4294967295) (V0 : 0 ≤ V) (V1 : V ≤ 18446744073709551615) (q00 : 0 ≤ q0) (q01 : q0 ≤ 4294967295)
   (E10 : IntKind.u64.wrap (IntKind.u64.wrap (IntKind.u64.wrap (U * 4294967296) + un1) - IntKind.u64.wrap (q1 * Y)) = V)
   (E11 : V / yn = q0) 
   (E12 : IntKind.u64.wrap (IntKind.u64.wrap (IntKind.u64.wrap (V * 4294967296) + un0) - IntKind.u64.wrap (q0 * Y)) / 2 ^ s.toNat = R)
   (E9 : IntKind.u64.wrap (U - IntKind.u64.wrap (q1 * yn)) = rh) (E9b : IntKind.u64.wrap (IntKind.u64.wrap (4294967296 * rh) + un1) = t1) (t10 : 0 ≤ t1)
   (E9c : IntKind.u64.wrap (V - IntKind.u64.wrap (q0 * yn)) = rh2) (E9d : IntKind.u64.wrap (IntKind.u64.wrap (4294967296 * rh2) + un0) = t2) (t20 : 0 ≤ t2)
   (E13 : q1 * 4294967296 + q0 = Q) :
    Calls Try.prog 48 #[.int .u64 hi, .int .u64 lo, .int .u64 y] w fun e w' => e = .returned (.tuple #[.int .u64 Q, .int .u64 R]) ∧ ∃ n, w' = w.drewN n := by
  have b0 : (y == 0) = false := by simp; omega
  have b1 : (hi == 0) = false := by simp; omega
  have b2 : (yn == 0) = false := by simp; omega
  have hgen := sgen; have hgen2 := sgen2; have hgen3 := sgen3; go_enter Try.func48, Try.ntmps48
  go_wp2_with (go_at_call 51; refine (HL.out _).mono ?_; rintro e w' ⟨rfl, rfl⟩)
  refine wp_loop_rounds 1 ?_; rw [rounds_succ]; go_wp2
  refine wp_loop_rounds 1 ?_; rw [rounds_succ]; go_wp2
  go_ret2
  exact ⟨rfl, 0, rfl⟩
theorem c_div64_hi (hi lo y : Int) (w : World) (h1 : 1 ≤ hi) (h2 : hi < y) (h3 : y ≤ 1000000000) (l0 : 0 ≤ lo) (l1 : lo ≤ 18446744073709551615) :
    Calls Try.prog 48 #[.int .u64 hi, .int .u64 lo, .int .u64 y] w fun e w' => e = .returned (.tuple #[.int .u64 ((hi * 18446744073709551616 + lo) / y), .int .u64 ((hi * 18446744073709551616 + lo) % y)]) ∧ ∃ n, w' = w.drewN n := by
  obtain ⟨k, hk, k1, k2⟩ := bl_bd y.toNat y.toNat (Nat.le_refl _) (by omega) (by omega)
  have hk30 : k ≤ 29 := by
    apply Nat.le_of_lt_succ
    apply (Nat.pow_lt_pow_iff_right (a := 2) (by omega)).1
    have : (2 : Nat) ^ 30 = 1073741824 := by decide
    omega
  have hk1 : 1 ≤ k := by
    cases k with
    | zero => omega
    | succ k => omega
  obtain ⟨s, hs⟩ : ∃ s : Nat, s = 63 - k := ⟨_, rfl⟩
  have e1 : (2 : Nat) ^ s = 4294967296 * 2 ^ (s - 32) := by
    rw [show (4294967296 : Nat) = 2 ^ 32 by decide, ← Nat.pow_add]; congr 1; omega
  have e2 : (2 : Nat) ^ s * 2 ^ (64 - s) = 18446744073709551616 := by
    rw [← Nat.pow_add, show s + (64 - s) = 64 by omega]
  have e3 : y.toNat * 2 ^ (s - 32) < 4294967296 := by
    have h : (2 : Nat) ^ (k + 1) * 2 ^ (s - 32) = 4294967296 := by
      rw [← Nat.pow_add, show k + 1 + (s - 32) = 32 by omega]
    have h2 := Nat.mul_lt_mul_of_pos_right k2 (show 0 < 2 ^ (s - 32) from Nat.pow_pos (by omega))
    omega
  have p1 : 0 < (2 : Nat) ^ (s - 32) := Nat.pow_pos (by omega)
  have p2 : 0 < (2 : Nat) ^ (64 - s) := Nat.pow_pos (by omega)
  obtain ⟨N, hN⟩ : ∃ N : Nat, y = N := ⟨y.toNat, by omega⟩
  obtain ⟨H, hH⟩ : ∃ H : Nat, hi = H := ⟨hi.toNat, by omega⟩
  obtain ⟨G, hG⟩ : ∃ G : Nat, lo = G := ⟨lo.toNat, by omega⟩
  have hHL := fun w => Try.bits_LeadingZeros64 y w (by omega) (by omega)
  rw [hk, show (64 : Int) - ((k + 1 : Nat) : Int) = (s : Int) by omega] at hHL
  have HL : Hid (∀ w, Calls Try.prog 51 #[.int .u64 y] w fun e w' => e = .returned (.int .i64 (s : Int)) ∧ w = w') := Lib.hid fun w => (hHL w).mono fun _ _ ⟨a, b⟩ => ⟨a, b.symm⟩
  subst hN hH hG
  rw [Int.toNat_natCast] at e3
  generalize hSS : (2 : Nat) ^ s = S at *
  generalize hS' : (2 : Nat) ^ (s - 32) = S' at *
  generalize hTT : (2 : Nat) ^ (64 - s) = T at *
  have d := div_two (hi := (H : Int)) (lo := (G : Int)) (y := (N : Int)) (S := (S : Int)) (T := (T : Int)) (S' := (S' : Int)) (by omega) (by rw [← Int.natCast_mul, e2]; rfl) (by omega) (by omega) (by omega) (by omega) (by rw [← Int.natCast_mul]; omega) (by omega) (by omega) rfl rfl rfl rfl rfl
  obtain ⟨d1, d2, d3, d4, d5, d6, d7, d8, d9, f1, f2, f3, f4, f5, f6, g1, g2, g3, g4, g5, g6, r1, r2⟩ := d
  have eS : ((2 : Int) ^ (s : Int).toNat) = (S : Int) := by rw [Int.toNat_natCast, ← hSS]; exact (Int.natCast_pow 2 s).symm
  have eT : ((2 : Int) ^ (64 - (s : Int)).toNat) = (T : Int) := by
    rw [show (64 - (s : Int)).toNat = 64 - s by omega, ← hTT]; exact (Int.natCast_pow 2 (64 - s)).symm
  have hNS : (N : Int) * (S : Int) = ((N * S : Nat) : Int) := by rw [Int.natCast_mul]
  have hGT : (G : Int) % (T : Int) * (S : Int) = ((G % T * S : Nat) : Int) := by rw [Int.natCast_mul, Int.natCast_emod]
  have hGdT : (G : Int) / (T : Int) = ((G / T : Nat) : Int) := by rw [Int.natCast_ediv]
  have hHS : (H : Int) * (S : Int) = ((H * S : Nat) : Int) := by rw [Int.natCast_mul]
  have b1 : (N : Int) * (S : Int) < 18446744073709551616 := by
    rw [hNS, e1]
    have : N * (4294967296 * S') = 4294967296 * (N * S') := by rw [← Nat.mul_assoc, Nat.mul_comm N, Nat.mul_assoc]
    rw [this]; omega
  have hHS0 : (0 : Int) ≤ (H : Int) * (S : Int) := Int.mul_nonneg (by omega) (by omega)
  refine c_div64_in (H : Int) (G : Int) (N : Int) (s : Int) ((N : Int) * S) ((N : Int) * S') ((H : Int) * S + (G : Int) / T) ((G : Int) % T * S) ((G : Int) % T * S / 4294967296) ((G : Int) % T * S % 4294967296) (((H : Int) * S + (G : Int) / T) / ((N : Int) * S')) (((H : Int) * S + (G : Int) / T) * 4294967296 + (G : Int) % T * S / 4294967296 - ((H : Int) * S + (G : Int) / T) / ((N : Int) * S') * ((N : Int) * S)) _ _ _ _ _ _ _ w h1 h2 h3 l0 l1 (by omega) (by omega) HL ?_ ?_ ?_ ?_ ?_ rfl ?_ rfl (by omega) d2 ?_ d3 (by omega) f1 f2 d7 (by omega) (by omega) (by omega) (by omega) (by omega) f5 (by omega) g1 g2 ?_ rfl ?_ rfl rfl (u64_nn _) rfl rfl (u64_nn _) r1
  · rw [eS]; exact u64_id (by rw [hNS]; omega) b1
  · rw [d1]; exact Int.mul_ediv_cancel _ (by omega)
  · rw [hNS, and_mask _ (by omega), e1]
    have : N * (4294967296 * S') = 4294967296 * (N * S') := by rw [← Nat.mul_assoc, Nat.mul_comm N, Nat.mul_assoc]
    rw [this]; omega
  · rw [eS, eT, u64_id hHS0 (by omega), hHS, hGdT, ← hSS, or_add H (G / T) s (by rw [hSS]; omega) (by rw [hSS]; omega) (by omega), hSS]
    omega
  · rw [eS, d9, IntKind.wrap_u64]; omega
  · rw [hGT, and_mask _ (by omega)]; omega
  · rw [← Int.natCast_mul]; omega
  · rw [u64_add_l]; exact u64_sub _ _ rfl f5 (by omega)
  · rw [u64_add_l, u64_sub _ _ rfl g5 (by omega), r2, eS]
    exact Int.mul_ediv_cancel_left _ (by omega)
end Go.Proofs.Ytpgoahbmeedghaa
