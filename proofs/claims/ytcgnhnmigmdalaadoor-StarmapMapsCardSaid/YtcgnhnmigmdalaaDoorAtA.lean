/- The contracts of math.xatan, satan, atan and atan2, and of trig.direction. The contracts of math.atan2 and of trig.direction. The contracts of math.Sqrt and of whole.Root. -/
import Derived.Test.YtcgnhnmigmdalaaDoorWkC
import Derived.Test.YtcgnhnmigmdalaaDoorTrB
import Derived.Deep.LoopGhost
set_option linter.unusedVariables false
set_option linter.unusedSimpArgs false
namespace Go.Proofs.YtcgnhnmigmdalaaDoor
section
open Go.RowKit
theorem num066 : Num 4604119971053405471 (cv w066) := cv_num (show isNum w066 = true by decide +kernel)
theorem numT38 : Num 4612618744449965542 (cv wT38) := cv_num (show isNum wT38 = true by decide +kernel)
theorem u64N (x : Nat) (hx : x < 18446744073709551616) : bits .andNot .u64 (x : Int) 9223372036854775808 = ((x % 9223372036854775808 : Nat) : Int) := by
  have e := u64_andNot (x : Int) 9223372036854775808 (by omega) (by omega) (by omega) (by omega)
  rw [e]
  simp only [Int.toNat_natCast]
  rw [show (9223372036854775808 : Int).toNat = 9223372036854775808 from rfl, show 18446744073709551615 - 9223372036854775808 = 2 ^ 63 - 1 from rfl, Nat.and_two_pow_sub_one_eq_mod]
theorem u64A (x : Nat) (hx : x < 18446744073709551616) : bits .and .u64 (x : Int) 9223372036854775808 = if 9223372036854775808 ≤ x then 9223372036854775808 else 0 := by
  have e := u64_and (x : Int) 9223372036854775808 (by omega) (by omega) (by omega) (by omega)
  rw [e]
  simp only [Int.toNat_natCast]
  rw [show (9223372036854775808 : Int).toNat = 9223372036854775808 from rfl, and63 hx]
  split <;> rfl
set_option maxRecDepth 100000 in
theorem c_absA {x : Nat} (h : x < 18446744073709551616) (w : World) : Calls Tryd.prog 125 #[fl x] w fun e w' => e = .returned (fl (x % 9223372036854775808)) ∧ w = w' := by
  have h1 := run_bits x
  have h2 := run_frombits (x % 9223372036854775808)
  have h3 := u64N x h
  clear h
  generalize x % 9223372036854775808 = y at *
  have hgen := sgen; have hgen2 := sgen2; have hgen3 := sgen3; go_enter Tryd.func125, Tryd.ntmps125
  go_wp2
  go_ret
  exact ⟨rfl, rfl⟩
set_option maxRecDepth 100000 in
theorem c_isInfA {x : Nat} {X : Rat} (h : Num x X) (hx : x < 18446744073709551616) (h7 : rabs X ≤ 9000000000000000000) (w : World) : Calls Tryd.prog 131 #[fl x, .int .i64 0] w fun e w' => e = .returned (.bool false) ∧ w = w' := by
  have hm : Num 9218868437227405311 (cv 9218868437227405311) := cv_num (by decide +kernel)
  have hv : (9000000000000000000 : Rat) < cv 9218868437227405311 := by decide +kernel
  have ho : FloatKind.f64.format.order (x % 9223372036854775808) 9218868437227405311 = some .lt := (num_order (abs_num h hx) hm).1 (by grind)
  clear hm hv
  have HO := Lib.hid ho
  have HB := Lib.hid (fun w1 => c_absA hx w1)
  clear ho h hx h7
  generalize x % 9223372036854775808 = y at *
  have hgen := sgen; have hgen2 := sgen2; have hgen3 := sgen3; go_enter Tryd.func131, Tryd.ntmps131
  go_wp2_with (go_at_call 125; refine (HB.out _).mono ?_; rintro e w' ⟨rfl, rfl⟩)
  go_ret
  exact ⟨ret_bool (by show (FloatKind.f64.format.order y 9218868437227405311 == some Ordering.gt) = false; rw [HO.out]; rfl), rfl⟩
/-- The sign of one word put to another one. -/
theorem c_copy (c d y : Nat) (b : Int) (hc : c < 9223372036854775808) (hy : y < 18446744073709551616) (hb : bits .and .u64 (y : Int) 9223372036854775808 = b) (hd : bits .or .u64 (c : Int) b = (d : Int)) (w : World) :
    Calls Tryd.prog 141 #[fl c, fl y] w fun e w' => e = .returned (fl d) ∧ w = w' := by
  have h1 := run_bits c
  have h2 := run_bits y
  have h3 := run_frombits d
  have h4 : bits .andNot .u64 (c : Int) 9223372036854775808 = (c : Int) := by rw [u64N c (by omega), Nat.mod_eq_of_lt hc]
  clear hc hy
  have hgen := sgen; have hgen2 := sgen2; have hgen3 := sgen3; go_enter Tryd.func141, Tryd.ntmps141
  go_wp2
  go_ret
  exact ⟨rfl, rfl⟩
end
section
open Go.RowKit
theorem copy_pos {c y : Nat} (hc : c < 9223372036854775808) (hy : y < 9223372036854775808) (ho : bits .or .u64 (c : Int) 0 = (c : Int)) (w : World) : Calls Tryd.prog 141 #[fl c, fl y] w fun e w' => e = .returned (fl c) ∧ w = w' :=
  c_copy c c y 0 hc (by omega) (by rw [u64A y (by omega), if_neg (by omega)]) ho w
end
section
open Go.RowKit
theorem sq_eq (x : Nat) : Extern.MathSqrt.sqrt #[.float .f64 x] = (match FloatKind.f64.format.sqrt x with
    | some r => pure (.float .f64 r)
    | none => do pure (.float .f64 (← choose (.nanBits .f64 x x)))) := rfl
theorem p2_33 : p2 33 = ((8589934592 : Nat) : Rat) := by decide +kernel
/-- The start of whole.Root. -/
theorem root_start (n : Int) (h0 : 0 ≤ n) (h1 : n ≤ 1000000000000000000) : ∃ s k, Ieee.double.sqrt (fofI n) = some s ∧ (Ieee.double.read s).toInt .zero = some ((k : Nat) : Int) ∧ k ≤ 8589934592 := by
  have r0 : (0 : Rat) ≤ (n : Rat) := by exact_mod_cast h0
  have r1 : (n : Rat) ≤ ((1000000000000000000 : Int) : Rat) := Rat.intCast_le_intCast.2 h1
  have c1 : ((1000000000000000000 : Int) : Rat) = 1000000000000000000 := rfl
  rw [c1] at r1
  have p60 : p2 ((60 : Nat) : Int) = 1152921504606846976 := by decide +kernel
  have p7 : p2 (((60 : Nat) : Int) - 53) = 128 := by decide +kernel
  have p62 : p2 62 = 4611686018427387904 := by decide +kernel
  obtain ⟨s, m, p, h2, h3, h4⟩ := fofI_ap n 60 (by omega) (by rw [p60]; grind) (by rw [p60]; grind)
  have hs := sign_of (fofI_lt63 n h0) h2
  subst hs
  obtain ⟨r, e1, m', p', e2, e3⟩ := sqrt_ok h2 (by rw [p62]; rw [p7] at h3; grind)
  obtain ⟨k, k1, k2, k3⟩ := toInt_pos m' p'
  refine ⟨r, k, e1, ?_, ?_⟩
  · unfold Reads at e2
    rw [e2]; exact k1
  · rw [p2_33] at e3
    have : (k : Rat) ≤ ((8589934592 : Nat) : Rat) := Rat.le_trans k2 e3
    exact_mod_cast this
theorem quo_le {n r : Int} (hr : 0 < r) : (r ≤ n / r ↔ r * r ≤ n) := Int.le_ediv_iff_mul_le hr
theorem sq_mono {a b : Int} (ha : 0 ≤ a) (h : a ≤ b) : a * a ≤ b * b := Int.le_trans (Int.mul_le_mul_of_nonneg_left h ha) (Int.mul_le_mul_of_nonneg_right h (by omega))
theorem root_le {r n : Int} (h : r * r ≤ n) (h1 : n ≤ 1000000000000000000) : r ≤ 1000000000 := by
  by_cases q : r ≤ 1000000000
  · exact q
  · have := sq_mono (a := 1000000001) (b := r) (by omega) (by omega)
    omega
theorem ret_wroot {a b : Int} (h : a = b) : Ending.returned (.tuple #[.int .i64 a, .int .i64 0]) = .returned (.tuple #[.int .i64 b, .int .i64 0]) := by rw [h]
end
end Go.Proofs.YtcgnhnmigmdalaaDoor
