/- The contracts of math.xatan, satan, atan and atan2, and of trig.direction. -/
import Derived.Test.YtplhegjgkmabiaaDoorWkC
import Derived.Test.YtplhegjgkmabiaaDoorTrB
set_option linter.unusedVariables false
set_option linter.unusedSimpArgs false
namespace Go.Proofs.YtplhegjgkmabiaaDoor
open Go.RowKit
theorem num066 : Num 4604119971053405471 (cv w066) := cv_num (show isNum w066 = true by decide +kernel)
theorem numT38 : Num 4612618744449965542 (cv wT38) := cv_num (show isNum wT38 = true by decide +kernel)
theorem u64N (x : Nat) (hx : x < 18446744073709551616) : bits .andNot .u64 (x : Int) 9223372036854775808 = ((x % 9223372036854775808 : Nat) : Int) := by
  have e := u64_andNot (x : Int) 9223372036854775808 (by omega) (by omega) (by omega) (by omega)
  rw [e]
  simp only [Int.toNat_natCast]
  rw [show (9223372036854775808 : Int).toNat = 9223372036854775808 from rfl, show 18446744073709551615 - 9223372036854775808 = 2 ^ 63 - 1 from rfl, Nat.and_two_pow_sub_one_eq_mod]
theorem u64A (x : Nat) (hx : x < 18446744073709551616) : bits .and .u64 (x : Int) 9223372036854775808 = if 9223372036854775808 ≤ x then 9223372036854775808 else 0 := by
  have e := u64_and (x : Int) 9223372036854775808 (by omega) (by omega) (by omega) (by omega)
  rw [e]
  simp only [Int.toNat_natCast]
  rw [show (9223372036854775808 : Int).toNat = 9223372036854775808 from rfl, and63 hx]
  split <;> rfl
set_option maxRecDepth 100000 in
theorem c_absA {x : Nat} (h : x < 18446744073709551616) (w : World) : Calls Tryd.prog 125 #[fl x] w fun e w' => e = .returned (fl (x % 9223372036854775808)) ∧ w = w' := by
  have h1 := run_bits x
  have h2 := run_frombits (x % 9223372036854775808)
  have h3 := u64N x h
  clear h
  generalize x % 9223372036854775808 = y at *
  have hgen := sgen; have hgen2 := sgen2; have hgen3 := sgen3; go_enter Tryd.func125, Tryd.ntmps125
  go_wp2
  go_ret
  exact ⟨rfl, rfl⟩
set_option maxRecDepth 100000 in
theorem c_isInfA {x : Nat} {X : Rat} (h : Num x X) (hx : x < 18446744073709551616) (h7 : rabs X ≤ 9000000000000000000) (w : World) : Calls Tryd.prog 120 #[fl x, .int .i64 0] w fun e w' => e = .returned (.bool false) ∧ w = w' := by
  have hm : Num 9218868437227405311 (cv 9218868437227405311) := cv_num (by decide +kernel)
  have hv : (9000000000000000000 : Rat) < cv 9218868437227405311 := by decide +kernel
  have ho : FloatKind.f64.format.order (x % 9223372036854775808) 9218868437227405311 = some .lt := (num_order (abs_num h hx) hm).1 (by grind)
  clear hm hv
  have HO := Lib.hid ho
  have HB := Lib.hid (fun w1 => c_absA hx w1)
  clear ho h hx h7
  generalize x % 9223372036854775808 = y at *
  have hgen := sgen; have hgen2 := sgen2; have hgen3 := sgen3; go_enter Tryd.func120, Tryd.ntmps120
  go_wp2_with (go_at_call 125; refine (HB.out _).mono ?_; rintro e w' ⟨rfl, rfl⟩)
  go_ret
  exact ⟨ret_bool (by show (FloatKind.f64.format.order y 9218868437227405311 == some Ordering.gt) = false; rw [HO.out]; rfl), rfl⟩
/-- The sign of one word put to another one. -/
theorem c_copy (c d y : Nat) (b : Int) (hc : c < 9223372036854775808) (hy : y < 18446744073709551616) (hb : bits .and .u64 (y : Int) 9223372036854775808 = b) (hd : bits .or .u64 (c : Int) b = (d : Int)) (w : World) :
    Calls Tryd.prog 130 #[fl c, fl y] w fun e w' => e = .returned (fl d) ∧ w = w' := by
  have h1 := run_bits c
  have h2 := run_bits y
  have h3 := run_frombits d
  have h4 : bits .andNot .u64 (c : Int) 9223372036854775808 = (c : Int) := by rw [u64N c (by omega), Nat.mod_eq_of_lt hc]
  clear hc hy
  have hgen := sgen; have hgen2 := sgen2; have hgen3 := sgen3; go_enter Tryd.func130, Tryd.ntmps130
  go_wp2
  go_ret
  exact ⟨rfl, rfl⟩
end Go.Proofs.YtplhegjgkmabiaaDoor
