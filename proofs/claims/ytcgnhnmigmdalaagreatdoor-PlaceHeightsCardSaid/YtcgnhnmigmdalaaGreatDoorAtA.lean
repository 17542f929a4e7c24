/- The contracts of math.xatan, satan, atan and atan2, and of trig.direction. The contracts of math.atan2 and of trig.direction. The contracts of math.Sqrt and of whole.Root. -/
import Derived.Test.YtcgnhnmigmdalaaGreatDoorWkC
import Derived.Test.YtcgnhnmigmdalaaGreatDoorTrB
import Derived.Deep.LoopGhost
set_option linter.unusedVariables false
set_option linter.unusedSimpArgs false
namespace Go.Proofs.YtcgnhnmigmdalaaGreatDoor
section
open Go.RowKit
set_option maxHeartbeats 2000000 in
set_option maxRecDepth 100000 in
theorem c_xatan {x r : Nat} (h : XatP x r) (w : World) : Calls Tryz.prog 167 #[fl x] w fun e w' => e = .returned (fl r) ∧ w = w' := by
  obtain ⟨z, m1, h1, m2, h2, m3, h3, m4, h4, n, k0, l1, k1, l2, k2, l3, k3, l4, k4, d, v, f1, f2, f3, f4, f5, f6, f7, f8, f9, f10, f11, f12, f13, f14, f15, f16, f17, f18, f19, f20, f21, f22⟩ := h
  have s1 := hmul f1
  have s2 : ∀ t w, (binOp .mul t (.float .f64 13829429103926125972) (.float .f64 z)).run Tryz.prog w = .ok (.float .f64 m1) w := hmul f2
  have s3 : ∀ t w, (binOp .add t (.float .f64 m1) (.float .f64 13848613196940411002)).run Tryz.prog w = .ok (.float .f64 h1) w := hadd f3
  have s4 := hmul f4
  have s5 : ∀ t w, (binOp .add t (.float .f64 m2) (.float .f64 13858350711815275123)).run Tryz.prog w = .ok (.float .f64 h2) w := hadd f5
  have s6 := hmul f6
  have s7 : ∀ t w, (binOp .add t (.float .f64 m3) (.float .f64 13861719834326579749)).run Tryz.prog w = .ok (.float .f64 h3) w := hadd f7
  have s8 := hmul f8
  have s9 : ∀ t w, (binOp .add t (.float .f64 m4) (.float .f64 13857635882265799822)).run Tryz.prog w = .ok (.float .f64 h4) w := hadd f9
  have s10 := hmul f10
  have s11 : ∀ t w, (binOp .add t (.float .f64 z) (.float .f64 4627690253511319612)).run Tryz.prog w = .ok (.float .f64 k0) w := hadd f11
  have s12 := hmul f12
  have s13 : ∀ t w, (binOp .add t (.float .f64 l1) (.float .f64 4640010388282866213)).run Tryz.prog w = .ok (.float .f64 k1) w := hadd f13
  have s14 := hmul f14
  have s15 : ∀ t w, (binOp .add t (.float .f64 l2) (.float .f64 4646322940342877755)).run Tryz.prog w = .ok (.float .f64 k2) w := hadd f15
  have s16 := hmul f16
  have s17 : ∀ t w, (binOp .add t (.float .f64 l3) (.float .f64 4647246694406179306)).run Tryz.prog w = .ok (.float .f64 k3) w := hadd f17
  have s18 := hmul f18
  have s19 : ∀ t w, (binOp .add t (.float .f64 l4) (.float .f64 4641049159275471596)).run Tryz.prog w = .ok (.float .f64 k4) w := hadd f19
  have s20 := hdiv f20
  have s21 := hmul f21
  have s22 := hadd f22
  clear f1 f2 f3 f4 f5 f6 f7 f8 f9 f10 f11 f12 f13 f14 f15 f16 f17 f18 f19 f20 f21 f22
  have hgen := sgen; have hgen2 := sgen2; have hgen3 := sgen3; go_enter Tryz.func167, Tryz.ntmps167
  go_wp2
  go_ret
  exact ⟨rfl, rfl⟩
theorem num066 : Num 4604119971053405471 (cv w066) := cv_num (show isNum w066 = true by decide +kernel)
theorem numT38 : Num 4612618744449965542 (cv wT38) := cv_num (show isNum wT38 = true by decide +kernel)
set_option maxHeartbeats 2000000 in
set_option maxRecDepth 100000 in
theorem c_satan {t r : Nat} {T : Rat} (hn : Num t T) (h : SatP t T r) (w : World) : Calls Tryz.prog 166 #[fl t] w fun e w' => e = .returned (fl r) ∧ w = w' := by
  rcases h with ⟨h1, h2⟩ | ⟨h1, h2, i, x, a, f1, f2, f3, f4⟩ | ⟨h1, h2, n, d, q, x, a, f1, f2, f3, f4, f5, f6⟩
  · by_cases he : T = cv w066
    · have ho : FloatKind.f64.format.order t 4604119971053405471 = some .eq := (num_order hn num066).2.1 he
      have HX := Lib.hid (fun w1 => c_xatan h2 w1)
      clear h1 h2 hn he
      have hgen := sgen; have hgen2 := sgen2; have hgen3 := sgen3; go_enter Tryz.func166, Tryz.ntmps166
      go_wp2_with (go_at_call 167; refine (HX.out _).mono ?_; rintro e w' ⟨rfl, rfl⟩)
      go_ret
      exact ⟨rfl, rfl⟩
    · have ho : FloatKind.f64.format.order t 4604119971053405471 = some .lt := (num_order hn num066).1 (by grind)
      have HX := Lib.hid (fun w1 => c_xatan h2 w1)
      clear h1 h2 hn he
      have hgen := sgen; have hgen2 := sgen2; have hgen3 := sgen3; go_enter Tryz.func166, Tryz.ntmps166
      go_wp2_with (go_at_call 167; refine (HX.out _).mono ?_; rintro e w' ⟨rfl, rfl⟩)
      go_ret
      exact ⟨rfl, rfl⟩
  · have ho : FloatKind.f64.format.order t 4604119971053405471 = some .gt := (num_order hn num066).2.2 h1
    have ho2 : FloatKind.f64.format.order t 4612618744449965542 = some .gt := (num_order hn numT38).2.2 h2
    have HX := Lib.hid (fun w1 => c_xatan f2 w1)
    have s1 : ∀ t' w, (binOp .quo t' (.float .f64 4607182418800017408) (.float .f64 t)).run Tryz.prog w = .ok (.float .f64 i) w := hdiv f1
    have s2 : ∀ t' w, (binOp .sub t' (.float .f64 4609753056924675352) (.float .f64 x)).run Tryz.prog w = .ok (.float .f64 a) w := hsub f3
    have s3 : ∀ t' w, (binOp .add t' (.float .f64 a) (.float .f64 4364452196894661639)).run Tryz.prog w = .ok (.float .f64 r) w := hadd f4
    clear h1 h2 hn f1 f2 f3 f4
    have hgen := sgen; have hgen2 := sgen2; have hgen3 := sgen3; go_enter Tryz.func166, Tryz.ntmps166
    go_wp2_with (go_at_call 167; refine (HX.out _).mono ?_; rintro e w' ⟨rfl, rfl⟩)
    go_ret
    exact ⟨rfl, rfl⟩
  · have ho : FloatKind.f64.format.order t 4604119971053405471 = some .gt := (num_order hn num066).2.2 h1
    have HX := Lib.hid (fun w1 => c_xatan f4 w1)
    have s1 : ∀ t' w, (binOp .sub t' (.float .f64 t) (.float .f64 4607182418800017408)).run Tryz.prog w = .ok (.float .f64 n) w := hsub f1
    have s2 : ∀ t' w, (binOp .add t' (.float .f64 t) (.float .f64 4607182418800017408)).run Tryz.prog w = .ok (.float .f64 d) w := hadd f2
    have s3 := hdiv f3
    have s4 : ∀ t' w, (binOp .add t' (.float .f64 4605249457297304856) (.float .f64 x)).run Tryz.prog w = .ok (.float .f64 a) w := hadd f5
    have s5 : ∀ t' w, (binOp .add t' (.float .f64 a) (.float .f64 4359948597267291143)).run Tryz.prog w = .ok (.float .f64 r) w := hadd f6
    by_cases he : T = cv wT38
    · have ho2 : FloatKind.f64.format.order t 4612618744449965542 = some .eq := (num_order hn numT38).2.1 he
      clear h1 h2 hn f1 f2 f3 f4 f5 f6 he
      have hgen := sgen; have hgen2 := sgen2; have hgen3 := sgen3; go_enter Tryz.func166, Tryz.ntmps166
      go_wp2_with (go_at_call 167; refine (HX.out _).mono ?_; rintro e w' ⟨rfl, rfl⟩)
      go_ret
      exact ⟨rfl, rfl⟩
    · have ho2 : FloatKind.f64.format.order t 4612618744449965542 = some .lt := (num_order hn numT38).1 (by grind)
      clear h1 h2 hn f1 f2 f3 f4 f5 f6 he
      have hgen := sgen; have hgen2 := sgen2; have hgen3 := sgen3; go_enter Tryz.func166, Tryz.ntmps166
      go_wp2_with (go_at_call 167; refine (HX.out _).mono ?_; rintro e w' ⟨rfl, rfl⟩)
      go_ret
      exact ⟨rfl, rfl⟩
theorem c_atan {q r : Nat} {V : Rat} (hn : Num q V) (h : AtanP q V r) (w : World) : Calls Tryz.prog 161 #[fl q] w fun e w' => e = .returned (fl r) ∧ w = w' := by
  rcases h with ⟨h1, rfl⟩ | ⟨h1, h2⟩ | ⟨h1, s, h2, rfl⟩
  · have ho : FloatKind.f64.format.order r 0 = some .eq := (num_order hn num_zero).2.1 h1
    clear h1 hn
    have hgen := sgen; have hgen2 := sgen2; have hgen3 := sgen3; go_enter Tryz.func161, Tryz.ntmps161
    go_wp2
    go_ret
    exact ⟨rfl, rfl⟩
  · have ho : FloatKind.f64.format.order q 0 = some .gt := (num_order hn num_zero).2.2 h1
    have HX := Lib.hid (fun w1 => c_satan hn h2 w1)
    clear h1 h2 hn
    have hgen := sgen; have hgen2 := sgen2; have hgen3 := sgen3; go_enter Tryz.func161, Tryz.ntmps161
    go_wp2_with (go_at_call 166; refine (HX.out _).mono ?_; rintro e w' ⟨rfl, rfl⟩)
    go_ret
    exact ⟨rfl, rfl⟩
  · have ho : FloatKind.f64.format.order q 0 = some .lt := (num_order hn num_zero).1 h1
    have HX := Lib.hid (fun w1 => c_satan (fneg_num hn) h2 w1)
    have n1 := hneg q
    have n2 := hneg s
    clear h1 h2 hn
    generalize fneg q = q' at *
    generalize fneg s = s' at *
    have hgen := sgen; have hgen2 := sgen2; have hgen3 := sgen3; go_enter Tryz.func161, Tryz.ntmps161
    go_wp2_with (go_at_call 166; refine (HX.out _).mono ?_; rintro e w' ⟨rfl, rfl⟩)
    go_ret
    exact ⟨rfl, rfl⟩
theorem c_Atan {q r : Nat} {V : Rat} (hn : Num q V) (h : AtanP q V r) (w : World) : Calls Tryz.prog 153 #[fl q] w fun e w' => e = .returned (fl r) ∧ w = w' := by
  have HX := Lib.hid (fun w1 => c_atan hn h w1)
  clear hn h
  have hgen := sgen; have hgen2 := sgen2; have hgen3 := sgen3; go_enter Tryz.func153, Tryz.ntmps153
  go_wp2_with (go_at_call 161; refine (HX.out _).mono ?_; rintro e w' ⟨rfl, rfl⟩)
  go_ret
  exact ⟨rfl, rfl⟩
theorem u64N (x : Nat) (hx : x < 18446744073709551616) : bits .andNot .u64 (x : Int) 9223372036854775808 = ((x % 9223372036854775808 : Nat) : Int) := by
  have e := u64_andNot (x : Int) 9223372036854775808 (by omega) (by omega) (by omega) (by omega)
  rw [e]
  simp only [Int.toNat_natCast]
  rw [show (9223372036854775808 : Int).toNat = 9223372036854775808 from rfl, show 18446744073709551615 - 9223372036854775808 = 2 ^ 63 - 1 from rfl, Nat.and_two_pow_sub_one_eq_mod]
theorem u64A (x : Nat) (hx : x < 18446744073709551616) : bits .and .u64 (x : Int) 9223372036854775808 = if 9223372036854775808 ≤ x then 9223372036854775808 else 0 := by
  have e := u64_and (x : Int) 9223372036854775808 (by omega) (by omega) (by omega) (by omega)
  rw [e]
  simp only [Int.toNat_natCast]
  rw [show (9223372036854775808 : Int).toNat = 9223372036854775808 from rfl, and63 hx]
  split <;> rfl
set_option maxRecDepth 100000 in
theorem c_absA {x : Nat} (h : x < 18446744073709551616) (w : World) : Calls Tryz.prog 156 #[fl x] w fun e w' => e = .returned (fl (x % 9223372036854775808)) ∧ w = w' := by
  have h1 := run_bits x
  have h2 := run_frombits (x % 9223372036854775808)
  have h3 := u64N x h
  clear h
  generalize x % 9223372036854775808 = y at *
  have hgen := sgen; have hgen2 := sgen2; have hgen3 := sgen3; go_enter Tryz.func156, Tryz.ntmps156
  go_wp2
  go_ret
  exact ⟨rfl, rfl⟩
set_option maxRecDepth 100000 in
theorem c_isInfA {x : Nat} {X : Rat} (h : Num x X) (hx : x < 18446744073709551616) (h7 : rabs X ≤ 9000000000000000000) (w : World) : Calls Tryz.prog 148 #[fl x, .int .i64 0] w fun e w' => e = .returned (.bool false) ∧ w = w' := by
  have hm : Num 9218868437227405311 (cv 9218868437227405311) := cv_num (by decide +kernel)
  have hv : (9000000000000000000 : Rat) < cv 9218868437227405311 := by decide +kernel
  have ho : FloatKind.f64.format.order (x % 9223372036854775808) 9218868437227405311 = some .lt := (num_order (abs_num h hx) hm).1 (by grind)
  clear hm hv
  have HO := Lib.hid ho
  have HB := Lib.hid (fun w1 => c_absA hx w1)
  clear ho h hx h7
  generalize x % 9223372036854775808 = y at *
  have hgen := sgen; have hgen2 := sgen2; have hgen3 := sgen3; go_enter Tryz.func148, Tryz.ntmps148
  go_wp2_with (go_at_call 156; refine (HB.out _).mono ?_; rintro e w' ⟨rfl, rfl⟩)
  go_ret
  exact ⟨ret_bool (by show (FloatKind.f64.format.order y 9218868437227405311 == some Ordering.gt) = false; rw [HO.out]; rfl), rfl⟩
set_option maxRecDepth 100000 in
theorem c_signbit {x : Nat} (h : x < 9223372036854775808) (w : World) : Calls Tryz.prog 151 #[fl x] w fun e w' => e = .returned (.bool false) ∧ w = w' := by
  have h1 := run_bits x
  have h2 : IntKind.i64.wrap (x : Int) = (x : Int) := by rw [IntKind.wrap_i64]; omega
  have h3 : decide ((x : Int) < 0) = false := by simp
  clear h
  have hgen := sgen; have hgen2 := sgen2; have hgen3 := sgen3; go_enter Tryz.func151, Tryz.ntmps151
  go_wp2
  go_ret
  exact ⟨rfl, rfl⟩
/-- The sign of one word put to another one. -/
theorem c_copy (c d y : Nat) (b : Int) (hc : c < 9223372036854775808) (hy : y < 18446744073709551616) (hb : bits .and .u64 (y : Int) 9223372036854775808 = b) (hd : bits .or .u64 (c : Int) b = (d : Int)) (w : World) :
    Calls Tryz.prog 152 #[fl c, fl y] w fun e w' => e = .returned (fl d) ∧ w = w' := by
  have h1 := run_bits c
  have h2 := run_bits y
  have h3 := run_frombits d
  have h4 : bits .andNot .u64 (c : Int) 9223372036854775808 = (c : Int) := by rw [u64N c (by omega), Nat.mod_eq_of_lt hc]
  clear hc hy
  have hgen := sgen; have hgen2 := sgen2; have hgen3 := sgen3; go_enter Tryz.func152, Tryz.ntmps152
  go_wp2
  go_ret
  exact ⟨rfl, rfl⟩
end
section
open Go.RowKit
theorem copy_pos {c y : Nat} (hc : c < 9223372036854775808) (hy : y < 9223372036854775808) (ho : bits .or .u64 (c : Int) 0 = (c : Int)) (w : World) : Calls Tryz.prog 152 #[fl c, fl y] w fun e w' => e = .returned (fl c) ∧ w = w' :=
  c_copy c c y 0 hc (by omega) (by rw [u64A y (by omega), if_neg (by omega)]) ho w
set_option maxHeartbeats 2000000 in
set_option maxRecDepth 100000 in
theorem c_atan2 {y x r : Nat} {Y X : Rat} (ny : Num y Y) (nx : Num x X) (hy : y < 18446744073709551616) (hx : x < 18446744073709551616) (y9 : rabs Y ≤ 9000000000000000000) (x9 : rabs X ≤ 9000000000000000000) (yz : Y = 0 → y = 0) (h : At2P y Y x X r) (w : World) :
    Calls Tryz.prog 138 #[fl y, fl x] w fun e w' => e = .returned (fl r) ∧ w = w' := by
  have HN1 := Lib.hid (fun w1 => c_isNaN ny w1)
  have HN2 := Lib.hid (fun w1 => c_isNaN nx w1)
  rcases h with ⟨h1, h2, rfl⟩ | ⟨h1, h2, rfl⟩ | ⟨h1, h2, rfl⟩ | ⟨h1, h2, rfl⟩ | ⟨h1, h2, q, V, a, v, f1, f2, f3, f4, f5, f6⟩
  · have y0 := yz h1
    subst y0
    have ho : FloatKind.f64.format.order 0 0 = some .eq := by decide +kernel
    have ho2 : FloatKind.f64.format.order x 0 = some .gt := (num_order nx num_zero).2.2 h2
    have HS := Lib.hid (fun w1 => c_signbit (reads_pos nx h2 hx) w1)
    have HC := Lib.hid (fun w1 => copy_pos (c := 0) (y := 0) (by decide) (by decide) (by decide +kernel) w1)
    clear h1 h2 nx ny hy hx y9 x9 yz
    have hgen := sgen; have hgen2 := sgen2; have hgen3 := sgen3; go_enter Tryz.func138, Tryz.ntmps138
    go_wp2_with (first | (go_at_call 147; (with_reducible refine (HN1.out _).mono ?_); rintro e w' ⟨rfl, rfl⟩) | (go_at_call 147; (with_reducible refine (HN2.out _).mono ?_); rintro e w' ⟨rfl, rfl⟩) | (go_at_call 151; refine (HS.out _).mono ?_; rintro e w' ⟨rfl, rfl⟩) | (go_at_call 152; refine (HC.out _).mono ?_; rintro e w' ⟨rfl, rfl⟩))
    go_ret
    exact ⟨rfl, rfl⟩
  · have y0 := yz h1
    subst y0
    have ho : FloatKind.f64.format.order 0 0 = some .eq := by decide +kernel
    have ho2 : FloatKind.f64.format.order x 0 = some .lt := (num_order nx num_zero).1 h2
    have HC := Lib.hid (fun w1 => copy_pos (c := 4614256656552045848) (y := 0) (by decide) (by decide) (by decide +kernel) w1)
    clear h1 h2 nx ny hy hx y9 x9 yz
    have hgen := sgen; have hgen2 := sgen2; have hgen3 := sgen3; go_enter Tryz.func138, Tryz.ntmps138
    go_wp2_with (first | (go_at_call 147; (with_reducible refine (HN1.out _).mono ?_); rintro e w' ⟨rfl, rfl⟩) | (go_at_call 147; (with_reducible refine (HN2.out _).mono ?_); rintro e w' ⟨rfl, rfl⟩) | (go_at_call 152; refine (HC.out _).mono ?_; rintro e w' ⟨rfl, rfl⟩))
    go_ret
    exact ⟨rfl, rfl⟩
  · have ho : FloatKind.f64.format.order y 0 = some .gt := (num_order ny num_zero).2.2 h2
    have ho2 : FloatKind.f64.format.order x 0 = some .eq := (num_order nx num_zero).2.1 h1
    have HC := Lib.hid (fun w1 => copy_pos (c := 4609753056924675352) (y := y) (by decide) (reads_pos ny h2 hy) (by decide +kernel) w1)
    clear h1 h2 nx ny hy hx y9 x9 yz
    have hgen := sgen; have hgen2 := sgen2; have hgen3 := sgen3; go_enter Tryz.func138, Tryz.ntmps138
    go_wp2_with (first | (go_at_call 147; (with_reducible refine (HN1.out _).mono ?_); rintro e w' ⟨rfl, rfl⟩) | (go_at_call 147; (with_reducible refine (HN2.out _).mono ?_); rintro e w' ⟨rfl, rfl⟩) | (go_at_call 152; refine (HC.out _).mono ?_; rintro e w' ⟨rfl, rfl⟩))
    go_ret
    exact ⟨rfl, rfl⟩
  · have ho : FloatKind.f64.format.order y 0 = some .lt := (num_order ny num_zero).1 h2
    have ho2 : FloatKind.f64.format.order x 0 = some .eq := (num_order nx num_zero).2.1 h1
    have HC := Lib.hid (fun w1 => c_copy 4609753056924675352 (fneg 4609753056924675352) y 9223372036854775808 (by decide) hy (by rw [u64A y hy, if_pos (sign_neg ny h2)]) (by decide +kernel) w1)
    have en : fneg wPi2 = fneg 4609753056924675352 := rfl
    rw [en]
    clear h1 h2 nx ny hy hx y9 x9 yz en
    generalize fneg 4609753056924675352 = pp at *
    have hgen := sgen; have hgen2 := sgen2; have hgen3 := sgen3; go_enter Tryz.func138, Tryz.ntmps138
    go_wp2_with (first | (go_at_call 147; (with_reducible refine (HN1.out _).mono ?_); rintro e w' ⟨rfl, rfl⟩) | (go_at_call 147; (with_reducible refine (HN2.out _).mono ?_); rintro e w' ⟨rfl, rfl⟩) | (go_at_call 152; refine (HC.out _).mono ?_; rintro e w' ⟨rfl, rfl⟩))
    go_ret
    exact ⟨rfl, rfl⟩
  · have HI1 := Lib.hid (fun w1 => c_isInfA ny hy y9 w1)
    have HI2 := Lib.hid (fun w1 => c_isInfA nx hx x9 w1)
    have HA := Lib.hid (fun w1 => c_Atan f2 f4 w1)
    have s1 := hdiv f1
    have hoy : ∃ c, FloatKind.f64.format.order y 0 = some c ∧ (c = .lt ∨ c = .gt) := by
      by_cases k : Y < 0
      · exact ⟨_, (num_order ny num_zero).1 k, .inl rfl⟩
      · exact ⟨_, (num_order ny num_zero).2.2 (by grind), .inr rfl⟩
    obtain ⟨cy, ho, hc⟩ := hoy
    rcases f6 with ⟨k1, rfl⟩ | ⟨k1, k2, k3⟩ | ⟨k1, k2, k3⟩
    · have ho2 : FloatKind.f64.format.order x 0 = some .gt := (num_order nx num_zero).2.2 k1
      clear h1 h2 nx ny hy hx y9 x9 yz f1 f2 f3 f4 f5 k1
      rcases hc with rfl | rfl
      all_goals
        have hgen := sgen; have hgen2 := sgen2; have hgen3 := sgen3; go_enter Tryz.func138, Tryz.ntmps138
        go_wp2_with (first | (go_at_call 147; (with_reducible refine (HN1.out _).mono ?_); rintro e w' ⟨rfl, rfl⟩) | (go_at_call 147; (with_reducible refine (HN2.out _).mono ?_); rintro e w' ⟨rfl, rfl⟩) | (go_at_call 148; (with_reducible refine (HI1.out _).mono ?_); rintro e w' ⟨rfl, rfl⟩) | (go_at_call 148; (with_reducible refine (HI2.out _).mono ?_); rintro e w' ⟨rfl, rfl⟩) | (go_at_call 153; refine (HA.out _).mono ?_; rintro e w' ⟨rfl, rfl⟩))
        go_ret
        exact ⟨rfl, rfl⟩
    · have ho2 : FloatKind.f64.format.order x 0 = some .lt := (num_order nx num_zero).1 k1
      have s2 : ∀ t' w, (binOp .add t' (.float .f64 a) (.float .f64 4614256656552045848)).run Tryz.prog w = .ok (.float .f64 r) w := hadd k3
      have hov : ∃ c, FloatKind.f64.format.order a 0 = some c ∧ (c = .lt ∨ c = .eq) := by
        by_cases k : v < 0
        · exact ⟨_, (num_order f5 num_zero).1 k, .inl rfl⟩
        · exact ⟨_, (num_order f5 num_zero).2.1 (by grind), .inr rfl⟩
      obtain ⟨cv', ho3, hc3⟩ := hov
      clear h1 h2 nx ny hy hx y9 x9 yz f1 f2 f3 f4 f5 k1 k2 k3
      rcases hc with rfl | rfl <;> rcases hc3 with rfl | rfl
      all_goals
        have hgen := sgen; have hgen2 := sgen2; have hgen3 := sgen3; go_enter Tryz.func138, Tryz.ntmps138
        go_wp2_with (first | (go_at_call 147; (with_reducible refine (HN1.out _).mono ?_); rintro e w' ⟨rfl, rfl⟩) | (go_at_call 147; (with_reducible refine (HN2.out _).mono ?_); rintro e w' ⟨rfl, rfl⟩) | (go_at_call 148; (with_reducible refine (HI1.out _).mono ?_); rintro e w' ⟨rfl, rfl⟩) | (go_at_call 148; (with_reducible refine (HI2.out _).mono ?_); rintro e w' ⟨rfl, rfl⟩) | (go_at_call 153; refine (HA.out _).mono ?_; rintro e w' ⟨rfl, rfl⟩))
        go_ret
        exact ⟨rfl, rfl⟩
    · have ho2 : FloatKind.f64.format.order x 0 = some .lt := (num_order nx num_zero).1 k1
      have s2 : ∀ t' w, (binOp .sub t' (.float .f64 a) (.float .f64 4614256656552045848)).run Tryz.prog w = .ok (.float .f64 r) w := hsub k3
      have ho3 : FloatKind.f64.format.order a 0 = some .gt := (num_order f5 num_zero).2.2 k2
      clear h1 h2 nx ny hy hx y9 x9 yz f1 f2 f3 f4 f5 k1 k2 k3
      rcases hc with rfl | rfl
      all_goals
        have hgen := sgen; have hgen2 := sgen2; have hgen3 := sgen3; go_enter Tryz.func138, Tryz.ntmps138
        go_wp2_with (first | (go_at_call 147; (with_reducible refine (HN1.out _).mono ?_); rintro e w' ⟨rfl, rfl⟩) | (go_at_call 147; (with_reducible refine (HN2.out _).mono ?_); rintro e w' ⟨rfl, rfl⟩) | (go_at_call 148; (with_reducible refine (HI1.out _).mono ?_); rintro e w' ⟨rfl, rfl⟩) | (go_at_call 148; (with_reducible refine (HI2.out _).mono ?_); rintro e w' ⟨rfl, rfl⟩) | (go_at_call 153; refine (HA.out _).mono ?_; rintro e w' ⟨rfl, rfl⟩))
        go_ret
        exact ⟨rfl, rfl⟩
theorem c_Atan2 {y x r : Nat} {Y X : Rat} (ny : Num y Y) (nx : Num x X) (hy : y < 18446744073709551616) (hx : x < 18446744073709551616) (y9 : rabs Y ≤ 9000000000000000000) (x9 : rabs X ≤ 9000000000000000000) (yz : Y = 0 → y = 0) (h : At2P y Y x X r) (w : World) :
    Calls Tryz.prog 119 #[fl y, fl x] w fun e w' => e = .returned (fl r) ∧ w = w' := by
  have HX := Lib.hid (fun w1 => c_atan2 ny nx hy hx y9 x9 yz h w1)
  clear ny nx hy hx y9 x9 yz h
  have hgen := sgen; have hgen2 := sgen2; have hgen3 := sgen3; go_enter Tryz.func119, Tryz.ntmps119
  go_wp2_with (go_at_call 138; refine (HX.out _).mono ?_; rintro e w' ⟨rfl, rfl⟩)
  go_ret
  exact ⟨rfl, rfl⟩
/-- The angle of a direction of two whole numbers. -/
theorem c_direction (y x : Int) (y1 : -2000000000000000000 ≤ y) (y2 : y ≤ 2000000000000000000) (x1 : -2000000000000000000 ≤ x) (x2 : x ≤ 2000000000000000000) (h0 : y ≠ 0 ∨ x ≠ 0) :
    ∃ f D, Num f D ∧ (∃ X Y, Head X Y D ∧ rabs (X - (x : Rat)) ≤ 1 / 1000000000000000 * rabs (x : Rat) ∧ rabs (Y - (y : Rat)) ≤ 1 / 1000000000000000 * rabs (y : Rat)) ∧ ∀ w, Calls Tryz.prog 96 #[.int .i64 y, .int .i64 x] w fun e w' => e = .returned (fl f) ∧ w = w' := by
  obtain ⟨Y, ny, b1, b2, b3, b4⟩ := int_num y y1 y2
  obtain ⟨X, nx, c1, c2, c3, c4⟩ := int_num x x1 x2
  have hX : X = 0 ∨ 1/2 ≤ rabs X := by
    by_cases h : x = 0
    · exact .inl (c2 h).1
    · exact .inr (c3 h)
  have z0 : rabs 0 = 0 := by decide +kernel
  have hz : Y ≠ 0 ∨ X ≠ 0 := by
    rcases h0 with h | h
    · left; intro e; have := b3 h; rw [e, z0] at this; grind
    · right; intro e; have := c3 h; rw [e, z0] at this; grind
  have yz : Y = 0 → fofI y = 0 := by
    intro e
    by_cases h : y = 0
    · exact (b2 h).2
    · have := b3 h; rw [e, z0] at this; grind
  obtain ⟨r, d, f, D, f1, f2, f3, f4, f5⟩ := dir_run ny nx hX (by grind) (by grind) hz
  refine ⟨f, D, f4, ⟨X, Y, f5, c1, b1⟩, fun w => ?_⟩
  have HX := Lib.hid (fun w1 => c_Atan2 ny nx (fofI_lt64 y) (fofI_lt64 x) (by grind) (by grind) yz f1 w1)
  have r1 : ∀ t w, (binOp .quo t (.float .f64 r) (.float .f64 4618760256179416344)).run Tryz.prog w = .ok (.float .f64 d) w := hdiv f2
  have r2 : ∀ t w, (binOp .mul t (.float .f64 d) (.float .f64 4741671816366391296)).run Tryz.prog w = .ok (.float .f64 f) w := hmul f3
  obtain ⟨yw, hyw⟩ : ∃ z, fofI y = z := ⟨_, rfl⟩
  obtain ⟨xw, hxw⟩ : ∃ z, fofI x = z := ⟨_, rfl⟩
  rw [hyw, hxw] at HX
  have k1 : floatOfInt .f64 y = yw := hyw
  have k2 : floatOfInt .f64 x = xw := hxw
  clear ny nx b1 b2 b3 b4 c1 c2 c3 c4 hX hz yz f1 f2 f3 f4 f5 hyw hxw h0
  have hgen := sgen; have hgen2 := sgen2; have hgen3 := sgen3; go_enter Tryz.func96, Tryz.ntmps96
  go_wp2_with (go_at_call 119; refine (HX.out _).mono ?_; rintro e w' ⟨rfl, rfl⟩)
  go_ret
  exact ⟨rfl, rfl⟩
end
section
open Go.RowKit
theorem sq_eq (x : Nat) : Extern.MathSqrt.sqrt #[.float .f64 x] = (match FloatKind.f64.format.sqrt x with
    | some r => pure (.float .f64 r)
    | none => do pure (.float .f64 (← choose (.nanBits .f64 x x)))) := rfl
theorem run_sqrt {x r : Nat} (h : Ieee.double.sqrt x = some r) (w : World) : (callFunc 139 #[.float .f64 x]).run Tryz.prog w = .ok (.value (.float .f64 r)) w := by
  rw [run_callFunc_extern Tryz.func139 (by kernel_rfl) (by kernel_rfl) (by kernel_rfl) (e := Extern.MathSqrt.sqrt) (by rfl)]
  rw [sq_eq]
  rw [show FloatKind.f64.format.sqrt x = Ieee.double.sqrt x from rfl, h]
  rfl
theorem c_Sqrt {x r : Nat} (h : Ieee.double.sqrt x = some r) (w : World) : Calls Tryz.prog 120 #[fl x] w fun e w' => e = .returned (fl r) ∧ w = w' := by
  have hx := run_sqrt h
  clear h
  have hgen := sgen; have hgen2 := sgen2; have hgen3 := sgen3; go_enter Tryz.func120, Tryz.ntmps120
  go_wp2
  go_ret
  exact ⟨rfl, rfl⟩
theorem p2_33 : p2 33 = ((8589934592 : Nat) : Rat) := by decide +kernel
/-- The start of whole.Root. -/
theorem root_start (n : Int) (h0 : 0 ≤ n) (h1 : n ≤ 1000000000000000000) : ∃ s k, Ieee.double.sqrt (fofI n) = some s ∧ (Ieee.double.read s).toInt .zero = some ((k : Nat) : Int) ∧ k ≤ 8589934592 := by
  have r0 : (0 : Rat) ≤ (n : Rat) := by exact_mod_cast h0
  have r1 : (n : Rat) ≤ ((1000000000000000000 : Int) : Rat) := Rat.intCast_le_intCast.2 h1
  have c1 : ((1000000000000000000 : Int) : Rat) = 1000000000000000000 := rfl
  rw [c1] at r1
  have p60 : p2 ((60 : Nat) : Int) = 1152921504606846976 := by decide +kernel
  have p7 : p2 (((60 : Nat) : Int) - 53) = 128 := by decide +kernel
  have p62 : p2 62 = 4611686018427387904 := by decide +kernel
  obtain ⟨s, m, p, h2, h3, h4⟩ := fofI_ap n 60 (by omega) (by rw [p60]; grind) (by rw [p60]; grind)
  have hs := sign_of (fofI_lt63 n h0) h2
  subst hs
  obtain ⟨r, e1, m', p', e2, e3⟩ := sqrt_ok h2 (by rw [p62]; rw [p7] at h3; grind)
  obtain ⟨k, k1, k2, k3⟩ := toInt_pos m' p'
  refine ⟨r, k, e1, ?_, ?_⟩
  · unfold Reads at e2
    rw [e2]; exact k1
  · rw [p2_33] at e3
    have : (k : Rat) ≤ ((8589934592 : Nat) : Rat) := Rat.le_trans k2 e3
    exact_mod_cast this
theorem quo_le {n r : Int} (hr : 0 < r) : (r ≤ n / r ↔ r * r ≤ n) := Int.le_ediv_iff_mul_le hr
theorem sq_mono {a b : Int} (ha : 0 ≤ a) (h : a ≤ b) : a * a ≤ b * b := Int.le_trans (Int.mul_le_mul_of_nonneg_left h ha) (Int.mul_le_mul_of_nonneg_right h (by omega))
theorem root_le {r n : Int} (h : r * r ≤ n) (h1 : n ≤ 1000000000000000000) : r ≤ 1000000000 := by
  by_cases q : r ≤ 1000000000
  · exact q
  · have := sq_mono (a := 1000000001) (b := r) (by omega) (by omega)
    omega
theorem ret_wroot {a b : Int} (h : a = b) : Ending.returned (.tuple #[.int .i64 a, .int .i64 0]) = .returned (.tuple #[.int .i64 b, .int .i64 0]) := by rw [h]
set_option maxHeartbeats 1000000 in
theorem c_wroot (n : Int) (w : World) (h0 : 0 ≤ n) (h1 : n ≤ 1000000000000000000) :
    Calls Tryz.prog 121 #[.int .i64 n] w fun e w' => (∃ R : Int, e = .returned (.tuple #[.int .i64 R, .int .i64 0]) ∧ 0 ≤ R ∧ R * R ≤ n ∧ n < (R + 1) * (R + 1)) ∧ w = w' := by
  obtain ⟨s, k, e1, e2, e3⟩ := root_start n h0 h1
  have k1 := hcut e2 (by omega) (by omega)
  have HQ := Lib.hid (fun w1 => c_Sqrt e1 w1)
  obtain ⟨xn, hxn⟩ : ∃ z, fofI n = z := ⟨_, rfl⟩
  rw [hxn] at HQ
  have k2 : floatOfInt .f64 n = xn := hxn
  clear e1 e2 hxn
  have hgen := sgen; have hgen2 := sgen2; have hgen3 := sgen3; go_enter Tryz.func121, Tryz.ntmps121
  go_wp2_with (go_at_call 120; refine (HQ.out _).mono ?_; rintro e w' ⟨rfl, rfl⟩)
  go_loopg [4] k (fun gk s4 wr => ∃ r : Int, s4 = .int .i64 r ∧ gk = r.toNat ∧ 0 ≤ r ∧ r ≤ 8589934592 ∧ wr = w)
  case atStart => exact ⟨k, rfl, by omega, by omega, by omega, rfl⟩
  case round =>
    obtain ⟨r, rfl, hg, r0, r1, rfl⟩ := hrel
    have done : ∀ (x : Int), 0 ≤ x → x ≤ 8589934592 → x * x ≤ n → x ≤ 1000000000 := fun x _ _ h => root_le h h1
    obtain ⟨wo, rfl⟩ : ∃ wo : World, wo = wr := ⟨_, rfl⟩
    by_cases hr : r = 0
    · have d1 : decide (0 < r) = false := decide_eq_false (by omega)
      have hsq : r * r ≤ n := by rw [hr]; omega
      have HS := Lib.hid hsq
      clear hsq
      go_wp2
      go_loopg [4] (8589934593 - r).toNat (fun gk s4 wr => ∃ r : Int, s4 = .int .i64 r ∧ gk = (8589934593 - r).toNat ∧ 0 ≤ r ∧ r ≤ 1000000000 ∧ r * r ≤ n ∧ wr = wo)
      case atStart => exact ⟨r, rfl, rfl, r0, root_le HS.out h1, HS.out, rfl⟩
      case round =>
        clear HS
        obtain ⟨x, rfl, hg2, x0, x1, hsq, rfl⟩ := hrel
        have HS := Lib.hid hsq
        have hc := quo_le (n := n) (r := x + 1) (by omega)
        have ht : n.tdiv (x + 1) = n / (x + 1) := Int.tdiv_eq_ediv_of_nonneg h0
        have q0 : 0 ≤ n / (x + 1) := Int.ediv_nonneg h0 (by omega)
        have q1 : n / (x + 1) ≤ n := Int.ediv_le_self _ h0
        have b0 : (x + 1 == 0) = false := by simp; omega
        clear hsq
        by_cases hx : (x + 1) * (x + 1) ≤ n
        · have hx2 := hc.2 hx
          have HX := Lib.hid hx
          clear hc hx
          generalize n / (x + 1) = q at *
          go_wp2
          go_roundg (gk - 1)
          case measure => omega
          case rel => exact ⟨x + 1, rfl, by omega, by omega, root_le HX.out h1, HX.out, rfl⟩
        · have hx2 : ¬ x + 1 ≤ n / (x + 1) := fun h => hx (hc.1 h)
          have HX := Lib.hid hx
          clear hc hx
          generalize n / (x + 1) = q at *
          go_wp2
          refine bodyPost_ret (v := .tuple #[.int .i64 x, .int .i64 0]) (by simp only [results, Tryz.results121]; go_simp) rfl ⟨⟨x, rfl, x0, HS.out, ?_⟩, rfl⟩
          have := HX.out
          omega
    · have hc := quo_le (n := n) (r := r) (by omega)
      have ht : n.tdiv r = n / r := Int.tdiv_eq_ediv_of_nonneg h0
      have q0 : 0 ≤ n / r := Int.ediv_nonneg h0 (by omega)
      have q1 : n / r ≤ n := Int.ediv_le_self _ h0
      have b0 : (r == 0) = false := by simp; omega
      have d1 : decide (0 < r) = true := decide_eq_true (by omega)
      by_cases hx : r * r ≤ n
      · have hx2 := hc.2 hx
        have HS := Lib.hid hx
        clear hc hx
        generalize n / r = q at *
        go_wp2
        go_loopg [4] (8589934593 - r).toNat (fun gk s4 wr => ∃ r : Int, s4 = .int .i64 r ∧ gk = (8589934593 - r).toNat ∧ 0 ≤ r ∧ r ≤ 1000000000 ∧ r * r ≤ n ∧ wr = wo)
        case atStart => exact ⟨r, rfl, rfl, r0, root_le HS.out h1, HS.out, rfl⟩
        case round =>
          clear HS
          obtain ⟨x, rfl, hg2, x0, x1, hsq, rfl⟩ := hrel
          have HS := Lib.hid hsq
          have hc := quo_le (n := n) (r := x + 1) (by omega)
          have ht : n.tdiv (x + 1) = n / (x + 1) := Int.tdiv_eq_ediv_of_nonneg h0
          have q0 : 0 ≤ n / (x + 1) := Int.ediv_nonneg h0 (by omega)
          have q1 : n / (x + 1) ≤ n := Int.ediv_le_self _ h0
          have b0 : (x + 1 == 0) = false := by simp; omega
          clear hsq
          by_cases hx : (x + 1) * (x + 1) ≤ n
          · have hx2 := hc.2 hx
            have HX := Lib.hid hx
            clear hc hx
            generalize n / (x + 1) = q at *
            go_wp2
            go_roundg (gk - 1)
            case measure => omega
            case rel => exact ⟨x + 1, rfl, by omega, by omega, root_le HX.out h1, HX.out, rfl⟩
          · have hx2 : ¬ x + 1 ≤ n / (x + 1) := fun h => hx (hc.1 h)
            have HX := Lib.hid hx
            clear hc hx
            generalize n / (x + 1) = q at *
            go_wp2
            refine bodyPost_ret (v := .tuple #[.int .i64 x, .int .i64 0]) (by simp only [results, Tryz.results121]; go_simp) rfl ⟨⟨x, rfl, x0, HS.out, ?_⟩, rfl⟩
            have := HX.out
            omega
      · have hx2 : ¬ r ≤ n / r := fun h => hx (hc.1 h)
        clear hc hx
        generalize n / r = q at *
        go_wp2
        go_roundg (gk - 1)
        case measure => omega
        case rel => exact ⟨r - 1, rfl, by omega, by omega, by omega, rfl⟩
end
end Go.Proofs.YtcgnhnmigmdalaaGreatDoor
