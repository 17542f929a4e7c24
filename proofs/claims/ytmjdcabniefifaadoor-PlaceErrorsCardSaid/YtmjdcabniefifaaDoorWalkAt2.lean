/- The contracts of math.atan2 and of trig.direction. -/
import Derived.Test.YtmjdcabniefifaaDoorWalkAt
set_option linter.unusedVariables false
set_option linter.unusedSimpArgs false
namespace Go.Proofs.YtmjdcabniefifaaDoor
open Go.RowKit
theorem copy_pos {c y : Nat} (hc : c < 9223372036854775808) (hy : y < 9223372036854775808) (ho : bits .or .u64 (c : Int) 0 = (c : Int)) (w : World) : Calls Tryd.prog 107 #[fl c, fl y] w fun e w' => e = .returned (fl c) ∧ w = w' :=
  c_copy c c y 0 hc (by omega) (by rw [u64A y (by omega), if_neg (by omega)]) ho w
set_option maxHeartbeats 2000000 in
set_option maxRecDepth 100000 in
theorem c_atan2 {y x r : Nat} {Y X : Rat} (ny : Num y Y) (nx : Num x X) (hy : y < 18446744073709551616) (hx : x < 18446744073709551616) (y9 : rabs Y ≤ 9000000000000000000) (x9 : rabs X ≤ 9000000000000000000) (yz : Y = 0 → y = 0) (h : At2P y Y x X r) (w : World) :
    Calls Tryd.prog 95 #[fl y, fl x] w fun e w' => e = .returned (fl r) ∧ w = w' := by
  have HN1 := Lib.hid (fun w1 => c_isNaN ny w1)
  have HN2 := Lib.hid (fun w1 => c_isNaN nx w1)
  rcases h with ⟨h1, h2, rfl⟩ | ⟨h1, h2, rfl⟩ | ⟨h1, h2, rfl⟩ | ⟨h1, h2, rfl⟩ | ⟨h1, h2, q, V, a, v, f1, f2, f3, f4, f5, f6⟩
  · have y0 := yz h1
    subst y0
    have ho : FloatKind.f64.format.order 0 0 = some .eq := by decide +kernel
    have ho2 : FloatKind.f64.format.order x 0 = some .gt := (num_order nx num_zero).2.2 h2
    have HS := Lib.hid (fun w1 => c_signbit (reads_pos nx h2 hx) w1)
    have HC := Lib.hid (fun w1 => copy_pos (c := 0) (y := 0) (by decide) (by decide) (by decide +kernel) w1)
    clear h1 h2 nx ny hy hx y9 x9 yz
    have hgen := sgen; have hgen2 := sgen2; have hgen3 := sgen3; go_enter Tryd.func95, Tryd.ntmps95
    go_wp2_with (first | (go_at_call 102; (with_reducible refine (HN1.out _).mono ?_); rintro e w' ⟨rfl, rfl⟩) | (go_at_call 102; (with_reducible refine (HN2.out _).mono ?_); rintro e w' ⟨rfl, rfl⟩) | (go_at_call 106; refine (HS.out _).mono ?_; rintro e w' ⟨rfl, rfl⟩) | (go_at_call 107; refine (HC.out _).mono ?_; rintro e w' ⟨rfl, rfl⟩))
    go_ret
    exact ⟨rfl, rfl⟩
  · have y0 := yz h1
    subst y0
    have ho : FloatKind.f64.format.order 0 0 = some .eq := by decide +kernel
    have ho2 : FloatKind.f64.format.order x 0 = some .lt := (num_order nx num_zero).1 h2
    have HC := Lib.hid (fun w1 => copy_pos (c := 4614256656552045848) (y := 0) (by decide) (by decide) (by decide +kernel) w1)
    clear h1 h2 nx ny hy hx y9 x9 yz
    have hgen := sgen; have hgen2 := sgen2; have hgen3 := sgen3; go_enter Tryd.func95, Tryd.ntmps95
    go_wp2_with (first | (go_at_call 102; (with_reducible refine (HN1.out _).mono ?_); rintro e w' ⟨rfl, rfl⟩) | (go_at_call 102; (with_reducible refine (HN2.out _).mono ?_); rintro e w' ⟨rfl, rfl⟩) | (go_at_call 107; refine (HC.out _).mono ?_; rintro e w' ⟨rfl, rfl⟩))
    go_ret
    exact ⟨rfl, rfl⟩
  · have ho : FloatKind.f64.format.order y 0 = some .gt := (num_order ny num_zero).2.2 h2
    have ho2 : FloatKind.f64.format.order x 0 = some .eq := (num_order nx num_zero).2.1 h1
    have HC := Lib.hid (fun w1 => copy_pos (c := 4609753056924675352) (y := y) (by decide) (reads_pos ny h2 hy) (by decide +kernel) w1)
    clear h1 h2 nx ny hy hx y9 x9 yz
    have hgen := sgen; have hgen2 := sgen2; have hgen3 := sgen3; go_enter Tryd.func95, Tryd.ntmps95
    go_wp2_with (first | (go_at_call 102; (with_reducible refine (HN1.out _).mono ?_); rintro e w' ⟨rfl, rfl⟩) | (go_at_call 102; (with_reducible refine (HN2.out _).mono ?_); rintro e w' ⟨rfl, rfl⟩) | (go_at_call 107; refine (HC.out _).mono ?_; rintro e w' ⟨rfl, rfl⟩))
    go_ret
    exact ⟨rfl, rfl⟩
  · have ho : FloatKind.f64.format.order y 0 = some .lt := (num_order ny num_zero).1 h2
    have ho2 : FloatKind.f64.format.order x 0 = some .eq := (num_order nx num_zero).2.1 h1
    have HC := Lib.hid (fun w1 => c_copy 4609753056924675352 (fneg 4609753056924675352) y 9223372036854775808 (by decide) hy (by rw [u64A y hy, if_pos (sign_neg ny h2)]) (by decide +kernel) w1)
    have en : fneg wPi2 = fneg 4609753056924675352 := rfl
    rw [en]
    clear h1 h2 nx ny hy hx y9 x9 yz en
    generalize fneg 4609753056924675352 = pp at *
    have hgen := sgen; have hgen2 := sgen2; have hgen3 := sgen3; go_enter Tryd.func95, Tryd.ntmps95
    go_wp2_with (first | (go_at_call 102; (with_reducible refine (HN1.out _).mono ?_); rintro e w' ⟨rfl, rfl⟩) | (go_at_call 102; (with_reducible refine (HN2.out _).mono ?_); rintro e w' ⟨rfl, rfl⟩) | (go_at_call 107; refine (HC.out _).mono ?_; rintro e w' ⟨rfl, rfl⟩))
    go_ret
    exact ⟨rfl, rfl⟩
  · have HI1 := Lib.hid (fun w1 => c_isInfA ny hy y9 w1)
    have HI2 := Lib.hid (fun w1 => c_isInfA nx hx x9 w1)
    have HA := Lib.hid (fun w1 => c_Atan f2 f4 w1)
    have s1 := hdiv f1
    have hoy : ∃ c, FloatKind.f64.format.order y 0 = some c ∧ (c = .lt ∨ c = .gt) := by
      by_cases k : Y < 0
      · exact ⟨_, (num_order ny num_zero).1 k, .inl rfl⟩
      · exact ⟨_, (num_order ny num_zero).2.2 (by grind), .inr rfl⟩
    obtain ⟨cy, ho, hc⟩ := hoy
    rcases f6 with ⟨k1, rfl⟩ | ⟨k1, k2, k3⟩ | ⟨k1, k2, k3⟩
    · have ho2 : FloatKind.f64.format.order x 0 = some .gt := (num_order nx num_zero).2.2 k1
      clear h1 h2 nx ny hy hx y9 x9 yz f1 f2 f3 f4 f5 k1
      rcases hc with rfl | rfl
      all_goals
        have hgen := sgen; have hgen2 := sgen2; have hgen3 := sgen3; go_enter Tryd.func95, Tryd.ntmps95
        go_wp2_with (first | (go_at_call 102; (with_reducible refine (HN1.out _).mono ?_); rintro e w' ⟨rfl, rfl⟩) | (go_at_call 102; (with_reducible refine (HN2.out _).mono ?_); rintro e w' ⟨rfl, rfl⟩) | (go_at_call 103; (with_reducible refine (HI1.out _).mono ?_); rintro e w' ⟨rfl, rfl⟩) | (go_at_call 103; (with_reducible refine (HI2.out _).mono ?_); rintro e w' ⟨rfl, rfl⟩) | (go_at_call 108; refine (HA.out _).mono ?_; rintro e w' ⟨rfl, rfl⟩))
        go_ret
        exact ⟨rfl, rfl⟩
    · have ho2 : FloatKind.f64.format.order x 0 = some .lt := (num_order nx num_zero).1 k1
      have s2 : ∀ t' w, (binOp .add t' (.float .f64 a) (.float .f64 4614256656552045848)).run Tryd.prog w = .ok (.float .f64 r) w := hadd k3
      have hov : ∃ c, FloatKind.f64.format.order a 0 = some c ∧ (c = .lt ∨ c = .eq) := by
        by_cases k : v < 0
        · exact ⟨_, (num_order f5 num_zero).1 k, .inl rfl⟩
        · exact ⟨_, (num_order f5 num_zero).2.1 (by grind), .inr rfl⟩
      obtain ⟨cv', ho3, hc3⟩ := hov
      clear h1 h2 nx ny hy hx y9 x9 yz f1 f2 f3 f4 f5 k1 k2 k3
      rcases hc with rfl | rfl <;> rcases hc3 with rfl | rfl
      all_goals
        have hgen := sgen; have hgen2 := sgen2; have hgen3 := sgen3; go_enter Tryd.func95, Tryd.ntmps95
        go_wp2_with (first | (go_at_call 102; (with_reducible refine (HN1.out _).mono ?_); rintro e w' ⟨rfl, rfl⟩) | (go_at_call 102; (with_reducible refine (HN2.out _).mono ?_); rintro e w' ⟨rfl, rfl⟩) | (go_at_call 103; (with_reducible refine (HI1.out _).mono ?_); rintro e w' ⟨rfl, rfl⟩) | (go_at_call 103; (with_reducible refine (HI2.out _).mono ?_); rintro e w' ⟨rfl, rfl⟩) | (go_at_call 108; refine (HA.out _).mono ?_; rintro e w' ⟨rfl, rfl⟩))
        go_ret
        exact ⟨rfl, rfl⟩
    · have ho2 : FloatKind.f64.format.order x 0 = some .lt := (num_order nx num_zero).1 k1
      have s2 : ∀ t' w, (binOp .sub t' (.float .f64 a) (.float .f64 4614256656552045848)).run Tryd.prog w = .ok (.float .f64 r) w := hsub k3
      have ho3 : FloatKind.f64.format.order a 0 = some .gt := (num_order f5 num_zero).2.2 k2
      clear h1 h2 nx ny hy hx y9 x9 yz f1 f2 f3 f4 f5 k1 k2 k3
      rcases hc with rfl | rfl
      all_goals
        have hgen := sgen; have hgen2 := sgen2; have hgen3 := sgen3; go_enter Tryd.func95, Tryd.ntmps95
        go_wp2_with (first | (go_at_call 102; (with_reducible refine (HN1.out _).mono ?_); rintro e w' ⟨rfl, rfl⟩) | (go_at_call 102; (with_reducible refine (HN2.out _).mono ?_); rintro e w' ⟨rfl, rfl⟩) | (go_at_call 103; (with_reducible refine (HI1.out _).mono ?_); rintro e w' ⟨rfl, rfl⟩) | (go_at_call 103; (with_reducible refine (HI2.out _).mono ?_); rintro e w' ⟨rfl, rfl⟩) | (go_at_call 108; refine (HA.out _).mono ?_; rintro e w' ⟨rfl, rfl⟩))
        go_ret
        exact ⟨rfl, rfl⟩
theorem c_Atan2 {y x r : Nat} {Y X : Rat} (ny : Num y Y) (nx : Num x X) (hy : y < 18446744073709551616) (hx : x < 18446744073709551616) (y9 : rabs Y ≤ 9000000000000000000) (x9 : rabs X ≤ 9000000000000000000) (yz : Y = 0 → y = 0) (h : At2P y Y x X r) (w : World) :
    Calls Tryd.prog 86 #[fl y, fl x] w fun e w' => e = .returned (fl r) ∧ w = w' := by
  have HX := Lib.hid (fun w1 => c_atan2 ny nx hy hx y9 x9 yz h w1)
  clear ny nx hy hx y9 x9 yz h
  have hgen := sgen; have hgen2 := sgen2; have hgen3 := sgen3; go_enter Tryd.func86, Tryd.ntmps86
  go_wp2_with (go_at_call 95; refine (HX.out _).mono ?_; rintro e w' ⟨rfl, rfl⟩)
  go_ret
  exact ⟨rfl, rfl⟩
/-- The angle of a direction of two whole numbers. -/
theorem c_direction (y x : Int) (y1 : -2000000000000000000 ≤ y) (y2 : y ≤ 2000000000000000000) (x1 : -2000000000000000000 ≤ x) (x2 : x ≤ 2000000000000000000) (h0 : y ≠ 0 ∨ x ≠ 0) :
    ∃ f D, Num f D ∧ (∃ X Y, Head X Y D ∧ rabs (X - (x : Rat)) ≤ 1 / 1000000000000000 * rabs (x : Rat) ∧ rabs (Y - (y : Rat)) ≤ 1 / 1000000000000000 * rabs (y : Rat)) ∧ ∀ w, Calls Tryd.prog 74 #[.int .i64 y, .int .i64 x] w fun e w' => e = .returned (fl f) ∧ w = w' := by
  obtain ⟨Y, ny, b1, b2, b3, b4⟩ := int_num y y1 y2
  obtain ⟨X, nx, c1, c2, c3, c4⟩ := int_num x x1 x2
  have hX : X = 0 ∨ 1/2 ≤ rabs X := by
    by_cases h : x = 0
    · exact .inl (c2 h).1
    · exact .inr (c3 h)
  have z0 : rabs 0 = 0 := by decide +kernel
  have hz : Y ≠ 0 ∨ X ≠ 0 := by
    rcases h0 with h | h
    · left; intro e; have := b3 h; rw [e, z0] at this; grind
    · right; intro e; have := c3 h; rw [e, z0] at this; grind
  have yz : Y = 0 → fofI y = 0 := by
    intro e
    by_cases h : y = 0
    · exact (b2 h).2
    · have := b3 h; rw [e, z0] at this; grind
  obtain ⟨r, d, f, D, f1, f2, f3, f4, f5⟩ := dir_run ny nx hX (by grind) (by grind) hz
  refine ⟨f, D, f4, ⟨X, Y, f5, c1, b1⟩, fun w => ?_⟩
  have HX := Lib.hid (fun w1 => c_Atan2 ny nx (fofI_lt64 y) (fofI_lt64 x) (by grind) (by grind) yz f1 w1)
  have r1 : ∀ t w, (binOp .quo t (.float .f64 r) (.float .f64 4618760256179416344)).run Tryd.prog w = .ok (.float .f64 d) w := hdiv f2
  have r2 : ∀ t w, (binOp .mul t (.float .f64 d) (.float .f64 4741671816366391296)).run Tryd.prog w = .ok (.float .f64 f) w := hmul f3
  obtain ⟨yw, hyw⟩ : ∃ z, fofI y = z := ⟨_, rfl⟩
  obtain ⟨xw, hxw⟩ : ∃ z, fofI x = z := ⟨_, rfl⟩
  rw [hyw, hxw] at HX
  have k1 : floatOfInt .f64 y = yw := hyw
  have k2 : floatOfInt .f64 x = xw := hxw
  clear ny nx b1 b2 b3 b4 c1 c2 c3 c4 hX hz yz f1 f2 f3 f4 f5 hyw hxw h0
  have hgen := sgen; have hgen2 := sgen2; have hgen3 := sgen3; go_enter Tryd.func74, Tryd.ntmps74
  go_wp2_with (go_at_call 86; refine (HX.out _).mono ?_; rintro e w' ⟨rfl, rfl⟩)
  go_ret
  exact ⟨rfl, rfl⟩
end Go.Proofs.YtmjdcabniefifaaDoor
