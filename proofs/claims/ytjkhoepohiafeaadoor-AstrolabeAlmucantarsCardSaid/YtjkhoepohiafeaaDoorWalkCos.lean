/- The walk of math.cos at a number from -7 to 7, and of math.sin at a negative one. (Printed by gencos.py.) -/
import Derived.Test.YtjkhoepohiafeaaDoorWkC
import Derived.Test.YtjkhoepohiafeaaDoorAtA
import Derived.Test.YtjkhoepohiafeaaDoorPlainCos
set_option linter.unusedVariables false
set_option linter.unusedSimpArgs false
namespace Go.Proofs.YtjkhoepohiafeaaDoor
open Go.RowKit
set_option maxHeartbeats 2000000 in
set_option maxRecDepth 100000 in
theorem c_cos_j0 {x0 x t z yc : Nat} {Y : Rat} (w : World) (ht : Tab w) (hn : Num x0 Y) (h0 : x0 < 18446744073709551616) (he : x0 % 9223372036854775808 = x) (y9 : rabs Y ≤ 9) (h1 : Ieee.double.mul x wC4 = some t) (h2 : (Ieee.double.read t).toInt .zero = some ((0 : Nat) : Int)) (h3 : RedP x (evW 0) z) (h4 : CosP z yc) :
    Calls Tryd.prog 89 #[fl x0] w fun e w' => e = .returned (fl yc) ∧ w = w' := by
  have hbig : FloatKind.f64.format.order x 4737786807993761792 = some .lt := by
    have ha := abs_num hn h0
    rw [he] at ha
    exact (num_order ha (cv_num (by decide +kernel))).1 (lt9 y9 big9)
  have HB := Lib.hid (fun w1 => c_absA h0 w1)
  rw [he] at HB
  have HN := Lib.hid (fun w1 => c_isNaN hn w1)
  have HI := Lib.hid (fun w1 => c_isInfA hn h0 (by grind) w1)
  have q1 : ∀ t' w, (binOp .mul t' (.float .f64 x) (.float .f64 4608412980311869571)).run Tryd.prog w = .ok (.float .f64 t) w := hmul h1
  have q2 : ∀ w, (convert 69 111 (.float .f64 t)).run Tryd.prog w = .ok (.int .u64 0) w := hcutU h2 (by omega) (by omega)
  have q3 : floatOfInt .f64 0 = 0 := by decide +kernel
  obtain ⟨a1, b1, a2, b2, a3, e1, e2, e3, e4, e5, e6⟩ := h3
  have r1 : ∀ t' w, (binOp .mul t' (.float .f64 0) (.float .f64 4605249456957292544)).run Tryd.prog w = .ok (.float .f64 a1) w := hmul e1
  have r2 := hsub e2
  have r3 : ∀ t' w, (binOp .mul t' (.float .f64 0) (.float .f64 4495793288086814720)).run Tryd.prog w = .ok (.float .f64 a2) w := hmul e3
  have r4 := hsub e4
  have r5 : ∀ t' w, (binOp .mul t' (.float .f64 0) (.float .f64 4388835458085048688)).run Tryd.prog w = .ok (.float .f64 a3) w := hmul e5
  have r6 := hsub e6
  obtain ⟨zz, m1, g1, m2, g2, m3, g3, m4, g4, m5, g5, v, u, t2, p, k1, f1, f2, f3, f4, f5, f6, f7, f8, f9, f10, v1, u1, i1, i2, i3⟩ := h4
  have s0 := hmul k1
  have s1 := hmul f1
  have s2 := hadd f2
  have s3 := hmul f3
  have s4 := hadd f4
  have s5 := hmul f5
  have s6 := hadd f6
  have s7 := hmul f7
  have s8 := hadd f8
  have s9 := hmul f9
  have s10 := hadd f10
  have s11 : ∀ t' w, (binOp .mul t' (.float .f64 4602678819172646912) (.float .f64 zz)).run Tryd.prog w = .ok (.float .f64 v) w := hmul v1
  have s12 : ∀ t' w, (binOp .sub t' (.float .f64 4607182418800017408) (.float .f64 v)).run Tryd.prog w = .ok (.float .f64 u) w := hsub u1
  have s13 := hmul i1
  have s14 := hmul i2
  have s15 := hadd i3
  obtain ⟨c0, c1, c2, c3, c4, c5, -, -, -, -, -, -⟩ := ht
  clear k1 f1 f2 f3 f4 f5 f6 f7 f8 f9 f10 v1 u1 i1 i2 i3 e1 e2 e3 e4 e5 e6 h1 h2 hn h0 he y9
  have hgen := sgen; have hgen2 := sgen2; have hgen3 := sgen3; go_enter Tryd.func89, Tryd.ntmps89
  go_wp2_with (first | (go_at_call 107; refine (HN.out _).mono ?_; rintro e w' ⟨rfl, rfl⟩) | (go_at_call 108; refine (HI.out _).mono ?_; rintro e w' ⟨rfl, rfl⟩) | (go_at_call 110; refine (HB.out _).mono ?_; rintro e w' ⟨rfl, rfl⟩))
  go_ret
  exact ⟨rfl, rfl⟩
set_option maxHeartbeats 2000000 in
set_option maxRecDepth 100000 in
theorem c_cos_j1 {x0 x t z ys : Nat} {Y : Rat} (w : World) (ht : Tab w) (hn : Num x0 Y) (h0 : x0 < 18446744073709551616) (he : x0 % 9223372036854775808 = x) (y9 : rabs Y ≤ 9) (h1 : Ieee.double.mul x wC4 = some t) (h2 : (Ieee.double.read t).toInt .zero = some ((1 : Nat) : Int)) (h3 : RedP x (evW 1) z) (h4 : SinP z ys) :
    Calls Tryd.prog 89 #[fl x0] w fun e w' => e = .returned (fl (fneg ys)) ∧ w = w' := by
  have hbig : FloatKind.f64.format.order x 4737786807993761792 = some .lt := by
    have ha := abs_num hn h0
    rw [he] at ha
    exact (num_order ha (cv_num (by decide +kernel))).1 (lt9 y9 big9)
  have HB := Lib.hid (fun w1 => c_absA h0 w1)
  rw [he] at HB
  have HN := Lib.hid (fun w1 => c_isNaN hn w1)
  have HI := Lib.hid (fun w1 => c_isInfA hn h0 (by grind) w1)
  have q1 : ∀ t' w, (binOp .mul t' (.float .f64 x) (.float .f64 4608412980311869571)).run Tryd.prog w = .ok (.float .f64 t) w := hmul h1
  have q2 : ∀ w, (convert 69 111 (.float .f64 t)).run Tryd.prog w = .ok (.int .u64 1) w := hcutU h2 (by omega) (by omega)
  have q3 : floatOfInt .f64 1 = 4607182418800017408 := by decide +kernel
  have q4 : ∀ t' w, (binOp .add t' (.float .f64 4607182418800017408) (.float .f64 4607182418800017408)).run Tryd.prog w = .ok (.float .f64 4611686018427387904) w := hadd (by decide +kernel)
  obtain ⟨a1, b1, a2, b2, a3, e1, e2, e3, e4, e5, e6⟩ := h3
  have r1 : ∀ t' w, (binOp .mul t' (.float .f64 4611686018427387904) (.float .f64 4605249456957292544)).run Tryd.prog w = .ok (.float .f64 a1) w := hmul e1
  have r2 := hsub e2
  have r3 : ∀ t' w, (binOp .mul t' (.float .f64 4611686018427387904) (.float .f64 4495793288086814720)).run Tryd.prog w = .ok (.float .f64 a2) w := hmul e3
  have r4 := hsub e4
  have r5 : ∀ t' w, (binOp .mul t' (.float .f64 4611686018427387904) (.float .f64 4388835458085048688)).run Tryd.prog w = .ok (.float .f64 a3) w := hmul e5
  have r6 := hsub e6
  obtain ⟨zz, m1, g1, m2, g2, m3, g3, m4, g4, m5, g5, t2, p, k1, f1, f2, f3, f4, f5, f6, f7, f8, f9, f10, i1, i2, i3⟩ := h4
  have s0 := hmul k1
  have s1 := hmul f1
  have s2 := hadd f2
  have s3 := hmul f3
  have s4 := hadd f4
  have s5 := hmul f5
  have s6 := hadd f6
  have s7 := hmul f7
  have s8 := hadd f8
  have s9 := hmul f9
  have s10 := hadd f10
  have s13 := hmul i1
  have s14 := hmul i2
  have s15 := hadd i3
  obtain ⟨-, -, -, -, -, -, c0, c1, c2, c3, c4, c5⟩ := ht
  have s16 := hneg ys
  clear k1 f1 f2 f3 f4 f5 f6 f7 f8 f9 f10 i1 i2 i3 e1 e2 e3 e4 e5 e6 h1 h2 hn h0 he y9
  have hgen := sgen; have hgen2 := sgen2; have hgen3 := sgen3; go_enter Tryd.func89, Tryd.ntmps89
  go_wp2_with (first | (go_at_call 107; refine (HN.out _).mono ?_; rintro e w' ⟨rfl, rfl⟩) | (go_at_call 108; refine (HI.out _).mono ?_; rintro e w' ⟨rfl, rfl⟩) | (go_at_call 110; refine (HB.out _).mono ?_; rintro e w' ⟨rfl, rfl⟩))
  go_ret
  exact ⟨rfl, rfl⟩
set_option maxHeartbeats 2000000 in
set_option maxRecDepth 100000 in
theorem c_cos_j2 {x0 x t z ys : Nat} {Y : Rat} (w : World) (ht : Tab w) (hn : Num x0 Y) (h0 : x0 < 18446744073709551616) (he : x0 % 9223372036854775808 = x) (y9 : rabs Y ≤ 9) (h1 : Ieee.double.mul x wC4 = some t) (h2 : (Ieee.double.read t).toInt .zero = some ((2 : Nat) : Int)) (h3 : RedP x (evW 1) z) (h4 : SinP z ys) :
    Calls Tryd.prog 89 #[fl x0] w fun e w' => e = .returned (fl (fneg ys)) ∧ w = w' := by
  have hbig : FloatKind.f64.format.order x 4737786807993761792 = some .lt := by
    have ha := abs_num hn h0
    rw [he] at ha
    exact (num_order ha (cv_num (by decide +kernel))).1 (lt9 y9 big9)
  have HB := Lib.hid (fun w1 => c_absA h0 w1)
  rw [he] at HB
  have HN := Lib.hid (fun w1 => c_isNaN hn w1)
  have HI := Lib.hid (fun w1 => c_isInfA hn h0 (by grind) w1)
  have q1 : ∀ t' w, (binOp .mul t' (.float .f64 x) (.float .f64 4608412980311869571)).run Tryd.prog w = .ok (.float .f64 t) w := hmul h1
  have q2 : ∀ w, (convert 69 111 (.float .f64 t)).run Tryd.prog w = .ok (.int .u64 2) w := hcutU h2 (by omega) (by omega)
  have q3 : floatOfInt .f64 2 = 4611686018427387904 := by decide +kernel
  obtain ⟨a1, b1, a2, b2, a3, e1, e2, e3, e4, e5, e6⟩ := h3
  have r1 : ∀ t' w, (binOp .mul t' (.float .f64 4611686018427387904) (.float .f64 4605249456957292544)).run Tryd.prog w = .ok (.float .f64 a1) w := hmul e1
  have r2 := hsub e2
  have r3 : ∀ t' w, (binOp .mul t' (.float .f64 4611686018427387904) (.float .f64 4495793288086814720)).run Tryd.prog w = .ok (.float .f64 a2) w := hmul e3
  have r4 := hsub e4
  have r5 : ∀ t' w, (binOp .mul t' (.float .f64 4611686018427387904) (.float .f64 4388835458085048688)).run Tryd.prog w = .ok (.float .f64 a3) w := hmul e5
  have r6 := hsub e6
  obtain ⟨zz, m1, g1, m2, g2, m3, g3, m4, g4, m5, g5, t2, p, k1, f1, f2, f3, f4, f5, f6, f7, f8, f9, f10, i1, i2, i3⟩ := h4
  have s0 := hmul k1
  have s1 := hmul f1
  have s2 := hadd f2
  have s3 := hmul f3
  have s4 := hadd f4
  have s5 := hmul f5
  have s6 := hadd f6
  have s7 := hmul f7
  have s8 := hadd f8
  have s9 := hmul f9
  have s10 := hadd f10
  have s13 := hmul i1
  have s14 := hmul i2
  have s15 := hadd i3
  obtain ⟨-, -, -, -, -, -, c0, c1, c2, c3, c4, c5⟩ := ht
  have s16 := hneg ys
  clear k1 f1 f2 f3 f4 f5 f6 f7 f8 f9 f10 i1 i2 i3 e1 e2 e3 e4 e5 e6 h1 h2 hn h0 he y9
  have hgen := sgen; have hgen2 := sgen2; have hgen3 := sgen3; go_enter Tryd.func89, Tryd.ntmps89
  go_wp2_with (first | (go_at_call 107; refine (HN.out _).mono ?_; rintro e w' ⟨rfl, rfl⟩) | (go_at_call 108; refine (HI.out _).mono ?_; rintro e w' ⟨rfl, rfl⟩) | (go_at_call 110; refine (HB.out _).mono ?_; rintro e w' ⟨rfl, rfl⟩))
  go_ret
  exact ⟨rfl, rfl⟩
set_option maxHeartbeats 2000000 in
set_option maxRecDepth 100000 in
theorem c_cos_j3 {x0 x t z yc : Nat} {Y : Rat} (w : World) (ht : Tab w) (hn : Num x0 Y) (h0 : x0 < 18446744073709551616) (he : x0 % 9223372036854775808 = x) (y9 : rabs Y ≤ 9) (h1 : Ieee.double.mul x wC4 = some t) (h2 : (Ieee.double.read t).toInt .zero = some ((3 : Nat) : Int)) (h3 : RedP x (evW 2) z) (h4 : CosP z yc) :
    Calls Tryd.prog 89 #[fl x0] w fun e w' => e = .returned (fl (fneg yc)) ∧ w = w' := by
  have hbig : FloatKind.f64.format.order x 4737786807993761792 = some .lt := by
    have ha := abs_num hn h0
    rw [he] at ha
    exact (num_order ha (cv_num (by decide +kernel))).1 (lt9 y9 big9)
  have HB := Lib.hid (fun w1 => c_absA h0 w1)
  rw [he] at HB
  have HN := Lib.hid (fun w1 => c_isNaN hn w1)
  have HI := Lib.hid (fun w1 => c_isInfA hn h0 (by grind) w1)
  have q1 : ∀ t' w, (binOp .mul t' (.float .f64 x) (.float .f64 4608412980311869571)).run Tryd.prog w = .ok (.float .f64 t) w := hmul h1
  have q2 : ∀ w, (convert 69 111 (.float .f64 t)).run Tryd.prog w = .ok (.int .u64 3) w := hcutU h2 (by omega) (by omega)
  have q3 : floatOfInt .f64 3 = 4613937818241073152 := by decide +kernel
  have q4 : ∀ t' w, (binOp .add t' (.float .f64 4613937818241073152) (.float .f64 4607182418800017408)).run Tryd.prog w = .ok (.float .f64 4616189618054758400) w := hadd (by decide +kernel)
  obtain ⟨a1, b1, a2, b2, a3, e1, e2, e3, e4, e5, e6⟩ := h3
  have r1 : ∀ t' w, (binOp .mul t' (.float .f64 4616189618054758400) (.float .f64 4605249456957292544)).run Tryd.prog w = .ok (.float .f64 a1) w := hmul e1
  have r2 := hsub e2
  have r3 : ∀ t' w, (binOp .mul t' (.float .f64 4616189618054758400) (.float .f64 4495793288086814720)).run Tryd.prog w = .ok (.float .f64 a2) w := hmul e3
  have r4 := hsub e4
  have r5 : ∀ t' w, (binOp .mul t' (.float .f64 4616189618054758400) (.float .f64 4388835458085048688)).run Tryd.prog w = .ok (.float .f64 a3) w := hmul e5
  have r6 := hsub e6
  obtain ⟨zz, m1, g1, m2, g2, m3, g3, m4, g4, m5, g5, v, u, t2, p, k1, f1, f2, f3, f4, f5, f6, f7, f8, f9, f10, v1, u1, i1, i2, i3⟩ := h4
  have s0 := hmul k1
  have s1 := hmul f1
  have s2 := hadd f2
  have s3 := hmul f3
  have s4 := hadd f4
  have s5 := hmul f5
  have s6 := hadd f6
  have s7 := hmul f7
  have s8 := hadd f8
  have s9 := hmul f9
  have s10 := hadd f10
  have s11 : ∀ t' w, (binOp .mul t' (.float .f64 4602678819172646912) (.float .f64 zz)).run Tryd.prog w = .ok (.float .f64 v) w := hmul v1
  have s12 : ∀ t' w, (binOp .sub t' (.float .f64 4607182418800017408) (.float .f64 v)).run Tryd.prog w = .ok (.float .f64 u) w := hsub u1
  have s13 := hmul i1
  have s14 := hmul i2
  have s15 := hadd i3
  obtain ⟨c0, c1, c2, c3, c4, c5, -, -, -, -, -, -⟩ := ht
  have s16 := hneg yc
  clear k1 f1 f2 f3 f4 f5 f6 f7 f8 f9 f10 v1 u1 i1 i2 i3 e1 e2 e3 e4 e5 e6 h1 h2 hn h0 he y9
  have hgen := sgen; have hgen2 := sgen2; have hgen3 := sgen3; go_enter Tryd.func89, Tryd.ntmps89
  go_wp2_with (first | (go_at_call 107; refine (HN.out _).mono ?_; rintro e w' ⟨rfl, rfl⟩) | (go_at_call 108; refine (HI.out _).mono ?_; rintro e w' ⟨rfl, rfl⟩) | (go_at_call 110; refine (HB.out _).mono ?_; rintro e w' ⟨rfl, rfl⟩))
  go_ret
  exact ⟨rfl, rfl⟩
set_option maxHeartbeats 2000000 in
set_option maxRecDepth 100000 in
theorem c_cos_j4 {x0 x t z yc : Nat} {Y : Rat} (w : World) (ht : Tab w) (hn : Num x0 Y) (h0 : x0 < 18446744073709551616) (he : x0 % 9223372036854775808 = x) (y9 : rabs Y ≤ 9) (h1 : Ieee.double.mul x wC4 = some t) (h2 : (Ieee.double.read t).toInt .zero = some ((4 : Nat) : Int)) (h3 : RedP x (evW 2) z) (h4 : CosP z yc) :
    Calls Tryd.prog 89 #[fl x0] w fun e w' => e = .returned (fl (fneg yc)) ∧ w = w' := by
  have hbig : FloatKind.f64.format.order x 4737786807993761792 = some .lt := by
    have ha := abs_num hn h0
    rw [he] at ha
    exact (num_order ha (cv_num (by decide +kernel))).1 (lt9 y9 big9)
  have HB := Lib.hid (fun w1 => c_absA h0 w1)
  rw [he] at HB
  have HN := Lib.hid (fun w1 => c_isNaN hn w1)
  have HI := Lib.hid (fun w1 => c_isInfA hn h0 (by grind) w1)
  have q1 : ∀ t' w, (binOp .mul t' (.float .f64 x) (.float .f64 4608412980311869571)).run Tryd.prog w = .ok (.float .f64 t) w := hmul h1
  have q2 : ∀ w, (convert 69 111 (.float .f64 t)).run Tryd.prog w = .ok (.int .u64 4) w := hcutU h2 (by omega) (by omega)
  have q3 : floatOfInt .f64 4 = 4616189618054758400 := by decide +kernel
  obtain ⟨a1, b1, a2, b2, a3, e1, e2, e3, e4, e5, e6⟩ := h3
  have r1 : ∀ t' w, (binOp .mul t' (.float .f64 4616189618054758400) (.float .f64 4605249456957292544)).run Tryd.prog w = .ok (.float .f64 a1) w := hmul e1
  have r2 := hsub e2
  have r3 : ∀ t' w, (binOp .mul t' (.float .f64 4616189618054758400) (.float .f64 4495793288086814720)).run Tryd.prog w = .ok (.float .f64 a2) w := hmul e3
  have r4 := hsub e4
  have r5 : ∀ t' w, (binOp .mul t' (.float .f64 4616189618054758400) (.float .f64 4388835458085048688)).run Tryd.prog w = .ok (.float .f64 a3) w := hmul e5
  have r6 := hsub e6
  obtain ⟨zz, m1, g1, m2, g2, m3, g3, m4, g4, m5, g5, v, u, t2, p, k1, f1, f2, f3, f4, f5, f6, f7, f8, f9, f10, v1, u1, i1, i2, i3⟩ := h4
  have s0 := hmul k1
  have s1 := hmul f1
  have s2 := hadd f2
  have s3 := hmul f3
  have s4 := hadd f4
  have s5 := hmul f5
  have s6 := hadd f6
  have s7 := hmul f7
  have s8 := hadd f8
  have s9 := hmul f9
  have s10 := hadd f10
  have s11 : ∀ t' w, (binOp .mul t' (.float .f64 4602678819172646912) (.float .f64 zz)).run Tryd.prog w = .ok (.float .f64 v) w := hmul v1
  have s12 : ∀ t' w, (binOp .sub t' (.float .f64 4607182418800017408) (.float .f64 v)).run Tryd.prog w = .ok (.float .f64 u) w := hsub u1
  have s13 := hmul i1
  have s14 := hmul i2
  have s15 := hadd i3
  obtain ⟨c0, c1, c2, c3, c4, c5, -, -, -, -, -, -⟩ := ht
  have s16 := hneg yc
  clear k1 f1 f2 f3 f4 f5 f6 f7 f8 f9 f10 v1 u1 i1 i2 i3 e1 e2 e3 e4 e5 e6 h1 h2 hn h0 he y9
  have hgen := sgen; have hgen2 := sgen2; have hgen3 := sgen3; go_enter Tryd.func89, Tryd.ntmps89
  go_wp2_with (first | (go_at_call 107; refine (HN.out _).mono ?_; rintro e w' ⟨rfl, rfl⟩) | (go_at_call 108; refine (HI.out _).mono ?_; rintro e w' ⟨rfl, rfl⟩) | (go_at_call 110; refine (HB.out _).mono ?_; rintro e w' ⟨rfl, rfl⟩))
  go_ret
  exact ⟨rfl, rfl⟩
set_option maxHeartbeats 2000000 in
set_option maxRecDepth 100000 in
theorem c_cos_j5 {x0 x t z ys : Nat} {Y : Rat} (w : World) (ht : Tab w) (hn : Num x0 Y) (h0 : x0 < 18446744073709551616) (he : x0 % 9223372036854775808 = x) (y9 : rabs Y ≤ 9) (h1 : Ieee.double.mul x wC4 = some t) (h2 : (Ieee.double.read t).toInt .zero = some ((5 : Nat) : Int)) (h3 : RedP x (evW 3) z) (h4 : SinP z ys) :
    Calls Tryd.prog 89 #[fl x0] w fun e w' => e = .returned (fl ys) ∧ w = w' := by
  have hbig : FloatKind.f64.format.order x 4737786807993761792 = some .lt := by
    have ha := abs_num hn h0
    rw [he] at ha
    exact (num_order ha (cv_num (by decide +kernel))).1 (lt9 y9 big9)
  have HB := Lib.hid (fun w1 => c_absA h0 w1)
  rw [he] at HB
  have HN := Lib.hid (fun w1 => c_isNaN hn w1)
  have HI := Lib.hid (fun w1 => c_isInfA hn h0 (by grind) w1)
  have q1 : ∀ t' w, (binOp .mul t' (.float .f64 x) (.float .f64 4608412980311869571)).run Tryd.prog w = .ok (.float .f64 t) w := hmul h1
  have q2 : ∀ w, (convert 69 111 (.float .f64 t)).run Tryd.prog w = .ok (.int .u64 5) w := hcutU h2 (by omega) (by omega)
  have q3 : floatOfInt .f64 5 = 4617315517961601024 := by decide +kernel
  have q4 : ∀ t' w, (binOp .add t' (.float .f64 4617315517961601024) (.float .f64 4607182418800017408)).run Tryd.prog w = .ok (.float .f64 4618441417868443648) w := hadd (by decide +kernel)
  obtain ⟨a1, b1, a2, b2, a3, e1, e2, e3, e4, e5, e6⟩ := h3
  have r1 : ∀ t' w, (binOp .mul t' (.float .f64 4618441417868443648) (.float .f64 4605249456957292544)).run Tryd.prog w = .ok (.float .f64 a1) w := hmul e1
  have r2 := hsub e2
  have r3 : ∀ t' w, (binOp .mul t' (.float .f64 4618441417868443648) (.float .f64 4495793288086814720)).run Tryd.prog w = .ok (.float .f64 a2) w := hmul e3
  have r4 := hsub e4
  have r5 : ∀ t' w, (binOp .mul t' (.float .f64 4618441417868443648) (.float .f64 4388835458085048688)).run Tryd.prog w = .ok (.float .f64 a3) w := hmul e5
  have r6 := hsub e6
  obtain ⟨zz, m1, g1, m2, g2, m3, g3, m4, g4, m5, g5, t2, p, k1, f1, f2, f3, f4, f5, f6, f7, f8, f9, f10, i1, i2, i3⟩ := h4
  have s0 := hmul k1
  have s1 := hmul f1
  have s2 := hadd f2
  have s3 := hmul f3
  have s4 := hadd f4
  have s5 := hmul f5
  have s6 := hadd f6
  have s7 := hmul f7
  have s8 := hadd f8
  have s9 := hmul f9
  have s10 := hadd f10
  have s13 := hmul i1
  have s14 := hmul i2
  have s15 := hadd i3
  obtain ⟨-, -, -, -, -, -, c0, c1, c2, c3, c4, c5⟩ := ht
  clear k1 f1 f2 f3 f4 f5 f6 f7 f8 f9 f10 i1 i2 i3 e1 e2 e3 e4 e5 e6 h1 h2 hn h0 he y9
  have hgen := sgen; have hgen2 := sgen2; have hgen3 := sgen3; go_enter Tryd.func89, Tryd.ntmps89
  go_wp2_with (first | (go_at_call 107; refine (HN.out _).mono ?_; rintro e w' ⟨rfl, rfl⟩) | (go_at_call 108; refine (HI.out _).mono ?_; rintro e w' ⟨rfl, rfl⟩) | (go_at_call 110; refine (HB.out _).mono ?_; rintro e w' ⟨rfl, rfl⟩))
  go_ret
  exact ⟨rfl, rfl⟩
set_option maxHeartbeats 2000000 in
set_option maxRecDepth 100000 in
theorem c_cos_j6 {x0 x t z ys : Nat} {Y : Rat} (w : World) (ht : Tab w) (hn : Num x0 Y) (h0 : x0 < 18446744073709551616) (he : x0 % 9223372036854775808 = x) (y9 : rabs Y ≤ 9) (h1 : Ieee.double.mul x wC4 = some t) (h2 : (Ieee.double.read t).toInt .zero = some ((6 : Nat) : Int)) (h3 : RedP x (evW 3) z) (h4 : SinP z ys) :
    Calls Tryd.prog 89 #[fl x0] w fun e w' => e = .returned (fl ys) ∧ w = w' := by
  have hbig : FloatKind.f64.format.order x 4737786807993761792 = some .lt := by
    have ha := abs_num hn h0
    rw [he] at ha
    exact (num_order ha (cv_num (by decide +kernel))).1 (lt9 y9 big9)
  have HB := Lib.hid (fun w1 => c_absA h0 w1)
  rw [he] at HB
  have HN := Lib.hid (fun w1 => c_isNaN hn w1)
  have HI := Lib.hid (fun w1 => c_isInfA hn h0 (by grind) w1)
  have q1 : ∀ t' w, (binOp .mul t' (.float .f64 x) (.float .f64 4608412980311869571)).run Tryd.prog w = .ok (.float .f64 t) w := hmul h1
  have q2 : ∀ w, (convert 69 111 (.float .f64 t)).run Tryd.prog w = .ok (.int .u64 6) w := hcutU h2 (by omega) (by omega)
  have q3 : floatOfInt .f64 6 = 4618441417868443648 := by decide +kernel
  obtain ⟨a1, b1, a2, b2, a3, e1, e2, e3, e4, e5, e6⟩ := h3
  have r1 : ∀ t' w, (binOp .mul t' (.float .f64 4618441417868443648) (.float .f64 4605249456957292544)).run Tryd.prog w = .ok (.float .f64 a1) w := hmul e1
  have r2 := hsub e2
  have r3 : ∀ t' w, (binOp .mul t' (.float .f64 4618441417868443648) (.float .f64 4495793288086814720)).run Tryd.prog w = .ok (.float .f64 a2) w := hmul e3
  have r4 := hsub e4
  have r5 : ∀ t' w, (binOp .mul t' (.float .f64 4618441417868443648) (.float .f64 4388835458085048688)).run Tryd.prog w = .ok (.float .f64 a3) w := hmul e5
  have r6 := hsub e6
  obtain ⟨zz, m1, g1, m2, g2, m3, g3, m4, g4, m5, g5, t2, p, k1, f1, f2, f3, f4, f5, f6, f7, f8, f9, f10, i1, i2, i3⟩ := h4
  have s0 := hmul k1
  have s1 := hmul f1
  have s2 := hadd f2
  have s3 := hmul f3
  have s4 := hadd f4
  have s5 := hmul f5
  have s6 := hadd f6
  have s7 := hmul f7
  have s8 := hadd f8
  have s9 := hmul f9
  have s10 := hadd f10
  have s13 := hmul i1
  have s14 := hmul i2
  have s15 := hadd i3
  obtain ⟨-, -, -, -, -, -, c0, c1, c2, c3, c4, c5⟩ := ht
  clear k1 f1 f2 f3 f4 f5 f6 f7 f8 f9 f10 i1 i2 i3 e1 e2 e3 e4 e5 e6 h1 h2 hn h0 he y9
  have hgen := sgen; have hgen2 := sgen2; have hgen3 := sgen3; go_enter Tryd.func89, Tryd.ntmps89
  go_wp2_with (first | (go_at_call 107; refine (HN.out _).mono ?_; rintro e w' ⟨rfl, rfl⟩) | (go_at_call 108; refine (HI.out _).mono ?_; rintro e w' ⟨rfl, rfl⟩) | (go_at_call 110; refine (HB.out _).mono ?_; rintro e w' ⟨rfl, rfl⟩))
  go_ret
  exact ⟨rfl, rfl⟩
set_option maxHeartbeats 2000000 in
set_option maxRecDepth 100000 in
theorem c_cos_j7 {x0 x t z yc : Nat} {Y : Rat} (w : World) (ht : Tab w) (hn : Num x0 Y) (h0 : x0 < 18446744073709551616) (he : x0 % 9223372036854775808 = x) (y9 : rabs Y ≤ 9) (h1 : Ieee.double.mul x wC4 = some t) (h2 : (Ieee.double.read t).toInt .zero = some ((7 : Nat) : Int)) (h3 : RedP x (evW 4) z) (h4 : CosP z yc) :
    Calls Tryd.prog 89 #[fl x0] w fun e w' => e = .returned (fl yc) ∧ w = w' := by
  have hbig : FloatKind.f64.format.order x 4737786807993761792 = some .lt := by
    have ha := abs_num hn h0
    rw [he] at ha
    exact (num_order ha (cv_num (by decide +kernel))).1 (lt9 y9 big9)
  have HB := Lib.hid (fun w1 => c_absA h0 w1)
  rw [he] at HB
  have HN := Lib.hid (fun w1 => c_isNaN hn w1)
  have HI := Lib.hid (fun w1 => c_isInfA hn h0 (by grind) w1)
  have q1 : ∀ t' w, (binOp .mul t' (.float .f64 x) (.float .f64 4608412980311869571)).run Tryd.prog w = .ok (.float .f64 t) w := hmul h1
  have q2 : ∀ w, (convert 69 111 (.float .f64 t)).run Tryd.prog w = .ok (.int .u64 7) w := hcutU h2 (by omega) (by omega)
  have q3 : floatOfInt .f64 7 = 4619567317775286272 := by decide +kernel
  have q4 : ∀ t' w, (binOp .add t' (.float .f64 4619567317775286272) (.float .f64 4607182418800017408)).run Tryd.prog w = .ok (.float .f64 4620693217682128896) w := hadd (by decide +kernel)
  obtain ⟨a1, b1, a2, b2, a3, e1, e2, e3, e4, e5, e6⟩ := h3
  have r1 : ∀ t' w, (binOp .mul t' (.float .f64 4620693217682128896) (.float .f64 4605249456957292544)).run Tryd.prog w = .ok (.float .f64 a1) w := hmul e1
  have r2 := hsub e2
  have r3 : ∀ t' w, (binOp .mul t' (.float .f64 4620693217682128896) (.float .f64 4495793288086814720)).run Tryd.prog w = .ok (.float .f64 a2) w := hmul e3
  have r4 := hsub e4
  have r5 : ∀ t' w, (binOp .mul t' (.float .f64 4620693217682128896) (.float .f64 4388835458085048688)).run Tryd.prog w = .ok (.float .f64 a3) w := hmul e5
  have r6 := hsub e6
  obtain ⟨zz, m1, g1, m2, g2, m3, g3, m4, g4, m5, g5, v, u, t2, p, k1, f1, f2, f3, f4, f5, f6, f7, f8, f9, f10, v1, u1, i1, i2, i3⟩ := h4
  have s0 := hmul k1
  have s1 := hmul f1
  have s2 := hadd f2
  have s3 := hmul f3
  have s4 := hadd f4
  have s5 := hmul f5
  have s6 := hadd f6
  have s7 := hmul f7
  have s8 := hadd f8
  have s9 := hmul f9
  have s10 := hadd f10
  have s11 : ∀ t' w, (binOp .mul t' (.float .f64 4602678819172646912) (.float .f64 zz)).run Tryd.prog w = .ok (.float .f64 v) w := hmul v1
  have s12 : ∀ t' w, (binOp .sub t' (.float .f64 4607182418800017408) (.float .f64 v)).run Tryd.prog w = .ok (.float .f64 u) w := hsub u1
  have s13 := hmul i1
  have s14 := hmul i2
  have s15 := hadd i3
  obtain ⟨c0, c1, c2, c3, c4, c5, -, -, -, -, -, -⟩ := ht
  clear k1 f1 f2 f3 f4 f5 f6 f7 f8 f9 f10 v1 u1 i1 i2 i3 e1 e2 e3 e4 e5 e6 h1 h2 hn h0 he y9
  have hgen := sgen; have hgen2 := sgen2; have hgen3 := sgen3; go_enter Tryd.func89, Tryd.ntmps89
  go_wp2_with (first | (go_at_call 107; refine (HN.out _).mono ?_; rintro e w' ⟨rfl, rfl⟩) | (go_at_call 108; refine (HI.out _).mono ?_; rintro e w' ⟨rfl, rfl⟩) | (go_at_call 110; refine (HB.out _).mono ?_; rintro e w' ⟨rfl, rfl⟩))
  go_ret
  exact ⟨rfl, rfl⟩
set_option maxHeartbeats 2000000 in
set_option maxRecDepth 100000 in
theorem c_cos_j8 {x0 x t z yc : Nat} {Y : Rat} (w : World) (ht : Tab w) (hn : Num x0 Y) (h0 : x0 < 18446744073709551616) (he : x0 % 9223372036854775808 = x) (y9 : rabs Y ≤ 9) (h1 : Ieee.double.mul x wC4 = some t) (h2 : (Ieee.double.read t).toInt .zero = some ((8 : Nat) : Int)) (h3 : RedP x (evW 4) z) (h4 : CosP z yc) :
    Calls Tryd.prog 89 #[fl x0] w fun e w' => e = .returned (fl yc) ∧ w = w' := by
  have hbig : FloatKind.f64.format.order x 4737786807993761792 = some .lt := by
    have ha := abs_num hn h0
    rw [he] at ha
    exact (num_order ha (cv_num (by decide +kernel))).1 (lt9 y9 big9)
  have HB := Lib.hid (fun w1 => c_absA h0 w1)
  rw [he] at HB
  have HN := Lib.hid (fun w1 => c_isNaN hn w1)
  have HI := Lib.hid (fun w1 => c_isInfA hn h0 (by grind) w1)
  have q1 : ∀ t' w, (binOp .mul t' (.float .f64 x) (.float .f64 4608412980311869571)).run Tryd.prog w = .ok (.float .f64 t) w := hmul h1
  have q2 : ∀ w, (convert 69 111 (.float .f64 t)).run Tryd.prog w = .ok (.int .u64 8) w := hcutU h2 (by omega) (by omega)
  have q3 : floatOfInt .f64 8 = 4620693217682128896 := by decide +kernel
  obtain ⟨a1, b1, a2, b2, a3, e1, e2, e3, e4, e5, e6⟩ := h3
  have r1 : ∀ t' w, (binOp .mul t' (.float .f64 4620693217682128896) (.float .f64 4605249456957292544)).run Tryd.prog w = .ok (.float .f64 a1) w := hmul e1
  have r2 := hsub e2
  have r3 : ∀ t' w, (binOp .mul t' (.float .f64 4620693217682128896) (.float .f64 4495793288086814720)).run Tryd.prog w = .ok (.float .f64 a2) w := hmul e3
  have r4 := hsub e4
  have r5 : ∀ t' w, (binOp .mul t' (.float .f64 4620693217682128896) (.float .f64 4388835458085048688)).run Tryd.prog w = .ok (.float .f64 a3) w := hmul e5
  have r6 := hsub e6
  obtain ⟨zz, m1, g1, m2, g2, m3, g3, m4, g4, m5, g5, v, u, t2, p, k1, f1, f2, f3, f4, f5, f6, f7, f8, f9, f10, v1, u1, i1, i2, i3⟩ := h4
  have s0 := hmul k1
  have s1 := hmul f1
  have s2 := hadd f2
  have s3 := hmul f3
  have s4 := hadd f4
  have s5 := hmul f5
  have s6 := hadd f6
  have s7 := hmul f7
  have s8 := hadd f8
  have s9 := hmul f9
  have s10 := hadd f10
  have s11 : ∀ t' w, (binOp .mul t' (.float .f64 4602678819172646912) (.float .f64 zz)).run Tryd.prog w = .ok (.float .f64 v) w := hmul v1
  have s12 : ∀ t' w, (binOp .sub t' (.float .f64 4607182418800017408) (.float .f64 v)).run Tryd.prog w = .ok (.float .f64 u) w := hsub u1
  have s13 := hmul i1
  have s14 := hmul i2
  have s15 := hadd i3
  obtain ⟨c0, c1, c2, c3, c4, c5, -, -, -, -, -, -⟩ := ht
  clear k1 f1 f2 f3 f4 f5 f6 f7 f8 f9 f10 v1 u1 i1 i2 i3 e1 e2 e3 e4 e5 e6 h1 h2 hn h0 he y9
  have hgen := sgen; have hgen2 := sgen2; have hgen3 := sgen3; go_enter Tryd.func89, Tryd.ntmps89
  go_wp2_with (first | (go_at_call 107; refine (HN.out _).mono ?_; rintro e w' ⟨rfl, rfl⟩) | (go_at_call 108; refine (HI.out _).mono ?_; rintro e w' ⟨rfl, rfl⟩) | (go_at_call 110; refine (HB.out _).mono ?_; rintro e w' ⟨rfl, rfl⟩))
  go_ret
  exact ⟨rfl, rfl⟩
set_option maxHeartbeats 2000000 in
set_option maxRecDepth 100000 in
theorem c_sin_n0 {x0 x t z ys : Nat} {Y : Rat} (w : World) (ht : Tab w) (hn : Num x0 Y) (h0 : x0 < 18446744073709551616) (he : fneg x0 = x) (y0 : Y < 0) (y9 : rabs Y ≤ 9) (h1 : Ieee.double.mul x wC4 = some t) (h2 : (Ieee.double.read t).toInt .zero = some ((0 : Nat) : Int)) (h3 : RedP x (evW 0) z) (h4 : SinP z ys) :
    Calls Tryd.prog 91 #[fl x0] w fun e w' => e = .returned (fl (fneg ys)) ∧ w = w' := by
  have hgt : FloatKind.f64.format.order x0 0 = some .lt := (num_order hn num_zero).1 y0
  have hbig : FloatKind.f64.format.order x 4737786807993761792 = some .lt := by
    have ha := fneg_num hn
    rw [he] at ha
    have := rabs_le.1 y9
    exact (num_order ha (cv_num (by decide +kernel))).1 (lt9 (show -Y ≤ 9 by grind) big9)
  have HG := hneg x0
  rw [he] at HG
  have HN := Lib.hid (fun w1 => c_isNaN hn w1)
  have HI := Lib.hid (fun w1 => c_isInfA hn h0 (by grind) w1)
  have q1 : ∀ t' w, (binOp .mul t' (.float .f64 x) (.float .f64 4608412980311869571)).run Tryd.prog w = .ok (.float .f64 t) w := hmul h1
  have q2 : ∀ w, (convert 69 111 (.float .f64 t)).run Tryd.prog w = .ok (.int .u64 0) w := hcutU h2 (by omega) (by omega)
  have q3 : floatOfInt .f64 0 = 0 := by decide +kernel
  obtain ⟨a1, b1, a2, b2, a3, e1, e2, e3, e4, e5, e6⟩ := h3
  have r1 : ∀ t' w, (binOp .mul t' (.float .f64 0) (.float .f64 4605249456957292544)).run Tryd.prog w = .ok (.float .f64 a1) w := hmul e1
  have r2 := hsub e2
  have r3 : ∀ t' w, (binOp .mul t' (.float .f64 0) (.float .f64 4495793288086814720)).run Tryd.prog w = .ok (.float .f64 a2) w := hmul e3
  have r4 := hsub e4
  have r5 : ∀ t' w, (binOp .mul t' (.float .f64 0) (.float .f64 4388835458085048688)).run Tryd.prog w = .ok (.float .f64 a3) w := hmul e5
  have r6 := hsub e6
  obtain ⟨zz, m1, g1, m2, g2, m3, g3, m4, g4, m5, g5, t2, p, k1, f1, f2, f3, f4, f5, f6, f7, f8, f9, f10, i1, i2, i3⟩ := h4
  have s0 := hmul k1
  have s1 := hmul f1
  have s2 := hadd f2
  have s3 := hmul f3
  have s4 := hadd f4
  have s5 := hmul f5
  have s6 := hadd f6
  have s7 := hmul f7
  have s8 := hadd f8
  have s9 := hmul f9
  have s10 := hadd f10
  have s13 := hmul i1
  have s14 := hmul i2
  have s15 := hadd i3
  obtain ⟨-, -, -, -, -, -, c0, c1, c2, c3, c4, c5⟩ := ht
  have s16 := hneg ys
  clear k1 f1 f2 f3 f4 f5 f6 f7 f8 f9 f10 i1 i2 i3 e1 e2 e3 e4 e5 e6 h1 h2 hn h0 he y9 y0
  have hgen := sgen; have hgen2 := sgen2; have hgen3 := sgen3; go_enter Tryd.func91, Tryd.ntmps91
  go_wp2_with (first | (go_at_call 107; refine (HN.out _).mono ?_; rintro e w' ⟨rfl, rfl⟩) | (go_at_call 108; refine (HI.out _).mono ?_; rintro e w' ⟨rfl, rfl⟩))
  go_ret
  exact ⟨rfl, rfl⟩
set_option maxHeartbeats 2000000 in
set_option maxRecDepth 100000 in
theorem c_sin_n1 {x0 x t z yc : Nat} {Y : Rat} (w : World) (ht : Tab w) (hn : Num x0 Y) (h0 : x0 < 18446744073709551616) (he : fneg x0 = x) (y0 : Y < 0) (y9 : rabs Y ≤ 9) (h1 : Ieee.double.mul x wC4 = some t) (h2 : (Ieee.double.read t).toInt .zero = some ((1 : Nat) : Int)) (h3 : RedP x (evW 1) z) (h4 : CosP z yc) :
    Calls Tryd.prog 91 #[fl x0] w fun e w' => e = .returned (fl (fneg yc)) ∧ w = w' := by
  have hgt : FloatKind.f64.format.order x0 0 = some .lt := (num_order hn num_zero).1 y0
  have hbig : FloatKind.f64.format.order x 4737786807993761792 = some .lt := by
    have ha := fneg_num hn
    rw [he] at ha
    have := rabs_le.1 y9
    exact (num_order ha (cv_num (by decide +kernel))).1 (lt9 (show -Y ≤ 9 by grind) big9)
  have HG := hneg x0
  rw [he] at HG
  have HN := Lib.hid (fun w1 => c_isNaN hn w1)
  have HI := Lib.hid (fun w1 => c_isInfA hn h0 (by grind) w1)
  have q1 : ∀ t' w, (binOp .mul t' (.float .f64 x) (.float .f64 4608412980311869571)).run Tryd.prog w = .ok (.float .f64 t) w := hmul h1
  have q2 : ∀ w, (convert 69 111 (.float .f64 t)).run Tryd.prog w = .ok (.int .u64 1) w := hcutU h2 (by omega) (by omega)
  have q3 : floatOfInt .f64 1 = 4607182418800017408 := by decide +kernel
  have q4 : ∀ t' w, (binOp .add t' (.float .f64 4607182418800017408) (.float .f64 4607182418800017408)).run Tryd.prog w = .ok (.float .f64 4611686018427387904) w := hadd (by decide +kernel)
  obtain ⟨a1, b1, a2, b2, a3, e1, e2, e3, e4, e5, e6⟩ := h3
  have r1 : ∀ t' w, (binOp .mul t' (.float .f64 4611686018427387904) (.float .f64 4605249456957292544)).run Tryd.prog w = .ok (.float .f64 a1) w := hmul e1
  have r2 := hsub e2
  have r3 : ∀ t' w, (binOp .mul t' (.float .f64 4611686018427387904) (.float .f64 4495793288086814720)).run Tryd.prog w = .ok (.float .f64 a2) w := hmul e3
  have r4 := hsub e4
  have r5 : ∀ t' w, (binOp .mul t' (.float .f64 4611686018427387904) (.float .f64 4388835458085048688)).run Tryd.prog w = .ok (.float .f64 a3) w := hmul e5
  have r6 := hsub e6
  obtain ⟨zz, m1, g1, m2, g2, m3, g3, m4, g4, m5, g5, v, u, t2, p, k1, f1, f2, f3, f4, f5, f6, f7, f8, f9, f10, v1, u1, i1, i2, i3⟩ := h4
  have s0 := hmul k1
  have s1 := hmul f1
  have s2 := hadd f2
  have s3 := hmul f3
  have s4 := hadd f4
  have s5 := hmul f5
  have s6 := hadd f6
  have s7 := hmul f7
  have s8 := hadd f8
  have s9 := hmul f9
  have s10 := hadd f10
  have s11 : ∀ t' w, (binOp .mul t' (.float .f64 4602678819172646912) (.float .f64 zz)).run Tryd.prog w = .ok (.float .f64 v) w := hmul v1
  have s12 : ∀ t' w, (binOp .sub t' (.float .f64 4607182418800017408) (.float .f64 v)).run Tryd.prog w = .ok (.float .f64 u) w := hsub u1
  have s13 := hmul i1
  have s14 := hmul i2
  have s15 := hadd i3
  obtain ⟨c0, c1, c2, c3, c4, c5, -, -, -, -, -, -⟩ := ht
  have s16 := hneg yc
  clear k1 f1 f2 f3 f4 f5 f6 f7 f8 f9 f10 v1 u1 i1 i2 i3 e1 e2 e3 e4 e5 e6 h1 h2 hn h0 he y9 y0
  have hgen := sgen; have hgen2 := sgen2; have hgen3 := sgen3; go_enter Tryd.func91, Tryd.ntmps91
  go_wp2_with (first | (go_at_call 107; refine (HN.out _).mono ?_; rintro e w' ⟨rfl, rfl⟩) | (go_at_call 108; refine (HI.out _).mono ?_; rintro e w' ⟨rfl, rfl⟩))
  go_ret
  exact ⟨rfl, rfl⟩
theorem c_cos {x : Nat} {X Y e : Rat} (w : World) (ht : Tab w) (hn : Num x Y) (hx : x < 18446744073709551616) (ha : Ap (x % 9223372036854775808) X e) (x0 : 0 ≤ X) (x7 : X ≤ 7) (he : e ≤ 7 / 1000000000000000) :
    Calls Tryd.prog 89 #[fl x] w fun e w' => e = .returned (fl (cosW (x % 9223372036854775808))) ∧ w = w' := by
  have y9 : rabs Y ≤ 9 := by
    obtain ⟨Z, n1, n2, n3⟩ := ha.num
    have := (abs_num hn hx).uniq n1
    grind
  obtain ⟨t, j, h, z, ys, yc, t1, t2, hh, h4, hr, hs, hc, hw, -⟩ := cos_run ha x0 x7 he
  rw [hw]
  have j8 : j ≤ 8 := by omega
  rcases (show j = 0 ∨ j = 1 ∨ j = 2 ∨ j = 3 ∨ j = 4 ∨ j = 5 ∨ j = 6 ∨ j = 7 ∨ j = 8 by omega) with rfl | rfl | rfl | rfl | rfl | rfl | rfl | rfl | rfl
  · obtain rfl : h = 0 := by omega
    exact c_cos_j0 w ht hn hx rfl y9 t1 t2 hr hc
  · obtain rfl : h = 1 := by omega
    exact c_cos_j1 w ht hn hx rfl y9 t1 t2 hr hs
  · obtain rfl : h = 1 := by omega
    exact c_cos_j2 w ht hn hx rfl y9 t1 t2 hr hs
  · obtain rfl : h = 2 := by omega
    exact c_cos_j3 w ht hn hx rfl y9 t1 t2 hr hc
  · obtain rfl : h = 2 := by omega
    exact c_cos_j4 w ht hn hx rfl y9 t1 t2 hr hc
  · obtain rfl : h = 3 := by omega
    exact c_cos_j5 w ht hn hx rfl y9 t1 t2 hr hs
  · obtain rfl : h = 3 := by omega
    exact c_cos_j6 w ht hn hx rfl y9 t1 t2 hr hs
  · obtain rfl : h = 4 := by omega
    exact c_cos_j7 w ht hn hx rfl y9 t1 t2 hr hc
  · obtain rfl : h = 4 := by omega
    exact c_cos_j8 w ht hn hx rfl y9 t1 t2 hr hc
theorem c_Cos {x : Nat} {X Y e : Rat} (w : World) (ht : Tab w) (hn : Num x Y) (hx : x < 18446744073709551616) (ha : Ap (x % 9223372036854775808) X e) (x0 : 0 ≤ X) (x7 : X ≤ 7) (he : e ≤ 7 / 1000000000000000) :
    Calls Tryd.prog 64 #[fl x] w fun e w' => e = .returned (fl (cosW (x % 9223372036854775808))) ∧ w = w' := by
  have H := Lib.hid (c_cos w ht hn hx ha x0 x7 he)
  clear ht hn hx ha x0 x7 he
  have hgen := sgen; have hgen2 := sgen2; have hgen3 := sgen3; go_enter Tryd.func64, Tryd.ntmps64
  go_wp2_with (go_at_call 89; refine (H.out).mono ?_; rintro e w' ⟨rfl, rfl⟩)
  go_ret
  exact ⟨rfl, rfl⟩
set_option maxRecDepth 100000 in
/-- math.Sin at a number that is not below -1.3. -/
theorem c_SinN {x : Nat} {X Y e : Rat} (w : World) (ht : Tab w) (hn : Num x Y) (hx : x < 18446744073709551616) (y0 : Y < 0) (ha : Ap (fneg x) X e) (x0 : 0 ≤ X) (x7 : X ≤ 13/10) (he : e ≤ 7 / 1000000000000000) :
    Calls Tryd.prog 66 #[fl x] w fun e w' => e = .returned (fl (fneg (sinW (fneg x)))) ∧ w = w' := by
  have hf := fneg_num hn
  have y9 : rabs Y ≤ 9 := by
    obtain ⟨Z, n1, n2, n3⟩ := ha.num
    have := hf.uniq n1
    rw [rabs_le]
    constructor <;> grind
  obtain ⟨t, j, h, z, ys, yc, t1, t2, hh, h4, hr, hs, hc, hw, -⟩ := sin_run hf (by grind) ha x0 (by grind) he
  rw [hw]
  have j2 : j < 2 := by
    have hc4 := cv_ap (show isNum wC4 = true by decide +kernel)
    have cb : cv wC4 ≤ 1274/1000 ∧ 0 ≤ cv wC4 := by decide +kernel
    have p4 : p2 ((4 : Nat) : Int) = 16 := by decide +kernel
    have n4 : p2 (((4 : Nat) : Int) - 53) ≤ 2 / 1000000000000000 := by decide +kernel
    have e0 := ha.pos
    obtain ⟨t', g1, g2⟩ := mul_ap 7 (13/10) 4 (by omega) ha hc4 (by grind) (by grind) (by grind) (by grind) (by rw [p4]; grind)
    rw [t1] at g1
    obtain rfl := Option.some.inj g1
    have g3 := g2.mono (e' := 12 / 1000000000000000) (by grind)
    obtain ⟨T, k1, k2, k3⟩ := g3.num
    have m := Rat.mul_le_mul_of_nonneg_left cb.1 x0
    have m2 := Rat.mul_nonneg x0 cb.2
    obtain ⟨j', j1, j2, j3⟩ := toInt_cut k1 (by grind)
    rw [t2] at j1
    have : (j : Int) = (j' : Int) := Option.some.inj j1
    have ej : j = j' := by omega
    rw [← ej] at j2
    rcases j2 with q | q
    · have : (j : Rat) < ((2 : Nat) : Rat) := by
        have c : ((2 : Nat) : Rat) = 2 := rfl
        rw [c]; grind
      exact_mod_cast this
    · omega
  rcases (show j = 0 ∨ j = 1 by omega) with rfl | rfl
  · obtain rfl : h = 0 := by omega
    have H := Lib.hid (c_sin_n0 w ht hn hx rfl y0 y9 t1 t2 hr hs)
    clear ht hn hx ha x0 x7 he y0 y9 hf t1 t2 hr hs hc hw hh h4 j2
    have hgen := sgen; have hgen2 := sgen2; have hgen3 := sgen3; go_enter Tryd.func66, Tryd.ntmps66
    go_wp2_with (go_at_call 91; refine (H.out).mono ?_; rintro e w' ⟨rfl, rfl⟩)
    go_ret
    exact ⟨rfl, rfl⟩
  · obtain rfl : h = 1 := by omega
    have H := Lib.hid (c_sin_n1 w ht hn hx rfl y0 y9 t1 t2 hr hc)
    clear ht hn hx ha x0 x7 he y0 y9 hf t1 t2 hr hs hc hw hh h4 j2
    have hgen := sgen; have hgen2 := sgen2; have hgen3 := sgen3; go_enter Tryd.func66, Tryd.ntmps66
    go_wp2_with (go_at_call 91; refine (H.out).mono ?_; rintro e w' ⟨rfl, rfl⟩)
    go_ret
    exact ⟨rfl, rfl⟩
end Go.Proofs.YtjkhoepohiafeaaDoor
