/- Contracts of the floating-point functions: math.sin, floor, ceiling. The walk of math.sin at a number from 0 to 7. (Printed by gensin.py.) Contracts of trig.Around, sine, Sin and Cos. -/
import Derived.Test.YtcgnhnmigmdalaaGreatDoorWkA
import Derived.Test.YtcgnhnmigmdalaaGreatDoorFltC
import Derived.Laws.FloatArith
import Derived.Laws.Externs
import Derived.Laws.BitsAllLaws
import Derived.KernelRfl
set_option linter.unusedVariables false
set_option linter.unusedSimpArgs false
namespace Go.Proofs.YtcgnhnmigmdalaaGreatDoor
section
open Go.RowKit
abbrev fl (x : Nat) : Value := .float .f64 x
theorem ret_fl {a b : Nat} (h : a = b) : Ending.returned (fl a) = .returned (fl b) := by rw [h]
theorem hadd {a b r : Nat} (h : Ieee.double.add a b = some r) : ∀ t w, (binOp .add t (.float .f64 a) (.float .f64 b)).run Tryz.prog w = .ok (.float .f64 r) w := fun t w => run_float_arith w .add t .f64 a b r h
theorem hsub {a b r : Nat} (h : Ieee.double.sub a b = some r) : ∀ t w, (binOp .sub t (.float .f64 a) (.float .f64 b)).run Tryz.prog w = .ok (.float .f64 r) w := fun t w => run_float_arith w .sub t .f64 a b r h
theorem hmul {a b r : Nat} (h : Ieee.double.mul a b = some r) : ∀ t w, (binOp .mul t (.float .f64 a) (.float .f64 b)).run Tryz.prog w = .ok (.float .f64 r) w := fun t w => run_float_arith w .mul t .f64 a b r h
theorem hdiv {a b r : Nat} (h : Ieee.double.div a b = some r) : ∀ t w, (binOp .quo t (.float .f64 a) (.float .f64 b)).run Tryz.prog w = .ok (.float .f64 r) w := fun t w => run_float_arith w .quo t .f64 a b r h
theorem hcut {x : Nat} {n : Int} (h : (Ieee.double.read x).toInt .zero = some n) (h1 : -9223372036854775808 ≤ n) (h2 : n ≤ 9223372036854775807) : ∀ w, (convert 97 3 (.float .f64 x)).run Tryz.prog w = .ok (.int .i64 n) w := fun w =>
  run_convert_float_int w 97 3 .f64 .i64 x n (by rw [Tryz.underlying97]; rfl) Tryz.underlying3 (by unfold floatToIntVal; rw [show FloatKind.f64.decode x = Ieee.double.read x from rfl, h]; exact if_pos ⟨h1, h2⟩)
theorem hcutU {x : Nat} {n : Int} (h : (Ieee.double.read x).toInt .zero = some n) (h1 : 0 ≤ n) (h2 : n ≤ 18446744073709551615) : ∀ w, (convert 97 122 (.float .f64 x)).run Tryz.prog w = .ok (.int .u64 n) w := fun w =>
  run_convert_float_int w 97 122 .f64 .u64 x n (by rw [Tryz.underlying97]; rfl) Tryz.underlying122 (by unfold floatToIntVal; rw [show FloatKind.f64.decode x = Ieee.double.read x from rfl, h]; exact if_pos ⟨h1, h2⟩)
theorem num_read {x : Nat} {X : Rat} (h : Num x X) : ∃ s m p, Ieee.double.read x = .number s m p := by
  obtain ⟨s, m, p, h1, _⟩ := h
  exact ⟨s, m, p, h1⟩
theorem toI_eq (name : String) (way : Ieee.Toward) (x : Nat) : Extern.MathFloor.toIntegral name way #[.float .f64 x] = (match FloatKind.f64.decode x with
    | .nan s t =>
      if FloatKind.f64.format.quiet t = t then pure (.float .f64 x) else do
      let kept ← choose (.extern "math.Floor,Ceil,Trunc,RoundToEven.signallingNaN kept" 2)
      pure (.float .f64 (if kept == 1 then x else FloatKind.f64.encode (.nan s (FloatKind.f64.format.quiet t))))
    | d => pure (.float .f64 (FloatKind.f64.encode (d.integral way)))) := rfl
/-- The entries of floor and ceiling. -/
theorem run_floor {x : Nat} {X : Rat} (h : Num x X) (w : World) : (callFunc 133 #[.float .f64 x]).run Tryz.prog w = .ok (.value (.float .f64 (fflr x))) w := by
  obtain ⟨s, m, p, h1⟩ := num_read h
  rw [run_callFunc_extern Tryz.func133 (by kernel_rfl) (by kernel_rfl) (by kernel_rfl) (e := Extern.MathFloor.toIntegral "math.archFloor" .down) (by rfl)]
  rw [toI_eq, show FloatKind.f64.decode x = Ieee.double.read x from rfl]
  unfold fflr
  rw [h1]
  rfl
theorem run_ceil {x : Nat} {X : Rat} (h : Num x X) (w : World) : (callFunc 135 #[.float .f64 x]).run Tryz.prog w = .ok (.value (.float .f64 (fcei x))) w := by
  obtain ⟨s, m, p, h1⟩ := num_read h
  rw [run_callFunc_extern Tryz.func135 (by kernel_rfl) (by kernel_rfl) (by kernel_rfl) (e := Extern.MathFloor.toIntegral "math.archCeil" .up) (by rfl)]
  rw [toI_eq, show FloatKind.f64.decode x = Ieee.double.read x from rfl]
  unfold fcei
  rw [h1]
  rfl
theorem c_floor {x : Nat} {X : Rat} (h : Num x X) (w : World) : Calls Tryz.prog 117 #[fl x] w fun e w' => e = .returned (fl (fflr x)) ∧ w = w' := by
  have hx := run_floor h
  have hgen := sgen; have hgen2 := sgen2; have hgen3 := sgen3; go_enter Tryz.func117, Tryz.ntmps117
  go_wp2
  go_ret
  exact ⟨rfl, rfl⟩
theorem c_ceil {x : Nat} {X : Rat} (h : Num x X) (w : World) : Calls Tryz.prog 118 #[fl x] w fun e w' => e = .returned (fl (fcei x)) ∧ w = w' := by
  have hx := run_ceil h
  have hgen := sgen; have hgen2 := sgen2; have hgen3 := sgen3; go_enter Tryz.func118, Tryz.ntmps118
  go_wp2
  go_ret
  exact ⟨rfl, rfl⟩
theorem c_isNaN {x : Nat} {X : Rat} (h : Num x X) (w : World) : Calls Tryz.prog 147 #[fl x] w fun e w' => e = .returned (.bool false) ∧ w = w' := by
  have ho : FloatKind.f64.format.order x x = some .eq := (num_order h h).2.1 rfl
  have hgen := sgen; have hgen2 := sgen2; have hgen3 := sgen3; go_enter Tryz.func147, Tryz.ntmps147
  go_wp2
  go_ret
  exact ⟨rfl, rfl⟩
theorem andNot63 {x : Nat} (h : x < 9223372036854775808) : bits .andNot .u64 (x : Int) 9223372036854775808 = (x : Int) := by
  have e := u64_andNot (x : Int) 9223372036854775808 (by omega) (by omega) (by omega) (by omega)
  rw [e]
  have e2 : (x &&& (18446744073709551615 - 9223372036854775808)) = x := by
    rw [show 18446744073709551615 - 9223372036854775808 = 2 ^ 63 - 1 from rfl, Nat.and_two_pow_sub_one_eq_mod]
    omega
  simp only [Int.toNat_natCast]
  rw [show (9223372036854775808 : Int).toNat = 9223372036854775808 from rfl, e2]
theorem run_bits (x : Nat) (w : World) : (callFunc 159 #[.float .f64 x]).run Tryz.prog w = .ok (.value (.int .u64 (x : Int))) w := by
  rw [run_callFunc_extern Tryz.func159 (by kernel_rfl) (by kernel_rfl) (by kernel_rfl) (e := Extern.MathFloatBits.float64bits) (by rfl)]
  rfl
theorem run_frombits (x : Nat) (w : World) : (callFunc 158 #[.int .u64 (x : Int)]).run Tryz.prog w = .ok (.value (.float .f64 x)) w := by
  rw [run_callFunc_extern Tryz.func158 (by kernel_rfl) (by kernel_rfl) (by kernel_rfl) (e := Extern.MathFloatBits.float64frombits) (by rfl)]
  rfl
set_option maxRecDepth 100000 in
theorem c_abs {x : Nat} (h : x < 9223372036854775808) (w : World) : Calls Tryz.prog 156 #[fl x] w fun e w' => e = .returned (fl x) ∧ w = w' := by
  have h1 := run_bits x
  have h2 := run_frombits x
  have h3 := andNot63 h
  clear h
  have hgen := sgen; have hgen2 := sgen2; have hgen3 := sgen3; go_enter Tryz.func156, Tryz.ntmps156
  go_wp2
  go_ret
  exact ⟨rfl, rfl⟩
set_option maxRecDepth 100000 in
theorem c_isInf {x : Nat} {X : Rat} (h : Num x X) (hx : x < 9223372036854775808) (h7 : X ≤ 1000000000000) (w : World) : Calls Tryz.prog 148 #[fl x, .int .i64 0] w fun e w' => e = .returned (.bool false) ∧ w = w' := by
  have hm : Num 9218868437227405311 (cv 9218868437227405311) := cv_num (by decide +kernel)
  have hv : (1000000000000 : Rat) < cv 9218868437227405311 := by decide +kernel
  have ho : FloatKind.f64.format.order x 9218868437227405311 = some .lt := (num_order h hm).1 (by grind)
  clear hm hv
  have HO := Lib.hid ho
  clear ho
  have hgen := sgen; have hgen2 := sgen2; have hgen3 := sgen3; go_enter Tryz.func148, Tryz.ntmps148
  go_wp2_with (go_at_call 156; refine (c_abs hx _).mono ?_; rintro e w' ⟨rfl, rfl⟩)
  go_ret
  exact ⟨ret_bool (by show (FloatKind.f64.format.order x 9218868437227405311 == some Ordering.gt) = false; rw [HO.out]; rfl), rfl⟩
end
section
open Go.RowKit
/-- The two tables of math.sin. -/
structure Tab (w : World) : Prop where
  c0 : w.cell? ⟨2, 0, none⟩ = some (.float .f64 cC0)
  c1 : w.cell? ⟨2, 1, none⟩ = some (.float .f64 cC1)
  c2 : w.cell? ⟨2, 2, none⟩ = some (.float .f64 cC2)
  c3 : w.cell? ⟨2, 3, none⟩ = some (.float .f64 cC3)
  c4 : w.cell? ⟨2, 4, none⟩ = some (.float .f64 cC4)
  c5 : w.cell? ⟨2, 5, none⟩ = some (.float .f64 cC5)
  s0 : w.cell? ⟨3, 0, none⟩ = some (.float .f64 sC0)
  s1 : w.cell? ⟨3, 1, none⟩ = some (.float .f64 sC1)
  s2 : w.cell? ⟨3, 2, none⟩ = some (.float .f64 sC2)
  s3 : w.cell? ⟨3, 3, none⟩ = some (.float .f64 sC3)
  s4 : w.cell? ⟨3, 4, none⟩ = some (.float .f64 sC4)
  s5 : w.cell? ⟨3, 5, none⟩ = some (.float .f64 sC5)
theorem Tab.lt {w : World} (h : Tab w) : 3 < w.heap.size ∧ 2 < w.heap.size := by
  constructor
  · have := h.s0
    by_cases q : 3 < w.heap.size
    · exact q
    · rw [World.cell?] at this; simp [Array.getElem?_eq_none (Nat.not_lt.1 q)] at this
  · have := h.c0
    by_cases q : 2 < w.heap.size
    · exact q
    · rw [World.cell?] at this; simp [Array.getElem?_eq_none (Nat.not_lt.1 q)] at this
theorem Tab.below {w w' : World} (h : Tab w) (hb : Below w.heap.size w w') : Tab w' := by
  obtain ⟨h1, h2⟩ := h.lt
  constructor
  · rw [hb.cell (p := ⟨2, 0, none⟩) (by first | exact h1 | exact h2)]; exact h.c0
  · rw [hb.cell (p := ⟨2, 1, none⟩) (by first | exact h1 | exact h2)]; exact h.c1
  · rw [hb.cell (p := ⟨2, 2, none⟩) (by first | exact h1 | exact h2)]; exact h.c2
  · rw [hb.cell (p := ⟨2, 3, none⟩) (by first | exact h1 | exact h2)]; exact h.c3
  · rw [hb.cell (p := ⟨2, 4, none⟩) (by first | exact h1 | exact h2)]; exact h.c4
  · rw [hb.cell (p := ⟨2, 5, none⟩) (by first | exact h1 | exact h2)]; exact h.c5
  · rw [hb.cell (p := ⟨3, 0, none⟩) (by first | exact h1 | exact h2)]; exact h.s0
  · rw [hb.cell (p := ⟨3, 1, none⟩) (by first | exact h1 | exact h2)]; exact h.s1
  · rw [hb.cell (p := ⟨3, 2, none⟩) (by first | exact h1 | exact h2)]; exact h.s2
  · rw [hb.cell (p := ⟨3, 3, none⟩) (by first | exact h1 | exact h2)]; exact h.s3
  · rw [hb.cell (p := ⟨3, 4, none⟩) (by first | exact h1 | exact h2)]; exact h.s4
  · rw [hb.cell (p := ⟨3, 5, none⟩) (by first | exact h1 | exact h2)]; exact h.s5
theorem Tab.drew {w : World} (h : Tab w) (n : Nat) : Tab (w.drewN n) := by
  constructor
  · rw [World.cell?_drewN]; exact h.c0
  · rw [World.cell?_drewN]; exact h.c1
  · rw [World.cell?_drewN]; exact h.c2
  · rw [World.cell?_drewN]; exact h.c3
  · rw [World.cell?_drewN]; exact h.c4
  · rw [World.cell?_drewN]; exact h.c5
  · rw [World.cell?_drewN]; exact h.s0
  · rw [World.cell?_drewN]; exact h.s1
  · rw [World.cell?_drewN]; exact h.s2
  · rw [World.cell?_drewN]; exact h.s3
  · rw [World.cell?_drewN]; exact h.s4
  · rw [World.cell?_drewN]; exact h.s5
theorem lt9 {a b c : Rat} (h : a ≤ b) (g : b < c) : a < c := by grind
theorem big9 : (9 : Rat) < cv 4737786807993761792 := by decide +kernel
theorem hneg (y : Nat) : ∀ w, (Op.unary .neg (.float .f64 y)).run Tryz.prog w = .ok (.float .f64 (fneg y)) w := fun _ => rfl
set_option maxRecDepth 100000 in
theorem c_sin_zero (w : World) : Calls Tryz.prog 141 #[fl 0] w fun e w' => e = .returned (fl 0) ∧ w = w' := by
  have ho : FloatKind.f64.format.order 0 0 = some .eq := by decide +kernel
  have hgen := sgen; have hgen2 := sgen2; have hgen3 := sgen3; go_enter Tryz.func141, Tryz.ntmps141
  go_wp2
  go_ret
  exact ⟨rfl, rfl⟩
set_option maxHeartbeats 2000000 in
set_option maxRecDepth 100000 in
theorem c_sin_j0 {x t z ys : Nat} {Y : Rat} (w : World) (ht : Tab w) (hn : Num x Y) (hx : x < 9223372036854775808) (y0 : 0 < Y) (y9 : Y ≤ 9) (h1 : Ieee.double.mul x wC4 = some t) (h2 : (Ieee.double.read t).toInt .zero = some ((0 : Nat) : Int)) (h3 : RedP x (evW 0) z) (h4 : SinP z ys) :
    Calls Tryz.prog 141 #[fl x] w fun e w' => e = .returned (fl ys) ∧ w = w' := by
  have hgt : FloatKind.f64.format.order x 0 = some .gt := (num_order hn num_zero).2.2 y0
  have hbig : FloatKind.f64.format.order x 4737786807993761792 = some .lt := (num_order hn (cv_num (by decide +kernel))).1 (lt9 y9 big9)
  have HN := Lib.hid (fun w1 => c_isNaN hn w1)
  have HI := Lib.hid (fun w1 => c_isInf hn hx (by grind) w1)
  have q1 : ∀ t' w, (binOp .mul t' (.float .f64 x) (.float .f64 4608412980311869571)).run Tryz.prog w = .ok (.float .f64 t) w := hmul h1
  have q2 : ∀ w, (convert 97 122 (.float .f64 t)).run Tryz.prog w = .ok (.int .u64 0) w := hcutU h2 (by omega) (by omega)
  have q3 : floatOfInt .f64 0 = 0 := by decide +kernel
  obtain ⟨a1, b1, a2, b2, a3, e1, e2, e3, e4, e5, e6⟩ := h3
  have r1 : ∀ t' w, (binOp .mul t' (.float .f64 0) (.float .f64 4605249456957292544)).run Tryz.prog w = .ok (.float .f64 a1) w := hmul e1
  have r2 := hsub e2
  have r3 : ∀ t' w, (binOp .mul t' (.float .f64 0) (.float .f64 4495793288086814720)).run Tryz.prog w = .ok (.float .f64 a2) w := hmul e3
  have r4 := hsub e4
  have r5 : ∀ t' w, (binOp .mul t' (.float .f64 0) (.float .f64 4388835458085048688)).run Tryz.prog w = .ok (.float .f64 a3) w := hmul e5
  have r6 := hsub e6
  obtain ⟨zz, m1, g1, m2, g2, m3, g3, m4, g4, m5, g5, t2, p, k1, f1, f2, f3, f4, f5, f6, f7, f8, f9, f10, i1, i2, i3⟩ := h4
  have s0 := hmul k1
  have s1 := hmul f1
  have s2 := hadd f2
  have s3 := hmul f3
  have s4 := hadd f4
  have s5 := hmul f5
  have s6 := hadd f6
  have s7 := hmul f7
  have s8 := hadd f8
  have s9 := hmul f9
  have s10 := hadd f10
  have s13 := hmul i1
  have s14 := hmul i2
  have s15 := hadd i3
  obtain ⟨-, -, -, -, -, -, c0, c1, c2, c3, c4, c5⟩ := ht
  clear k1 f1 f2 f3 f4 f5 f6 f7 f8 f9 f10 i1 i2 i3 e1 e2 e3 e4 e5 e6 h1 h2 hn hx y0 y9
  have hgen := sgen; have hgen2 := sgen2; have hgen3 := sgen3; go_enter Tryz.func141, Tryz.ntmps141
  go_wp2_with (first | (go_at_call 147; refine (HN.out _).mono ?_; rintro e w' ⟨rfl, rfl⟩) | (go_at_call 148; refine (HI.out _).mono ?_; rintro e w' ⟨rfl, rfl⟩))
  go_ret
  exact ⟨rfl, rfl⟩
set_option maxHeartbeats 2000000 in
set_option maxRecDepth 100000 in
theorem c_sin_j1 {x t z yc : Nat} {Y : Rat} (w : World) (ht : Tab w) (hn : Num x Y) (hx : x < 9223372036854775808) (y0 : 0 < Y) (y9 : Y ≤ 9) (h1 : Ieee.double.mul x wC4 = some t) (h2 : (Ieee.double.read t).toInt .zero = some ((1 : Nat) : Int)) (h3 : RedP x (evW 1) z) (h4 : CosP z yc) :
    Calls Tryz.prog 141 #[fl x] w fun e w' => e = .returned (fl yc) ∧ w = w' := by
  have hgt : FloatKind.f64.format.order x 0 = some .gt := (num_order hn num_zero).2.2 y0
  have hbig : FloatKind.f64.format.order x 4737786807993761792 = some .lt := (num_order hn (cv_num (by decide +kernel))).1 (lt9 y9 big9)
  have HN := Lib.hid (fun w1 => c_isNaN hn w1)
  have HI := Lib.hid (fun w1 => c_isInf hn hx (by grind) w1)
  have q1 : ∀ t' w, (binOp .mul t' (.float .f64 x) (.float .f64 4608412980311869571)).run Tryz.prog w = .ok (.float .f64 t) w := hmul h1
  have q2 : ∀ w, (convert 97 122 (.float .f64 t)).run Tryz.prog w = .ok (.int .u64 1) w := hcutU h2 (by omega) (by omega)
  have q3 : floatOfInt .f64 1 = 4607182418800017408 := by decide +kernel
  have q4 : ∀ t' w, (binOp .add t' (.float .f64 4607182418800017408) (.float .f64 4607182418800017408)).run Tryz.prog w = .ok (.float .f64 4611686018427387904) w := hadd (by decide +kernel)
  obtain ⟨a1, b1, a2, b2, a3, e1, e2, e3, e4, e5, e6⟩ := h3
  have r1 : ∀ t' w, (binOp .mul t' (.float .f64 4611686018427387904) (.float .f64 4605249456957292544)).run Tryz.prog w = .ok (.float .f64 a1) w := hmul e1
  have r2 := hsub e2
  have r3 : ∀ t' w, (binOp .mul t' (.float .f64 4611686018427387904) (.float .f64 4495793288086814720)).run Tryz.prog w = .ok (.float .f64 a2) w := hmul e3
  have r4 := hsub e4
  have r5 : ∀ t' w, (binOp .mul t' (.float .f64 4611686018427387904) (.float .f64 4388835458085048688)).run Tryz.prog w = .ok (.float .f64 a3) w := hmul e5
  have r6 := hsub e6
  obtain ⟨zz, m1, g1, m2, g2, m3, g3, m4, g4, m5, g5, v, u, t2, p, k1, f1, f2, f3, f4, f5, f6, f7, f8, f9, f10, v1, u1, i1, i2, i3⟩ := h4
  have s0 := hmul k1
  have s1 := hmul f1
  have s2 := hadd f2
  have s3 := hmul f3
  have s4 := hadd f4
  have s5 := hmul f5
  have s6 := hadd f6
  have s7 := hmul f7
  have s8 := hadd f8
  have s9 := hmul f9
  have s10 := hadd f10
  have s11 : ∀ t' w, (binOp .mul t' (.float .f64 4602678819172646912) (.float .f64 zz)).run Tryz.prog w = .ok (.float .f64 v) w := hmul v1
  have s12 : ∀ t' w, (binOp .sub t' (.float .f64 4607182418800017408) (.float .f64 v)).run Tryz.prog w = .ok (.float .f64 u) w := hsub u1
  have s13 := hmul i1
  have s14 := hmul i2
  have s15 := hadd i3
  obtain ⟨c0, c1, c2, c3, c4, c5, -, -, -, -, -, -⟩ := ht
  clear k1 f1 f2 f3 f4 f5 f6 f7 f8 f9 f10 v1 u1 i1 i2 i3 e1 e2 e3 e4 e5 e6 h1 h2 hn hx y0 y9
  have hgen := sgen; have hgen2 := sgen2; have hgen3 := sgen3; go_enter Tryz.func141, Tryz.ntmps141
  go_wp2_with (first | (go_at_call 147; refine (HN.out _).mono ?_; rintro e w' ⟨rfl, rfl⟩) | (go_at_call 148; refine (HI.out _).mono ?_; rintro e w' ⟨rfl, rfl⟩))
  go_ret
  exact ⟨rfl, rfl⟩
set_option maxHeartbeats 2000000 in
set_option maxRecDepth 100000 in
theorem c_sin_j2 {x t z yc : Nat} {Y : Rat} (w : World) (ht : Tab w) (hn : Num x Y) (hx : x < 9223372036854775808) (y0 : 0 < Y) (y9 : Y ≤ 9) (h1 : Ieee.double.mul x wC4 = some t) (h2 : (Ieee.double.read t).toInt .zero = some ((2 : Nat) : Int)) (h3 : RedP x (evW 1) z) (h4 : CosP z yc) :
    Calls Tryz.prog 141 #[fl x] w fun e w' => e = .returned (fl yc) ∧ w = w' := by
  have hgt : FloatKind.f64.format.order x 0 = some .gt := (num_order hn num_zero).2.2 y0
  have hbig : FloatKind.f64.format.order x 4737786807993761792 = some .lt := (num_order hn (cv_num (by decide +kernel))).1 (lt9 y9 big9)
  have HN := Lib.hid (fun w1 => c_isNaN hn w1)
  have HI := Lib.hid (fun w1 => c_isInf hn hx (by grind) w1)
  have q1 : ∀ t' w, (binOp .mul t' (.float .f64 x) (.float .f64 4608412980311869571)).run Tryz.prog w = .ok (.float .f64 t) w := hmul h1
  have q2 : ∀ w, (convert 97 122 (.float .f64 t)).run Tryz.prog w = .ok (.int .u64 2) w := hcutU h2 (by omega) (by omega)
  have q3 : floatOfInt .f64 2 = 4611686018427387904 := by decide +kernel
  obtain ⟨a1, b1, a2, b2, a3, e1, e2, e3, e4, e5, e6⟩ := h3
  have r1 : ∀ t' w, (binOp .mul t' (.float .f64 4611686018427387904) (.float .f64 4605249456957292544)).run Tryz.prog w = .ok (.float .f64 a1) w := hmul e1
  have r2 := hsub e2
  have r3 : ∀ t' w, (binOp .mul t' (.float .f64 4611686018427387904) (.float .f64 4495793288086814720)).run Tryz.prog w = .ok (.float .f64 a2) w := hmul e3
  have r4 := hsub e4
  have r5 : ∀ t' w, (binOp .mul t' (.float .f64 4611686018427387904) (.float .f64 4388835458085048688)).run Tryz.prog w = .ok (.float .f64 a3) w := hmul e5
  have r6 := hsub e6
  obtain ⟨zz, m1, g1, m2, g2, m3, g3, m4, g4, m5, g5, v, u, t2, p, k1, f1, f2, f3, f4, f5, f6, f7, f8, f9, f10, v1, u1, i1, i2, i3⟩ := h4
  have s0 := hmul k1
  have s1 := hmul f1
  have s2 := hadd f2
  have s3 := hmul f3
  have s4 := hadd f4
  have s5 := hmul f5
  have s6 := hadd f6
  have s7 := hmul f7
  have s8 := hadd f8
  have s9 := hmul f9
  have s10 := hadd f10
  have s11 : ∀ t' w, (binOp .mul t' (.float .f64 4602678819172646912) (.float .f64 zz)).run Tryz.prog w = .ok (.float .f64 v) w := hmul v1
  have s12 : ∀ t' w, (binOp .sub t' (.float .f64 4607182418800017408) (.float .f64 v)).run Tryz.prog w = .ok (.float .f64 u) w := hsub u1
  have s13 := hmul i1
  have s14 := hmul i2
  have s15 := hadd i3
  obtain ⟨c0, c1, c2, c3, c4, c5, -, -, -, -, -, -⟩ := ht
  clear k1 f1 f2 f3 f4 f5 f6 f7 f8 f9 f10 v1 u1 i1 i2 i3 e1 e2 e3 e4 e5 e6 h1 h2 hn hx y0 y9
  have hgen := sgen; have hgen2 := sgen2; have hgen3 := sgen3; go_enter Tryz.func141, Tryz.ntmps141
  go_wp2_with (first | (go_at_call 147; refine (HN.out _).mono ?_; rintro e w' ⟨rfl, rfl⟩) | (go_at_call 148; refine (HI.out _).mono ?_; rintro e w' ⟨rfl, rfl⟩))
  go_ret
  exact ⟨rfl, rfl⟩
set_option maxHeartbeats 2000000 in
set_option maxRecDepth 100000 in
theorem c_sin_j3 {x t z ys : Nat} {Y : Rat} (w : World) (ht : Tab w) (hn : Num x Y) (hx : x < 9223372036854775808) (y0 : 0 < Y) (y9 : Y ≤ 9) (h1 : Ieee.double.mul x wC4 = some t) (h2 : (Ieee.double.read t).toInt .zero = some ((3 : Nat) : Int)) (h3 : RedP x (evW 2) z) (h4 : SinP z ys) :
    Calls Tryz.prog 141 #[fl x] w fun e w' => e = .returned (fl (fneg ys)) ∧ w = w' := by
  have hgt : FloatKind.f64.format.order x 0 = some .gt := (num_order hn num_zero).2.2 y0
  have hbig : FloatKind.f64.format.order x 4737786807993761792 = some .lt := (num_order hn (cv_num (by decide +kernel))).1 (lt9 y9 big9)
  have HN := Lib.hid (fun w1 => c_isNaN hn w1)
  have HI := Lib.hid (fun w1 => c_isInf hn hx (by grind) w1)
  have q1 : ∀ t' w, (binOp .mul t' (.float .f64 x) (.float .f64 4608412980311869571)).run Tryz.prog w = .ok (.float .f64 t) w := hmul h1
  have q2 : ∀ w, (convert 97 122 (.float .f64 t)).run Tryz.prog w = .ok (.int .u64 3) w := hcutU h2 (by omega) (by omega)
  have q3 : floatOfInt .f64 3 = 4613937818241073152 := by decide +kernel
  have q4 : ∀ t' w, (binOp .add t' (.float .f64 4613937818241073152) (.float .f64 4607182418800017408)).run Tryz.prog w = .ok (.float .f64 4616189618054758400) w := hadd (by decide +kernel)
  obtain ⟨a1, b1, a2, b2, a3, e1, e2, e3, e4, e5, e6⟩ := h3
  have r1 : ∀ t' w, (binOp .mul t' (.float .f64 4616189618054758400) (.float .f64 4605249456957292544)).run Tryz.prog w = .ok (.float .f64 a1) w := hmul e1
  have r2 := hsub e2
  have r3 : ∀ t' w, (binOp .mul t' (.float .f64 4616189618054758400) (.float .f64 4495793288086814720)).run Tryz.prog w = .ok (.float .f64 a2) w := hmul e3
  have r4 := hsub e4
  have r5 : ∀ t' w, (binOp .mul t' (.float .f64 4616189618054758400) (.float .f64 4388835458085048688)).run Tryz.prog w = .ok (.float .f64 a3) w := hmul e5
  have r6 := hsub e6
  obtain ⟨zz, m1, g1, m2, g2, m3, g3, m4, g4, m5, g5, t2, p, k1, f1, f2, f3, f4, f5, f6, f7, f8, f9, f10, i1, i2, i3⟩ := h4
  have s0 := hmul k1
  have s1 := hmul f1
  have s2 := hadd f2
  have s3 := hmul f3
  have s4 := hadd f4
  have s5 := hmul f5
  have s6 := hadd f6
  have s7 := hmul f7
  have s8 := hadd f8
  have s9 := hmul f9
  have s10 := hadd f10
  have s13 := hmul i1
  have s14 := hmul i2
  have s15 := hadd i3
  obtain ⟨-, -, -, -, -, -, c0, c1, c2, c3, c4, c5⟩ := ht
  have s16 := hneg ys
  clear k1 f1 f2 f3 f4 f5 f6 f7 f8 f9 f10 i1 i2 i3 e1 e2 e3 e4 e5 e6 h1 h2 hn hx y0 y9
  have hgen := sgen; have hgen2 := sgen2; have hgen3 := sgen3; go_enter Tryz.func141, Tryz.ntmps141
  go_wp2_with (first | (go_at_call 147; refine (HN.out _).mono ?_; rintro e w' ⟨rfl, rfl⟩) | (go_at_call 148; refine (HI.out _).mono ?_; rintro e w' ⟨rfl, rfl⟩))
  go_ret
  exact ⟨rfl, rfl⟩
set_option maxHeartbeats 2000000 in
set_option maxRecDepth 100000 in
theorem c_sin_j4 {x t z ys : Nat} {Y : Rat} (w : World) (ht : Tab w) (hn : Num x Y) (hx : x < 9223372036854775808) (y0 : 0 < Y) (y9 : Y ≤ 9) (h1 : Ieee.double.mul x wC4 = some t) (h2 : (Ieee.double.read t).toInt .zero = some ((4 : Nat) : Int)) (h3 : RedP x (evW 2) z) (h4 : SinP z ys) :
    Calls Tryz.prog 141 #[fl x] w fun e w' => e = .returned (fl (fneg ys)) ∧ w = w' := by
  have hgt : FloatKind.f64.format.order x 0 = some .gt := (num_order hn num_zero).2.2 y0
  have hbig : FloatKind.f64.format.order x 4737786807993761792 = some .lt := (num_order hn (cv_num (by decide +kernel))).1 (lt9 y9 big9)
  have HN := Lib.hid (fun w1 => c_isNaN hn w1)
  have HI := Lib.hid (fun w1 => c_isInf hn hx (by grind) w1)
  have q1 : ∀ t' w, (binOp .mul t' (.float .f64 x) (.float .f64 4608412980311869571)).run Tryz.prog w = .ok (.float .f64 t) w := hmul h1
  have q2 : ∀ w, (convert 97 122 (.float .f64 t)).run Tryz.prog w = .ok (.int .u64 4) w := hcutU h2 (by omega) (by omega)
  have q3 : floatOfInt .f64 4 = 4616189618054758400 := by decide +kernel
  obtain ⟨a1, b1, a2, b2, a3, e1, e2, e3, e4, e5, e6⟩ := h3
  have r1 : ∀ t' w, (binOp .mul t' (.float .f64 4616189618054758400) (.float .f64 4605249456957292544)).run Tryz.prog w = .ok (.float .f64 a1) w := hmul e1
  have r2 := hsub e2
  have r3 : ∀ t' w, (binOp .mul t' (.float .f64 4616189618054758400) (.float .f64 4495793288086814720)).run Tryz.prog w = .ok (.float .f64 a2) w := hmul e3
  have r4 := hsub e4
  have r5 : ∀ t' w, (binOp .mul t' (.float .f64 4616189618054758400) (.float .f64 4388835458085048688)).run Tryz.prog w = .ok (.float .f64 a3) w := hmul e5
  have r6 := hsub e6
  obtain ⟨zz, m1, g1, m2, g2, m3, g3, m4, g4, m5, g5, t2, p, k1, f1, f2, f3, f4, f5, f6, f7, f8, f9, f10, i1, i2, i3⟩ := h4
  have s0 := hmul k1
  have s1 := hmul f1
  have s2 := hadd f2
  have s3 := hmul f3
  have s4 := hadd f4
  have s5 := hmul f5
  have s6 := hadd f6
  have s7 := hmul f7
  have s8 := hadd f8
  have s9 := hmul f9
  have s10 := hadd f10
  have s13 := hmul i1
  have s14 := hmul i2
  have s15 := hadd i3
  obtain ⟨-, -, -, -, -, -, c0, c1, c2, c3, c4, c5⟩ := ht
  have s16 := hneg ys
  clear k1 f1 f2 f3 f4 f5 f6 f7 f8 f9 f10 i1 i2 i3 e1 e2 e3 e4 e5 e6 h1 h2 hn hx y0 y9
  have hgen := sgen; have hgen2 := sgen2; have hgen3 := sgen3; go_enter Tryz.func141, Tryz.ntmps141
  go_wp2_with (first | (go_at_call 147; refine (HN.out _).mono ?_; rintro e w' ⟨rfl, rfl⟩) | (go_at_call 148; refine (HI.out _).mono ?_; rintro e w' ⟨rfl, rfl⟩))
  go_ret
  exact ⟨rfl, rfl⟩
set_option maxHeartbeats 2000000 in
set_option maxRecDepth 100000 in
theorem c_sin_j5 {x t z yc : Nat} {Y : Rat} (w : World) (ht : Tab w) (hn : Num x Y) (hx : x < 9223372036854775808) (y0 : 0 < Y) (y9 : Y ≤ 9) (h1 : Ieee.double.mul x wC4 = some t) (h2 : (Ieee.double.read t).toInt .zero = some ((5 : Nat) : Int)) (h3 : RedP x (evW 3) z) (h4 : CosP z yc) :
    Calls Tryz.prog 141 #[fl x] w fun e w' => e = .returned (fl (fneg yc)) ∧ w = w' := by
  have hgt : FloatKind.f64.format.order x 0 = some .gt := (num_order hn num_zero).2.2 y0
  have hbig : FloatKind.f64.format.order x 4737786807993761792 = some .lt := (num_order hn (cv_num (by decide +kernel))).1 (lt9 y9 big9)
  have HN := Lib.hid (fun w1 => c_isNaN hn w1)
  have HI := Lib.hid (fun w1 => c_isInf hn hx (by grind) w1)
  have q1 : ∀ t' w, (binOp .mul t' (.float .f64 x) (.float .f64 4608412980311869571)).run Tryz.prog w = .ok (.float .f64 t) w := hmul h1
  have q2 : ∀ w, (convert 97 122 (.float .f64 t)).run Tryz.prog w = .ok (.int .u64 5) w := hcutU h2 (by omega) (by omega)
  have q3 : floatOfInt .f64 5 = 4617315517961601024 := by decide +kernel
  have q4 : ∀ t' w, (binOp .add t' (.float .f64 4617315517961601024) (.float .f64 4607182418800017408)).run Tryz.prog w = .ok (.float .f64 4618441417868443648) w := hadd (by decide +kernel)
  obtain ⟨a1, b1, a2, b2, a3, e1, e2, e3, e4, e5, e6⟩ := h3
  have r1 : ∀ t' w, (binOp .mul t' (.float .f64 4618441417868443648) (.float .f64 4605249456957292544)).run Tryz.prog w = .ok (.float .f64 a1) w := hmul e1
  have r2 := hsub e2
  have r3 : ∀ t' w, (binOp .mul t' (.float .f64 4618441417868443648) (.float .f64 4495793288086814720)).run Tryz.prog w = .ok (.float .f64 a2) w := hmul e3
  have r4 := hsub e4
  have r5 : ∀ t' w, (binOp .mul t' (.float .f64 4618441417868443648) (.float .f64 4388835458085048688)).run Tryz.prog w = .ok (.float .f64 a3) w := hmul e5
  have r6 := hsub e6
  obtain ⟨zz, m1, g1, m2, g2, m3, g3, m4, g4, m5, g5, v, u, t2, p, k1, f1, f2, f3, f4, f5, f6, f7, f8, f9, f10, v1, u1, i1, i2, i3⟩ := h4
  have s0 := hmul k1
  have s1 := hmul f1
  have s2 := hadd f2
  have s3 := hmul f3
  have s4 := hadd f4
  have s5 := hmul f5
  have s6 := hadd f6
  have s7 := hmul f7
  have s8 := hadd f8
  have s9 := hmul f9
  have s10 := hadd f10
  have s11 : ∀ t' w, (binOp .mul t' (.float .f64 4602678819172646912) (.float .f64 zz)).run Tryz.prog w = .ok (.float .f64 v) w := hmul v1
  have s12 : ∀ t' w, (binOp .sub t' (.float .f64 4607182418800017408) (.float .f64 v)).run Tryz.prog w = .ok (.float .f64 u) w := hsub u1
  have s13 := hmul i1
  have s14 := hmul i2
  have s15 := hadd i3
  obtain ⟨c0, c1, c2, c3, c4, c5, -, -, -, -, -, -⟩ := ht
  have s16 := hneg yc
  clear k1 f1 f2 f3 f4 f5 f6 f7 f8 f9 f10 v1 u1 i1 i2 i3 e1 e2 e3 e4 e5 e6 h1 h2 hn hx y0 y9
  have hgen := sgen; have hgen2 := sgen2; have hgen3 := sgen3; go_enter Tryz.func141, Tryz.ntmps141
  go_wp2_with (first | (go_at_call 147; refine (HN.out _).mono ?_; rintro e w' ⟨rfl, rfl⟩) | (go_at_call 148; refine (HI.out _).mono ?_; rintro e w' ⟨rfl, rfl⟩))
  go_ret
  exact ⟨rfl, rfl⟩
set_option maxHeartbeats 2000000 in
set_option maxRecDepth 100000 in
theorem c_sin_j6 {x t z yc : Nat} {Y : Rat} (w : World) (ht : Tab w) (hn : Num x Y) (hx : x < 9223372036854775808) (y0 : 0 < Y) (y9 : Y ≤ 9) (h1 : Ieee.double.mul x wC4 = some t) (h2 : (Ieee.double.read t).toInt .zero = some ((6 : Nat) : Int)) (h3 : RedP x (evW 3) z) (h4 : CosP z yc) :
    Calls Tryz.prog 141 #[fl x] w fun e w' => e = .returned (fl (fneg yc)) ∧ w = w' := by
  have hgt : FloatKind.f64.format.order x 0 = some .gt := (num_order hn num_zero).2.2 y0
  have hbig : FloatKind.f64.format.order x 4737786807993761792 = some .lt := (num_order hn (cv_num (by decide +kernel))).1 (lt9 y9 big9)
  have HN := Lib.hid (fun w1 => c_isNaN hn w1)
  have HI := Lib.hid (fun w1 => c_isInf hn hx (by grind) w1)
  have q1 : ∀ t' w, (binOp .mul t' (.float .f64 x) (.float .f64 4608412980311869571)).run Tryz.prog w = .ok (.float .f64 t) w := hmul h1
  have q2 : ∀ w, (convert 97 122 (.float .f64 t)).run Tryz.prog w = .ok (.int .u64 6) w := hcutU h2 (by omega) (by omega)
  have q3 : floatOfInt .f64 6 = 4618441417868443648 := by decide +kernel
  obtain ⟨a1, b1, a2, b2, a3, e1, e2, e3, e4, e5, e6⟩ := h3
  have r1 : ∀ t' w, (binOp .mul t' (.float .f64 4618441417868443648) (.float .f64 4605249456957292544)).run Tryz.prog w = .ok (.float .f64 a1) w := hmul e1
  have r2 := hsub e2
  have r3 : ∀ t' w, (binOp .mul t' (.float .f64 4618441417868443648) (.float .f64 4495793288086814720)).run Tryz.prog w = .ok (.float .f64 a2) w := hmul e3
  have r4 := hsub e4
  have r5 : ∀ t' w, (binOp .mul t' (.float .f64 4618441417868443648) (.float .f64 4388835458085048688)).run Tryz.prog w = .ok (.float .f64 a3) w := hmul e5
  have r6 := hsub e6
  obtain ⟨zz, m1, g1, m2, g2, m3, g3, m4, g4, m5, g5, v, u, t2, p, k1, f1, f2, f3, f4, f5, f6, f7, f8, f9, f10, v1, u1, i1, i2, i3⟩ := h4
  have s0 := hmul k1
  have s1 := hmul f1
  have s2 := hadd f2
  have s3 := hmul f3
  have s4 := hadd f4
  have s5 := hmul f5
  have s6 := hadd f6
  have s7 := hmul f7
  have s8 := hadd f8
  have s9 := hmul f9
  have s10 := hadd f10
  have s11 : ∀ t' w, (binOp .mul t' (.float .f64 4602678819172646912) (.float .f64 zz)).run Tryz.prog w = .ok (.float .f64 v) w := hmul v1
  have s12 : ∀ t' w, (binOp .sub t' (.float .f64 4607182418800017408) (.float .f64 v)).run Tryz.prog w = .ok (.float .f64 u) w := hsub u1
  have s13 := hmul i1
  have s14 := hmul i2
  have s15 := hadd i3
  obtain ⟨c0, c1, c2, c3, c4, c5, -, -, -, -, -, -⟩ := ht
  have s16 := hneg yc
  clear k1 f1 f2 f3 f4 f5 f6 f7 f8 f9 f10 v1 u1 i1 i2 i3 e1 e2 e3 e4 e5 e6 h1 h2 hn hx y0 y9
  have hgen := sgen; have hgen2 := sgen2; have hgen3 := sgen3; go_enter Tryz.func141, Tryz.ntmps141
  go_wp2_with (first | (go_at_call 147; refine (HN.out _).mono ?_; rintro e w' ⟨rfl, rfl⟩) | (go_at_call 148; refine (HI.out _).mono ?_; rintro e w' ⟨rfl, rfl⟩))
  go_ret
  exact ⟨rfl, rfl⟩
set_option maxHeartbeats 2000000 in
set_option maxRecDepth 100000 in
theorem c_sin_j7 {x t z ys : Nat} {Y : Rat} (w : World) (ht : Tab w) (hn : Num x Y) (hx : x < 9223372036854775808) (y0 : 0 < Y) (y9 : Y ≤ 9) (h1 : Ieee.double.mul x wC4 = some t) (h2 : (Ieee.double.read t).toInt .zero = some ((7 : Nat) : Int)) (h3 : RedP x (evW 4) z) (h4 : SinP z ys) :
    Calls Tryz.prog 141 #[fl x] w fun e w' => e = .returned (fl ys) ∧ w = w' := by
  have hgt : FloatKind.f64.format.order x 0 = some .gt := (num_order hn num_zero).2.2 y0
  have hbig : FloatKind.f64.format.order x 4737786807993761792 = some .lt := (num_order hn (cv_num (by decide +kernel))).1 (lt9 y9 big9)
  have HN := Lib.hid (fun w1 => c_isNaN hn w1)
  have HI := Lib.hid (fun w1 => c_isInf hn hx (by grind) w1)
  have q1 : ∀ t' w, (binOp .mul t' (.float .f64 x) (.float .f64 4608412980311869571)).run Tryz.prog w = .ok (.float .f64 t) w := hmul h1
  have q2 : ∀ w, (convert 97 122 (.float .f64 t)).run Tryz.prog w = .ok (.int .u64 7) w := hcutU h2 (by omega) (by omega)
  have q3 : floatOfInt .f64 7 = 4619567317775286272 := by decide +kernel
  have q4 : ∀ t' w, (binOp .add t' (.float .f64 4619567317775286272) (.float .f64 4607182418800017408)).run Tryz.prog w = .ok (.float .f64 4620693217682128896) w := hadd (by decide +kernel)
  obtain ⟨a1, b1, a2, b2, a3, e1, e2, e3, e4, e5, e6⟩ := h3
  have r1 : ∀ t' w, (binOp .mul t' (.float .f64 4620693217682128896) (.float .f64 4605249456957292544)).run Tryz.prog w = .ok (.float .f64 a1) w := hmul e1
  have r2 := hsub e2
  have r3 : ∀ t' w, (binOp .mul t' (.float .f64 4620693217682128896) (.float .f64 4495793288086814720)).run Tryz.prog w = .ok (.float .f64 a2) w := hmul e3
  have r4 := hsub e4
  have r5 : ∀ t' w, (binOp .mul t' (.float .f64 4620693217682128896) (.float .f64 4388835458085048688)).run Tryz.prog w = .ok (.float .f64 a3) w := hmul e5
  have r6 := hsub e6
  obtain ⟨zz, m1, g1, m2, g2, m3, g3, m4, g4, m5, g5, t2, p, k1, f1, f2, f3, f4, f5, f6, f7, f8, f9, f10, i1, i2, i3⟩ := h4
  have s0 := hmul k1
  have s1 := hmul f1
  have s2 := hadd f2
  have s3 := hmul f3
  have s4 := hadd f4
  have s5 := hmul f5
  have s6 := hadd f6
  have s7 := hmul f7
  have s8 := hadd f8
  have s9 := hmul f9
  have s10 := hadd f10
  have s13 := hmul i1
  have s14 := hmul i2
  have s15 := hadd i3
  obtain ⟨-, -, -, -, -, -, c0, c1, c2, c3, c4, c5⟩ := ht
  clear k1 f1 f2 f3 f4 f5 f6 f7 f8 f9 f10 i1 i2 i3 e1 e2 e3 e4 e5 e6 h1 h2 hn hx y0 y9
  have hgen := sgen; have hgen2 := sgen2; have hgen3 := sgen3; go_enter Tryz.func141, Tryz.ntmps141
  go_wp2_with (first | (go_at_call 147; refine (HN.out _).mono ?_; rintro e w' ⟨rfl, rfl⟩) | (go_at_call 148; refine (HI.out _).mono ?_; rintro e w' ⟨rfl, rfl⟩))
  go_ret
  exact ⟨rfl, rfl⟩
set_option maxHeartbeats 2000000 in
set_option maxRecDepth 100000 in
theorem c_sin_j8 {x t z ys : Nat} {Y : Rat} (w : World) (ht : Tab w) (hn : Num x Y) (hx : x < 9223372036854775808) (y0 : 0 < Y) (y9 : Y ≤ 9) (h1 : Ieee.double.mul x wC4 = some t) (h2 : (Ieee.double.read t).toInt .zero = some ((8 : Nat) : Int)) (h3 : RedP x (evW 4) z) (h4 : SinP z ys) :
    Calls Tryz.prog 141 #[fl x] w fun e w' => e = .returned (fl ys) ∧ w = w' := by
  have hgt : FloatKind.f64.format.order x 0 = some .gt := (num_order hn num_zero).2.2 y0
  have hbig : FloatKind.f64.format.order x 4737786807993761792 = some .lt := (num_order hn (cv_num (by decide +kernel))).1 (lt9 y9 big9)
  have HN := Lib.hid (fun w1 => c_isNaN hn w1)
  have HI := Lib.hid (fun w1 => c_isInf hn hx (by grind) w1)
  have q1 : ∀ t' w, (binOp .mul t' (.float .f64 x) (.float .f64 4608412980311869571)).run Tryz.prog w = .ok (.float .f64 t) w := hmul h1
  have q2 : ∀ w, (convert 97 122 (.float .f64 t)).run Tryz.prog w = .ok (.int .u64 8) w := hcutU h2 (by omega) (by omega)
  have q3 : floatOfInt .f64 8 = 4620693217682128896 := by decide +kernel
  obtain ⟨a1, b1, a2, b2, a3, e1, e2, e3, e4, e5, e6⟩ := h3
  have r1 : ∀ t' w, (binOp .mul t' (.float .f64 4620693217682128896) (.float .f64 4605249456957292544)).run Tryz.prog w = .ok (.float .f64 a1) w := hmul e1
  have r2 := hsub e2
  have r3 : ∀ t' w, (binOp .mul t' (.float .f64 4620693217682128896) (.float .f64 4495793288086814720)).run Tryz.prog w = .ok (.float .f64 a2) w := hmul e3
  have r4 := hsub e4
  have r5 : ∀ t' w, (binOp .mul t' (.float .f64 4620693217682128896) (.float .f64 4388835458085048688)).run Tryz.prog w = .ok (.float .f64 a3) w := hmul e5
  have r6 := hsub e6
  obtain ⟨zz, m1, g1, m2, g2, m3, g3, m4, g4, m5, g5, t2, p, k1, f1, f2, f3, f4, f5, f6, f7, f8, f9, f10, i1, i2, i3⟩ := h4
  have s0 := hmul k1
  have s1 := hmul f1
  have s2 := hadd f2
  have s3 := hmul f3
  have s4 := hadd f4
  have s5 := hmul f5
  have s6 := hadd f6
  have s7 := hmul f7
  have s8 := hadd f8
  have s9 := hmul f9
  have s10 := hadd f10
  have s13 := hmul i1
  have s14 := hmul i2
  have s15 := hadd i3
  obtain ⟨-, -, -, -, -, -, c0, c1, c2, c3, c4, c5⟩ := ht
  clear k1 f1 f2 f3 f4 f5 f6 f7 f8 f9 f10 i1 i2 i3 e1 e2 e3 e4 e5 e6 h1 h2 hn hx y0 y9
  have hgen := sgen; have hgen2 := sgen2; have hgen3 := sgen3; go_enter Tryz.func141, Tryz.ntmps141
  go_wp2_with (first | (go_at_call 147; refine (HN.out _).mono ?_; rintro e w' ⟨rfl, rfl⟩) | (go_at_call 148; refine (HI.out _).mono ?_; rintro e w' ⟨rfl, rfl⟩))
  go_ret
  exact ⟨rfl, rfl⟩
theorem c_sin {x : Nat} {X Y e : Rat} (w : World) (ht : Tab w) (hn : Num x Y) (hx : x < 18446744073709551616) (y0 : x = 0 ∨ 0 < Y) (ha : Ap x X e) (x0 : 0 ≤ X) (x7 : X ≤ 7) (he : e ≤ 7 / 1000000000000000) :
    Calls Tryz.prog 141 #[fl x] w fun e w' => e = .returned (fl (sinW x)) ∧ w = w' := by
  rcases y0 with y0 | y0
  · subst y0
    exact c_sin_zero w
  · have hx' := reads_pos hn y0 hx
    have y9 : Y ≤ 9 := by
      obtain ⟨Z, n1, n2, n3⟩ := ha.num
      have := hn.uniq n1
      grind
    obtain ⟨t, j, h, z, ys, yc, t1, t2, hh, h4, hr, hs, hc, hw, -⟩ := sin_run hn y0 ha x0 x7 he
    rw [hw]
    have j8 : j ≤ 8 := by omega
    rcases (show j = 0 ∨ j = 1 ∨ j = 2 ∨ j = 3 ∨ j = 4 ∨ j = 5 ∨ j = 6 ∨ j = 7 ∨ j = 8 by omega) with rfl | rfl | rfl | rfl | rfl | rfl | rfl | rfl | rfl
    · obtain rfl : h = 0 := by omega
      exact c_sin_j0 w ht hn hx' y0 y9 t1 t2 hr hs
    · obtain rfl : h = 1 := by omega
      exact c_sin_j1 w ht hn hx' y0 y9 t1 t2 hr hc
    · obtain rfl : h = 1 := by omega
      exact c_sin_j2 w ht hn hx' y0 y9 t1 t2 hr hc
    · obtain rfl : h = 2 := by omega
      exact c_sin_j3 w ht hn hx' y0 y9 t1 t2 hr hs
    · obtain rfl : h = 2 := by omega
      exact c_sin_j4 w ht hn hx' y0 y9 t1 t2 hr hs
    · obtain rfl : h = 3 := by omega
      exact c_sin_j5 w ht hn hx' y0 y9 t1 t2 hr hc
    · obtain rfl : h = 3 := by omega
      exact c_sin_j6 w ht hn hx' y0 y9 t1 t2 hr hc
    · obtain rfl : h = 4 := by omega
      exact c_sin_j7 w ht hn hx' y0 y9 t1 t2 hr hs
    · obtain rfl : h = 4 := by omega
      exact c_sin_j8 w ht hn hx' y0 y9 t1 t2 hr hs
theorem c_Sin {x : Nat} {X Y e : Rat} (w : World) (ht : Tab w) (hn : Num x Y) (hx : x < 18446744073709551616) (y0 : x = 0 ∨ 0 < Y) (ha : Ap x X e) (x0 : 0 ≤ X) (x7 : X ≤ 7) (he : e ≤ 7 / 1000000000000000) :
    Calls Tryz.prog 123 #[fl x] w fun e w' => e = .returned (fl (sinW x)) ∧ w = w' := by
  have H := Lib.hid (c_sin w ht hn hx y0 ha x0 x7 he)
  clear ht hn hx y0 ha x0 x7 he
  have hgen := sgen; have hgen2 := sgen2; have hgen3 := sgen3; go_enter Tryz.func123, Tryz.ntmps123
  go_wp2_with (go_at_call 141; refine (H.out).mono ?_; rintro e w' ⟨rfl, rfl⟩)
  go_ret
  exact ⟨rfl, rfl⟩
end
section
open Go.RowKit
theorem c_radians {x q : Nat} (h : RadP x q) (w : World) : Calls Tryz.prog 124 #[fl x] w fun e w' => e = .returned (fl q) ∧ w = w' := by
  obtain ⟨q1, q2, h1, h2, h3⟩ := h
  have r1 : ∀ t w, (binOp .quo t (.float .f64 x) (.float .f64 4741671816366391296)).run Tryz.prog w = .ok (.float .f64 q1) w := hdiv h1
  have r2 : ∀ t w, (binOp .mul t (.float .f64 q1) (.float .f64 4611686018427387904)).run Tryz.prog w = .ok (.float .f64 q2) w := hmul h2
  have r3 : ∀ t w, (binOp .mul t (.float .f64 q2) (.float .f64 4614256656552045848)).run Tryz.prog w = .ok (.float .f64 q) w := hmul h3
  clear h1 h2 h3
  have hgen := sgen; have hgen2 := sgen2; have hgen3 := sgen3; go_enter Tryz.func124, Tryz.ntmps124
  go_wp2
  go_ret
  exact ⟨rfl, rfl⟩
theorem c_Around {v s1 s2 : Nat} {X1 X2 : Rat} {lo hi : Int} (h1 : Ieee.double.sub v wSl = some s1) (h2 : Ieee.double.add v wSl = some s2) (n1 : Num s1 X1) (n2 : Num s2 X2) (c1 : (Ieee.double.read (fflr s1)).toInt .zero = some lo) (c2 : (Ieee.double.read (fcei s2)).toInt .zero = some hi)
    (b1 : -4000000000000000 ≤ lo) (b2 : lo ≤ 4000000000000000) (b3 : -4000000000000000 ≤ hi) (b4 : hi ≤ 4000000000000000) (w : World) : Calls Tryz.prog 94 #[fl v] w fun e w' => e = .returned (.agg #[.int .i64 lo, .int .i64 hi]) ∧ Below w.heap.size w w' := by
  have r1 : ∀ t w, (binOp .sub t (.float .f64 v) (.float .f64 4562254508917369340)).run Tryz.prog w = .ok (.float .f64 s1) w := hsub h1
  have r2 : ∀ t w, (binOp .add t (.float .f64 v) (.float .f64 4562254508917369340)).run Tryz.prog w = .ok (.float .f64 s2) w := hadd h2
  have k1 := hcut c1 (by omega) (by omega)
  have k2 := hcut c2 (by omega) (by omega)
  have F := Lib.hid (fun w1 => c_floor n1 w1)
  have G := Lib.hid (fun w1 => c_ceil n2 w1)
  clear h1 h2 n1 n2 c1 c2
  have hgen := sgen; have hgen2 := sgen2; have hgen3 := sgen3; go_enter Tryz.func94, Tryz.ntmps94
  go_wp2_with (first | (go_at_call 117; refine (F.out _).mono ?_; rintro e w' ⟨rfl, rfl⟩) | (go_at_call 118; refine (G.out _).mono ?_; rintro e w' ⟨rfl, rfl⟩))
  refine bodyPost_ret (v := .agg #[.int .i64 lo, .int .i64 hi]) (by simp only [results, Tryz.results94]; go_simp) rfl ⟨rfl, ?_⟩
  exact belz
theorem c_clip (l h : Int) (w : World) : Calls Tryz.prog 122 #[.agg #[.int .i64 l, .int .i64 h]] w fun e w' => e = .returned (.agg #[.int .i64 (clipL l), .int .i64 (clipH h)]) ∧ Below w.heap.size w w' := by
  rcases (show l < -1000000000 ∨ (-1000000000 ≤ l ∧ l ≤ 1000000000) ∨ 1000000000 < l by omega) with h1 | ⟨h1, h1'⟩ | h1 <;> rcases (show h < -1000000000 ∨ (-1000000000 ≤ h ∧ h ≤ 1000000000) ∨ 1000000000 < h by omega) with h2 | ⟨h2, h2'⟩ | h2
  all_goals
    have E1 := Lib.hid (show clipL l = if l < -1000000000 then -1000000000 else if 1000000000 < l then 1000000000 else l by unfold clipL; omega)
    have E2 := Lib.hid (show clipH h = if 1000000000 < h then 1000000000 else if h < -1000000000 then -1000000000 else h by unfold clipH; omega)
    have hgen := sgen; have hgen2 := sgen2; have hgen3 := sgen3; go_enter Tryz.func122, Tryz.ntmps122
    go_wp2
    refine bodyPost_ret (v := .agg #[.int .i64 (clipL l), .int .i64 (clipH h)]) (by simp only [results, Tryz.results122]; rw [E1.out, E2.out]; (repeat (first | rw [if_pos (by omega)] | rw [if_neg (by omega)])); go_simp) rfl ⟨rfl, ?_⟩
    exact belz
theorem sine_q0 {a : Int} (h : a % 1000000000 = 0 ∨ a % 1000000000 = 500000000) : sineLo a = 0 ∧ sineHi a = 0 := by
  unfold sineLo sineHi; rw [if_pos h, if_pos h]; exact ⟨rfl, rfl⟩
theorem sine_q1 {a : Int} (h : a % 1000000000 = 250000000) : sineLo a = 1000000000 ∧ sineHi a = 1000000000 := by
  unfold sineLo sineHi; rw [if_neg (by omega), if_pos h, if_neg (by omega), if_pos h]; exact ⟨rfl, rfl⟩
theorem sine_q3 {a : Int} (h : a % 1000000000 = 750000000) : sineLo a = -1000000000 ∧ sineHi a = -1000000000 := by
  unfold sineLo sineHi; rw [if_neg (by omega), if_neg (by omega), if_pos h, if_neg (by omega), if_neg (by omega), if_pos h]; exact ⟨rfl, rfl⟩
theorem sine_off {a : Int} (h0 : ¬ a % 1000000000 = 0) (h1 : ¬ a % 1000000000 = 250000000) (h2 : ¬ a % 1000000000 = 500000000) (h3 : ¬ a % 1000000000 = 750000000) : sineLo a = clipL (arLo (sineV (a % 1000000000))) ∧ sineHi a = clipH (arHi (sineV (a % 1000000000))) := by
  unfold sineLo sineHi; rw [if_neg (by omega), if_neg h1, if_neg h3, if_neg (by omega), if_neg h1, if_neg h3]; exact ⟨rfl, rfl⟩
theorem c_sine (a : Int) (w : World) (ht : Tab w) (a1 : -9223372036854775808 ≤ a) (a2 : a ≤ 9223372036854775807) :
    Calls Tryz.prog 100 #[.int .i64 a] w fun e w' => e = .returned (.agg #[.int .i64 (sineLo a), .int .i64 (sineHi a)]) ∧ Below w.heap.size w w' := by
  have HM := Lib.hid (fun w1 => c_mod a 1000000000 w1 (by omega) a1 a2 (by omega))
  have m0 := Int.emod_nonneg a (show (1000000000 : Int) ≠ 0 by omega)
  have m1 := Int.emod_lt_of_pos a (show (0 : Int) < 1000000000 by omega)
  by_cases c0 : a % 1000000000 = 0
  · obtain ⟨l1, l2⟩ := sine_q0 (.inl c0)
    rw [l1, l2]
    rw [c0] at HM
    clear c0 m0 m1 l1 l2
    have hgen := sgen; have hgen2 := sgen2; have hgen3 := sgen3; go_enter Tryz.func100, Tryz.ntmps100
    go_wp2_with (go_at_call 102; refine (HM.out _).mono ?_; rintro e w' ⟨rfl, nn, rfl⟩)
    refine bodyPost_ret (v := .agg #[.int .i64 0, .int .i64 0]) (by simp only [results, Tryz.results100]; go_simp) rfl ⟨rfl, ?_⟩
    exact belz
  by_cases c2 : a % 1000000000 = 500000000
  · obtain ⟨l1, l2⟩ := sine_q0 (.inr c2)
    rw [l1, l2]
    rw [c2] at HM
    clear c0 c2 m0 m1 l1 l2
    have hgen := sgen; have hgen2 := sgen2; have hgen3 := sgen3; go_enter Tryz.func100, Tryz.ntmps100
    go_wp2_with (go_at_call 102; refine (HM.out _).mono ?_; rintro e w' ⟨rfl, nn, rfl⟩)
    refine bodyPost_ret (v := .agg #[.int .i64 0, .int .i64 0]) (by simp only [results, Tryz.results100]; go_simp) rfl ⟨rfl, ?_⟩
    exact belz
  by_cases c1 : a % 1000000000 = 250000000
  · obtain ⟨l1, l2⟩ := sine_q1 c1
    rw [l1, l2]
    rw [c1] at HM
    clear c0 c1 c2 m0 m1 l1 l2
    have hgen := sgen; have hgen2 := sgen2; have hgen3 := sgen3; go_enter Tryz.func100, Tryz.ntmps100
    go_wp2_with (go_at_call 102; refine (HM.out _).mono ?_; rintro e w' ⟨rfl, nn, rfl⟩)
    refine bodyPost_ret (v := .agg #[.int .i64 1000000000, .int .i64 1000000000]) (by simp only [results, Tryz.results100]; go_simp) rfl ⟨rfl, ?_⟩
    exact belz
  by_cases c3 : a % 1000000000 = 750000000
  · obtain ⟨l1, l2⟩ := sine_q3 c3
    rw [l1, l2]
    rw [c3] at HM
    clear c0 c1 c2 c3 m0 m1 l1 l2
    have hgen := sgen; have hgen2 := sgen2; have hgen3 := sgen3; go_enter Tryz.func100, Tryz.ntmps100
    go_wp2_with (go_at_call 102; refine (HM.out _).mono ?_; rintro e w' ⟨rfl, nn, rfl⟩)
    refine bodyPost_ret (v := .agg #[.int .i64 (-1000000000), .int .i64 (-1000000000)]) (by simp only [results, Tryz.results100]; go_simp) rfl ⟨rfl, ?_⟩
    exact belz
  obtain ⟨l1, l2⟩ := sine_off c0 c1 c2 c3
  rw [l1, l2]
  clear l1 l2
  generalize a % 1000000000 = b at *
  obtain ⟨q, Y, v, s1, s2, X1, X2, p1, p2, p3, p4, p5, p6, p7, p8, p9, p10, p11, p12, p13, p14, p15, p16, p17, p18, p19, -⟩ := sine_run b m0 (by omega)
  rw [← p9]
  have b0 : (b == 0) = false := by simp; exact c0
  have b1 : (b == 250000000) = false := by simp; exact c1
  have b2 : (b == 500000000) = false := by simp; exact c2
  have b3 : (b == 750000000) = false := by simp; exact c3
  have hS : ∀ n : Nat, Tab (w.drewN n) := fun n => ht.drew n
  obtain ⟨x, hx⟩ : ∃ x, fofI b = x := ⟨_, rfl⟩
  rw [hx] at p1
  have hfo : floatOfInt .f64 b = x := hx
  have HR := Lib.hid (fun w1 => c_radians p1 w1)
  have HS := Lib.hid (fun w1 (h : Tab w1) => c_Sin w1 h p3 (by omega) p4 p7 p5 p6 (by grind))
  have HV : ∀ t w, (binOp .mul t (.float .f64 4741671816366391296) (.float .f64 (sinW q))).run Tryz.prog w = .ok (.float .f64 v) w := hmul p8
  have HA := Lib.hid (fun w1 => c_Around p10 p11 p12 p13 p14 p15 p16 p17 p18 p19 w1)
  generalize sinW q = sq at *
  generalize arLo v = lo at *
  generalize arHi v = hi at *
  clear p1 p2 p3 p4 p5 p6 p7 p8 p9 p10 p11 p12 p13 p14 p15 p16 p17 p18 p19 hx c0 c1 c2 c3
  have HT := Lib.hid ht
  clear ht hS
  have hgen := sgen; have hgen2 := sgen2; have hgen3 := sgen3; go_enter Tryz.func100, Tryz.ntmps100
  go_wp2_with (first | (go_at_call 102; refine (HM.out _).mono ?_; rintro e w' ⟨rfl, nn, rfl⟩) | (go_at_call 124; refine (HR.out _).mono ?_; rintro e w' ⟨rfl, rfl⟩) | (go_at_call 123; refine (HS.out _ (HT.out.below (by exact belz))).mono ?_; rintro e w' ⟨rfl, rfl⟩) | (go_at_call 94; (refine (HA.out _).mono ?_); rintro e wa ⟨rfl, hb⟩; have hz := hb.size; (try simp only [szA, szS, szD, szN] at hz); (try (refine bcB (n := w.heap.size) hb ?_; intro h_w_0 e_w_0 d_w_0 _ _))) | (go_at_call 122; (refine (c_clip _ _ _).mono ?_); rintro e wb ⟨rfl, hb⟩; have hz := hb.size; (try simp only [szA, szS, szD, szN] at hz); (try (refine bcB (n := w.heap.size) hb ?_; intro h_w_0 e_w_0 d_w_0 _ _)); (try (refine bcB (n := wa.heap.size) hb ?_; intro h_wa_0 e_wa_0 d_wa_0 _ _))))
  refine bodyPost_ret (v := .agg #[.int .i64 (clipL lo), .int .i64 (clipH hi)]) (by simp only [results, Tryz.results100]; go_simp) rfl ⟨rfl, ?_⟩
  exact belz
end
end Go.Proofs.YtcgnhnmigmdalaaGreatDoor
