/- The contract of trig.Arc. The contract of trig.Arc where its intervals are right. The contracts of trig.Sin, Cos and Root, and of the self-check of package trig. -/
import Derived.Test.YtcgnhnmigmdalaaGreatDoorAtA
import Derived.Test.YtcgnhnmigmdalaaGreatDoorWkD
import Derived.Test.YtcgnhnmigmdalaaGreatDoorTrB
import Derived.Deep.RegionHeld3
import Derived.Deep.DeepCutAuto
set_option linter.unusedVariables false
set_option linter.unusedSimpArgs false
namespace Go.Proofs.YtcgnhnmigmdalaaGreatDoor
section
open Go.RowKit
theorem c_dir {y x : Int} {f : Nat} (h : DirP y x f) (w : World) : Calls Tryz.prog 96 #[.int .i64 y, .int .i64 x] w fun e w' => e = .returned (fl f) ∧ w = w' := by
  obtain ⟨Y, X, r, d, ny, nx, y9, x9, yz, f1, f2, f3⟩ := h
  have HX := Lib.hid (fun w1 => c_Atan2 ny nx (fofI_lt64 y) (fofI_lt64 x) y9 x9 yz f1 w1)
  have r1 : ∀ t w, (binOp .quo t (.float .f64 r) (.float .f64 4618760256179416344)).run Tryz.prog w = .ok (.float .f64 d) w := hdiv f2
  have r2 : ∀ t w, (binOp .mul t (.float .f64 d) (.float .f64 4741671816366391296)).run Tryz.prog w = .ok (.float .f64 f) w := hmul f3
  obtain ⟨yw, hyw⟩ : ∃ z, fofI y = z := ⟨_, rfl⟩
  obtain ⟨xw, hxw⟩ : ∃ z, fofI x = z := ⟨_, rfl⟩
  rw [hyw, hxw] at HX
  have k1 : floatOfInt .f64 y = yw := hyw
  have k2 : floatOfInt .f64 x = xw := hxw
  clear ny nx yz f1 f2 f3 hyw hxw y9 x9
  have hgen := sgen; have hgen2 := sgen2; have hgen3 := sgen3; go_enter Tryz.func96, Tryz.ntmps96
  go_wp2_with (go_at_call 119; refine (HX.out _).mono ?_; rintro e w' ⟨rfl, rfl⟩)
  go_ret
  exact ⟨rfl, rfl⟩
theorem min2_eq (x y : Nat) (h : (Ieee.double.order x y).isSome = true) : Builtin.min2 (.float .f64 x) (.float .f64 y) = pure (.float .f64 (fminW x y)) := by
  unfold fminW
  have e : Builtin.min2 (.float .f64 x) (.float .f64 y) = (match FloatKind.f64.format.order x y with
    | none => do pure (.float .f64 (← choose (.nanMinMax .f64 false x y)))
    | some .lt => pure (.float .f64 x)
    | some .gt => pure (.float .f64 y)
    | some .eq => pure (.float .f64 (if (FloatKind.f64.decode x).neg then x else y))) := rfl
  rw [e, show FloatKind.f64.format.order x y = Ieee.double.order x y from rfl, show FloatKind.f64.decode x = Ieee.double.read x from rfl]
  cases ho : Ieee.double.order x y with
  | none => rw [ho] at h; cases h
  | some o => cases o <;> rfl
theorem max2_eq (x y : Nat) (h : (Ieee.double.order x y).isSome = true) : Builtin.max2 (.float .f64 x) (.float .f64 y) = pure (.float .f64 (fmaxW x y)) := by
  unfold fmaxW
  have e : Builtin.max2 (.float .f64 x) (.float .f64 y) = (match FloatKind.f64.format.order x y with
    | none => do pure (.float .f64 (← choose (.nanMinMax .f64 true x y)))
    | some .lt => pure (.float .f64 y)
    | some .gt => pure (.float .f64 x)
    | some .eq => pure (.float .f64 (if (FloatKind.f64.decode x).neg then y else x))) := rfl
  rw [e, show FloatKind.f64.format.order x y = Ieee.double.order x y from rfl, show FloatKind.f64.decode x = Ieee.double.read x from rfl]
  cases ho : Ieee.double.order x y with
  | none => rw [ho] at h; cases h
  | some o => cases o <;> rfl
theorem run_minF {x y : Nat} (h : (Ieee.double.order x y).isSome = true) : ∀ ts t w, (Builtin.min_ ts t #[.float .f64 x, .float .f64 y]).run Tryz.prog w = .ok (.float .f64 (fminW x y)) w := by
  intro ts t w
  have := min2_eq x y h
  simp [Builtin.min_, this]
theorem run_maxF {x y : Nat} (h : (Ieee.double.order x y).isSome = true) : ∀ ts t w, (Builtin.max_ ts t #[.float .f64 x, .float .f64 y]).run Tryz.prog w = .ok (.float .f64 (fmaxW x y)) w := by
  intro ts t w
  have := max2_eq x y h
  simp [Builtin.max_, this]
theorem c_AroundP {v : Nat} (h : AroundP v) (w : World) : Calls Tryz.prog 94 #[fl v] w fun e w' => e = .returned (.agg #[.int .i64 (arLo v), .int .i64 (arHi v)]) ∧ Below w.heap.size w w' := by
  obtain ⟨s1, s2, X1, X2, w1, w2, w3, w4, w5, w6, w7, w8, w9, w10⟩ := h
  exact c_Around w1 w2 w3 w4 w5 w6 w7 w8 w9 w10 w
set_option maxHeartbeats 1000000 in
theorem c_Arc_y (yl yh xl xh : Int) (w : World) (he : spanErr yl yh ≠ 0) : Calls Tryz.prog 52 #[.agg #[.int .i64 yl, .int .i64 yh], .agg #[.int .i64 xl, .int .i64 xh]] w fun e w' => e = .returned (.tuple #[.agg #[.int .i64 0, .int .i64 0], .int .i64 (spanErr yl yh)]) ∧ Below w.heap.size w w' := by
  have i0 : ∀ w, (Instr.index 94 (.agg #[.int .i64 yl, .int .i64 yh, .int .i64 xl, .int .i64 xh]) (.int .i64 0)).run Tryz.prog w = .ok (.agg #[.int .i64 yl, .int .i64 yh]) w := fun _ => by kernel_rfl
  have i1 : ∀ w, (Instr.index 94 (.agg #[.int .i64 yl, .int .i64 yh, .int .i64 xl, .int .i64 xh]) (.int .i64 1)).run Tryz.prog w = .ok (.agg #[.int .i64 xl, .int .i64 xh]) w := fun _ => by kernel_rfl
  have b0 : (spanErr yl yh == 0) = false := by simp; exact he
  have b1 : (spanErr yl yh != 0) = true := by simp; exact he
  have HC := Lib.hid (fun w1 => c_intervalCheck yl yh w1)
  generalize spanErr yl yh = ey at *
  have hgen := sgen; have hgen2 := sgen2; have hgen3 := sgen3; go_enter Tryz.func52, Tryz.ntmps52
  go_wp2
  refine wp_loop_rounds 3 ?_
  rw [rounds_succ]
  go_wp2_with (go_at_call 87; (refine (HC.out _).mono ?_); rintro e w1 ⟨rfl, hb⟩; have hz := hb.size; (try simp only [szA, szS, szD, szN] at hz); (try (refine bcB (n := w.heap.size) hb ?_; intro h_w_0 e_w_0 d_w_0 _ _)); (try (refine bcB (n := w.heap.size + 1) hb ?_; intro h_w_1 e_w_1 d_w_1 _ _)); (try (refine bcB (n := w.heap.size + 2) hb ?_; intro h_w_2 e_w_2 d_w_2 _ _)); (try (refine bcB (n := w.heap.size + 3) hb ?_; intro h_w_3 e_w_3 d_w_3 _ _)))
  refine bodyPost_ret (v := .tuple #[.agg #[.int .i64 0, .int .i64 0], .int .i64 ey]) (by simp only [results, Tryz.results52]; go_simp) rfl ⟨rfl, ?_⟩
  exact belz
set_option maxHeartbeats 1000000 in
theorem c_Arc_x (yl yh xl xh : Int) (w : World) (hy : spanErr yl yh = 0) (he : spanErr xl xh ≠ 0) : Calls Tryz.prog 52 #[.agg #[.int .i64 yl, .int .i64 yh], .agg #[.int .i64 xl, .int .i64 xh]] w fun e w' => e = .returned (.tuple #[.agg #[.int .i64 0, .int .i64 0], .int .i64 (spanErr xl xh)]) ∧ Below w.heap.size w w' := by
  have i0 : ∀ w, (Instr.index 94 (.agg #[.int .i64 yl, .int .i64 yh, .int .i64 xl, .int .i64 xh]) (.int .i64 0)).run Tryz.prog w = .ok (.agg #[.int .i64 yl, .int .i64 yh]) w := fun _ => by kernel_rfl
  have i1 : ∀ w, (Instr.index 94 (.agg #[.int .i64 yl, .int .i64 yh, .int .i64 xl, .int .i64 xh]) (.int .i64 1)).run Tryz.prog w = .ok (.agg #[.int .i64 xl, .int .i64 xh]) w := fun _ => by kernel_rfl
  have b0 : (spanErr xl xh == 0) = false := by simp; exact he
  have b1 : (spanErr xl xh != 0) = true := by simp; exact he
  have HC := Lib.hid (fun w1 => c_intervalCheck yl yh w1)
  have HD := Lib.hid (fun w1 => c_intervalCheck xl xh w1)
  rw [hy] at HC
  generalize spanErr xl xh = ex at *
  clear hy
  have hgen := sgen; have hgen2 := sgen2; have hgen3 := sgen3; go_enter Tryz.func52, Tryz.ntmps52
  go_wp2
  refine wp_loop_rounds 3 ?_
  rw [rounds_succ]
  go_wp2_with (go_at_call 87; (refine (HC.out _).mono ?_); rintro e w1 ⟨rfl, hb⟩; have hz := hb.size; (try simp only [szA, szS, szD, szN] at hz); (try (refine bcB (n := w.heap.size) hb ?_; intro h_w_0 e_w_0 d_w_0 _ _)); (try (refine bcB (n := w.heap.size + 1) hb ?_; intro h_w_1 e_w_1 d_w_1 _ _)); (try (refine bcB (n := w.heap.size + 2) hb ?_; intro h_w_2 e_w_2 d_w_2 _ _)); (try (refine bcB (n := w.heap.size + 3) hb ?_; intro h_w_3 e_w_3 d_w_3 _ _)))
  rw [rounds_succ]
  go_wp2_with (go_at_call 87; (refine (HD.out _).mono ?_); rintro e w2 ⟨rfl, hb⟩; have hz := hb.size; (try simp only [szA, szS, szD, szN] at hz); (try (refine bcB (n := w.heap.size) hb ?_; intro h_w_0 e_w_0 d_w_0 _ _)); (try (refine bcB (n := w.heap.size + 1) hb ?_; intro h_w_1 e_w_1 d_w_1 _ _)); (try (refine bcB (n := w.heap.size + 2) hb ?_; intro h_w_2 e_w_2 d_w_2 _ _)); (try (refine bcB (n := w.heap.size + 3) hb ?_; intro h_w_3 e_w_3 d_w_3 _ _)); (try (refine bcB (n := w1.heap.size) hb ?_; intro h_w1_0 e_w1_0 d_w1_0 _ _)); (try (refine bcB (n := w1.heap.size + 1) hb ?_; intro h_w1_1 e_w1_1 d_w1_1 _ _)))
  refine bodyPost_ret (v := .tuple #[.agg #[.int .i64 0, .int .i64 0], .int .i64 ex]) (by simp only [results, Tryz.results52]; go_simp) rfl ⟨rfl, ?_⟩
  exact belz
set_option maxHeartbeats 1000000 in
theorem c_Arc_open (yl yh xl xh : Int) (w : World) (hy : spanErr yl yh = 0) (hx : spanErr xl xh = 0) (h1 : yl ≤ 0) (h2 : 0 ≤ yh) (h3 : xl ≤ 0) (h4 : 0 ≤ xh) : Calls Tryz.prog 52 #[.agg #[.int .i64 yl, .int .i64 yh], .agg #[.int .i64 xl, .int .i64 xh]] w fun e w' => e = .returned (.tuple #[.agg #[.int .i64 0, .int .i64 0], .int .i64 11]) ∧ Below w.heap.size w w' := by
  have i0 : ∀ w, (Instr.index 94 (.agg #[.int .i64 yl, .int .i64 yh, .int .i64 xl, .int .i64 xh]) (.int .i64 0)).run Tryz.prog w = .ok (.agg #[.int .i64 yl, .int .i64 yh]) w := fun _ => by kernel_rfl
  have i1 : ∀ w, (Instr.index 94 (.agg #[.int .i64 yl, .int .i64 yh, .int .i64 xl, .int .i64 xh]) (.int .i64 1)).run Tryz.prog w = .ok (.agg #[.int .i64 xl, .int .i64 xh]) w := fun _ => by kernel_rfl
  have HC := Lib.hid (fun w1 => c_intervalCheck yl yh w1)
  have HD := Lib.hid (fun w1 => c_intervalCheck xl xh w1)
  rw [hy] at HC
  rw [hx] at HD
  clear hy hx
  have g1 : decide (yl ≤ 0) = true := decide_eq_true h1
  have g2 : decide (0 ≤ yh) = true := decide_eq_true h2
  have g3 : decide (xl ≤ 0) = true := decide_eq_true h3
  have g4 : decide (0 ≤ xh) = true := decide_eq_true h4
  have hgen := sgen; have hgen2 := sgen2; have hgen3 := sgen3; go_enter Tryz.func52, Tryz.ntmps52
  go_wp2
  refine wp_loop_rounds 3 ?_
  rw [rounds_succ]
  go_wp2_with (go_at_call 87; (refine (HC.out _).mono ?_); rintro e w1 ⟨rfl, hb⟩; have hz := hb.size; (try simp only [szA, szS, szD, szN] at hz); (try (refine bcB (n := w.heap.size) hb ?_; intro h_w_0 e_w_0 d_w_0 _ _)); (try (refine bcB (n := w.heap.size + 1) hb ?_; intro h_w_1 e_w_1 d_w_1 _ _)); (try (refine bcB (n := w.heap.size + 2) hb ?_; intro h_w_2 e_w_2 d_w_2 _ _)); (try (refine bcB (n := w.heap.size + 3) hb ?_; intro h_w_3 e_w_3 d_w_3 _ _)))
  rw [rounds_succ]
  go_wp2_with (go_at_call 87; (refine (HD.out _).mono ?_); rintro e w2 ⟨rfl, hb⟩; have hz := hb.size; (try simp only [szA, szS, szD, szN] at hz); (try (refine bcB (n := w.heap.size) hb ?_; intro h_w_0 e_w_0 d_w_0 _ _)); (try (refine bcB (n := w.heap.size + 1) hb ?_; intro h_w_1 e_w_1 d_w_1 _ _)); (try (refine bcB (n := w.heap.size + 2) hb ?_; intro h_w_2 e_w_2 d_w_2 _ _)); (try (refine bcB (n := w.heap.size + 3) hb ?_; intro h_w_3 e_w_3 d_w_3 _ _)); (try (refine bcB (n := w1.heap.size) hb ?_; intro h_w1_0 e_w1_0 d_w1_0 _ _)); (try (refine bcB (n := w1.heap.size + 1) hb ?_; intro h_w1_1 e_w1_1 d_w1_1 _ _)))
  rw [rounds_succ]
  go_wp2
  refine bodyPost_ret (v := .tuple #[.agg #[.int .i64 0, .int .i64 0], .int .i64 11]) (by simp only [results, Tryz.results52]; go_simp) rfl ⟨rfl, ?_⟩
  exact belz
end
section
open Go.RowKit
set_option maxRecDepth 100000 in
set_option maxHeartbeats 16000000 in
theorem c_Arc_ok (yl yh xl xh : Int) (w : World) (hy : spanErr yl yh = 0) (hx : spanErr xl xh = 0) (hzz : ¬ (yl ≤ 0 ∧ 0 ≤ yh ∧ xl ≤ 0 ∧ 0 ≤ xh)) (hr : ArcR yl yh xl xh) {rl rh : Nat} (hla : Ieee.double.add (dirW yl xl) (arcLow yl yh xl xh 3) = some rl) (hha : Ieee.double.add (dirW yl xl) (arcHigh yl yh xl xh 3) = some rh) (hl : AroundP rl) (hh : AroundP rh) (ll hh2 er : Int) (hres : (400000000 < arHi rh - arLo rl ∧ ll = 0 ∧ hh2 = 0 ∧ er = 11) ∨ (¬ 400000000 < arHi rh - arLo rl ∧ ll = arLo rl % 1000000000 ∧ hh2 = arLo rl % 1000000000 + arHi rh - arLo rl ∧ er = 0)) : Calls Tryz.prog 52 #[.agg #[.int .i64 yl, .int .i64 yh], .agg #[.int .i64 xl, .int .i64 xh]] w fun e w' => e = .returned (.tuple #[.agg #[.int .i64 ll, .int .i64 hh2], .int .i64 er]) ∧ Below w.heap.size w w' := by
  have i0 : ∀ w, (Instr.index 94 (.agg #[.int .i64 yl, .int .i64 yh, .int .i64 xl, .int .i64 xh]) (.int .i64 0)).run Tryz.prog w = .ok (.agg #[.int .i64 yl, .int .i64 yh]) w := fun _ => by kernel_rfl
  have i1 : ∀ w, (Instr.index 94 (.agg #[.int .i64 yl, .int .i64 yh, .int .i64 xl, .int .i64 xh]) (.int .i64 1)).run Tryz.prog w = .ok (.agg #[.int .i64 xl, .int .i64 xh]) w := fun _ => by kernel_rfl
  have HC := Lib.hid (fun w1 => c_intervalCheck yl yh w1)
  have HD := Lib.hid (fun w1 => c_intervalCheck xl xh w1)
  rw [hy] at HC
  rw [hx] at HD
  clear hy hx
  have had := hr.ad
  have hdk := hr.dk
  have hmn := hr.mn
  have hmx := hr.mx
  have hd0 := hr.d0
  clear hr
  have bl : -4000000000000000 ≤ arLo rl ∧ arLo rl ≤ 4000000000000000 := by obtain ⟨_, _, _, _, _, _, _, _, _, _, a, b, _, _⟩ := hl; exact ⟨a, b⟩
  have bh : -4000000000000000 ≤ arHi rh ∧ arHi rh ≤ 4000000000000000 := by obtain ⟨_, _, _, _, _, _, _, _, _, _, _, _, a, b⟩ := hh; exact ⟨a, b⟩
  have HBL := Lib.hid bl
  have HBH := Lib.hid bh
  clear bl bh
  have HAL := Lib.hid (fun w1 => c_AroundP hl w1)
  have HAH := Lib.hid (fun w1 => c_AroundP hh w1)
  have rla := hadd hla
  have rha := hadd hha
  clear hla hha hl hh
  generalize dirW yl xl = f0 at *
  have HD0 := Lib.hid (fun w1 => c_dir hd0 w1)
  clear hd0
  have hgen := sgen; have hgen2 := sgen2; have hgen3 := sgen3; go_enter Tryz.func52, Tryz.ntmps52
  go_wp2
  refine wp_loop_rounds 3 ?_
  rw [rounds_succ]
  go_wp2_with (go_at_call 87; (refine (HC.out _).mono ?_); rintro e w1 ⟨rfl, hb⟩; have hz := hb.size; (try simp only [szA, szS, szD, szN] at hz); (try (refine bcB (n := w.heap.size) hb ?_; intro h_w_0 e_w_0 d_w_0 _ _)); (try (refine bcB (n := w.heap.size + 1) hb ?_; intro h_w_1 e_w_1 d_w_1 _ _)); (try (refine bcB (n := w.heap.size + 2) hb ?_; intro h_w_2 e_w_2 d_w_2 _ _)); (try (refine bcB (n := w.heap.size + 3) hb ?_; intro h_w_3 e_w_3 d_w_3 _ _)))
  rw [rounds_succ]
  go_wp2_with (go_at_call 87; (refine (HD.out _).mono ?_); rintro e w2 ⟨rfl, hb⟩; have hz := hb.size; (try simp only [szA, szS, szD, szN] at hz); (try (refine bcB (n := w.heap.size) hb ?_; intro h_w_0 e_w_0 d_w_0 _ _)); (try (refine bcB (n := w.heap.size + 1) hb ?_; intro h_w_1 e_w_1 d_w_1 _ _)); (try (refine bcB (n := w.heap.size + 2) hb ?_; intro h_w_2 e_w_2 d_w_2 _ _)); (try (refine bcB (n := w.heap.size + 3) hb ?_; intro h_w_3 e_w_3 d_w_3 _ _)); (try (refine bcB (n := w1.heap.size) hb ?_; intro h_w1_0 e_w1_0 d_w1_0 _ _)); (try (refine bcB (n := w1.heap.size + 1) hb ?_; intro h_w1_1 e_w1_1 d_w1_1 _ _)))
  rw [rounds_succ]
  go_upto_region 8 with fail
  obtain ⟨wd, hwd⟩ : ∃ wd : World, wd = w2 := ⟨_, rfl⟩
  go_cut [46] (fun s wc => s = .bool false ∧ wc = w2)
  case first =>
    clear had hdk hmn hmx HC HD HD0
    by_cases h1 : yl ≤ 0
    · by_cases h2 : 0 ≤ yh
      · by_cases h3 : xl ≤ 0
        · have h4 : ¬ 0 ≤ xh := fun h4 => hzz ⟨h1, h2, h3, h4⟩
          have g1 : decide (yl ≤ 0) = true := decide_eq_true h1
          have g2 : decide (0 ≤ yh) = true := decide_eq_true h2
          have g3 : decide (xl ≤ 0) = true := decide_eq_true h3
          have g4 : decide (0 ≤ xh) = false := decide_eq_false h4
          go_wp2
          go_meet
          case rel => exact ⟨rfl, rfl⟩
        · have g1 : decide (yl ≤ 0) = true := decide_eq_true h1
          have g2 : decide (0 ≤ yh) = true := decide_eq_true h2
          have g3 : decide (xl ≤ 0) = false := decide_eq_false h3
          go_wp2
          go_meet
          case rel => exact ⟨rfl, rfl⟩
      · have g1 : decide (yl ≤ 0) = true := decide_eq_true h1
        have g2 : decide (0 ≤ yh) = false := decide_eq_false h2
        go_wp2
        go_meet
        case rel => exact ⟨rfl, rfl⟩
    · have g1 : decide (yl ≤ 0) = false := decide_eq_false h1
      go_wp2
      go_meet
      case rel => exact ⟨rfl, rfl⟩
  case rest =>
    obtain ⟨rfl, rfl⟩ := hcut
    go_wp2_with (go_at_call 96; refine (HD0.out _).mono ?_; rintro e w' ⟨rfl, rfl⟩)
    go_loopg [10, 11, 69] 3 (fun gk s10 s11 i wr => ∃ k : Nat, gk + k = 3 ∧ i = .int .i64 k ∧ s10 = fl (arcLow yl yh xl xh k) ∧ s11 = fl (arcHigh yl yh xl xh k) ∧ Below wc.heap.size wc wr)
    case atStart => exact ⟨0, rfl, rfl, rfl, rfl, Below.refl _ _⟩
    case round =>
      obtain ⟨k, hk, rfl, rfl, rfl, hbel⟩ := hrel
      have hsz := hbel.size
      by_cases hlt : k < 3
      · have hlz : ((k : Nat) : Int) < 3 := by omega
        obtain ⟨d, d1, s1, hA, hB⟩ := had k hlt
        have h1 := hdk k hlt
        have h2 := run_minF (hmn k hlt)
        have h3 := run_maxF (hmx k hlt)
        have el : arcLow yl yh xl xh (k + 1) = fminW (arcLow yl yh xl xh k) (adjW (arcD yl yh xl xh k)) := rfl
        have eh : arcHigh yl yh xl xh (k + 1) = fmaxW (arcHigh yl yh xl xh k) (adjW (arcD yl yh xl xh k)) := rfl
        have j0 : ∀ w, (Instr.index 101 (.agg #[.int .i64 yl, .int .i64 xh, .int .i64 yh, .int .i64 xl, .int .i64 yh, .int .i64 xh]) (.int .i64 (k : Int))).run Tryz.prog w = .ok (.agg #[.int .i64 (arcC yl yh xl xh k).1, .int .i64 (arcC yl yh xl xh k).2]) w := by
          intro w
          rcases (show k = 0 ∨ k = 1 ∨ k = 2 by omega) with rfl | rfl | rfl <;> kernel_rfl
        generalize adjW (arcD yl yh xl xh k) = e at *
        obtain ⟨p, hp⟩ : ∃ p, (arcC yl yh xl xh k).1 = p := ⟨_, rfl⟩
        obtain ⟨q, hq⟩ : ∃ q, (arcC yl yh xl xh k).2 = q := ⟨_, rfl⟩
        rw [hp, hq] at j0 h1 s1
        generalize dirW p q = f at *
        have HF := Lib.hid (fun w1 => c_dir h1 w1)
        have r1 := hsub s1
        have EL := Lib.hid el
        have EH := Lib.hid eh
        clear h1 s1 el eh hp hq had hdk hmn hmx
        generalize arcLow yl yh xl xh k = lo at *
        generalize arcHigh yl yh xl xh k = hi at *
        rcases hA with ⟨a1, a2⟩ | ⟨a1, rfl⟩ <;> rcases hB with ⟨b1, b2⟩ | ⟨b1, rfl⟩
        · have a3 : (FloatKind.f64.format.order d 4737168216739020800 == some Ordering.gt) = true := a1
          have b3 : (FloatKind.f64.format.order d1 13960540253593796608 == some Ordering.lt) = true := b1
          have a4 : ∀ t w, (binOp .sub t (.float .f64 d) (.float .f64 4741671816366391296)).run Tryz.prog w = .ok (.float .f64 d1) w := hsub a2
          have b4 : ∀ t w, (binOp .add t (.float .f64 d1) (.float .f64 4741671816366391296)).run Tryz.prog w = .ok (.float .f64 e) w := hadd b2
          clear a1 b1 a2 b2
          go_wp2_with (go_at_call 96; refine (HF.out _).mono ?_; rintro e w' ⟨rfl, rfl⟩)
          go_roundg (gk - 1)
          case measure => omega
          case rel => exact ⟨k + 1, by omega, by go_num, by rw [EL.out], by rw [EH.out], by exact belz⟩
        · have a3 : (FloatKind.f64.format.order d 4737168216739020800 == some Ordering.gt) = true := a1
          have b3 : (FloatKind.f64.format.order e 13960540253593796608 == some Ordering.lt) = false := b1
          have a4 : ∀ t w, (binOp .sub t (.float .f64 d) (.float .f64 4741671816366391296)).run Tryz.prog w = .ok (.float .f64 e) w := hsub a2
          clear a1 b1 a2
          go_wp2_with (go_at_call 96; refine (HF.out _).mono ?_; rintro e w' ⟨rfl, rfl⟩)
          go_roundg (gk - 1)
          case measure => omega
          case rel => exact ⟨k + 1, by omega, by go_num, by rw [EL.out], by rw [EH.out], by exact belz⟩
        · have a3 : (FloatKind.f64.format.order d1 4737168216739020800 == some Ordering.gt) = false := a1
          have b3 : (FloatKind.f64.format.order d1 13960540253593796608 == some Ordering.lt) = true := b1
          have b4 : ∀ t w, (binOp .add t (.float .f64 d1) (.float .f64 4741671816366391296)).run Tryz.prog w = .ok (.float .f64 e) w := hadd b2
          clear a1 b1 b2
          go_wp2_with (go_at_call 96; refine (HF.out _).mono ?_; rintro e w' ⟨rfl, rfl⟩)
          go_roundg (gk - 1)
          case measure => omega
          case rel => exact ⟨k + 1, by omega, by go_num, by rw [EL.out], by rw [EH.out], by exact belz⟩
        · have a3 : (FloatKind.f64.format.order e 4737168216739020800 == some Ordering.gt) = false := a1
          have b3 : (FloatKind.f64.format.order e 13960540253593796608 == some Ordering.lt) = false := b1
          clear a1 b1
          go_wp2_with (go_at_call 96; refine (HF.out _).mono ?_; rintro e w' ⟨rfl, rfl⟩)
          go_roundg (gk - 1)
          case measure => omega
          case rel => exact ⟨k + 1, by omega, by go_num, by rw [EL.out], by rw [EH.out], by exact belz⟩
      · have hk3 : k = 3 := by omega
        subst hk3
        clear had hdk hmn hmx
        refine bcUse (n := w.heap.size + 1 + 1) hbel (by omega) ?_
        intro cA fA
        have HB := Lib.hid hbel
        generalize arcLow yl yh xl xh 3 = lo at *
        generalize arcHigh yl yh xl xh 3 = hi at *
        have q0 : ∀ w, (Instr.field 27 (.agg #[.int .i64 (arLo rl), .int .i64 (arHi rl)]) 0).run Tryz.prog w = .ok (.int .i64 (arLo rl)) w := fun _ => by kernel_rfl
        have q1 : ∀ w, (Instr.field 27 (.agg #[.int .i64 (arLo rh), .int .i64 (arHi rh)]) 1).run Tryz.prog w = .ok (.int .i64 (arHi rh)) w := fun _ => by kernel_rfl
        have dlt : decide (((3 : Nat) : Int) < 3) = false := by decide
        have HWR := Lib.hid (show w.heap.size + 2 < wr.heap.size by omega)
        obtain ⟨wo, rfl⟩ : ∃ wo : World, wo = wr := ⟨_, rfl⟩
        go_upto_region 22 with fail
        go_cut [15] (fun s wk => ∃ b : Nat, s = .pointer (some ⟨b, 0, none⟩) ∧ wo.heap.size ≤ b ∧ b < wk.heap.size ∧ wk.cell? ⟨b, 0, none⟩ = some (.int .i64 (arLo rl)) ∧ wk.cell? ⟨b, 1, none⟩ = some (.int .i64 (arHi rh)) ∧ Below wo.heap.size wo wk)
        case first =>
          go_wp2_with (first | (go_at_call 94; (with_reducible refine (HAL.out _).mono ?_); rintro e w3 ⟨rfl, hb⟩; have hz := hb.size; (try simp only [szA, szS, szD, szN] at hz); (try (refine bcB (n := wo.heap.size) hb ?_; intro h_wo_0 e_wo_0 d_wo_0 _ _)); (try (refine bcB (n := wo.heap.size + 1) hb ?_; intro h_wo_1 e_wo_1 d_wo_1 _ _))) | (go_at_call 94; (with_reducible refine (HAH.out _).mono ?_); rintro e w4 ⟨rfl, hb⟩; have hz := hb.size; (try simp only [szA, szS, szD, szN] at hz); (try (refine bcB (n := wo.heap.size) hb ?_; intro h_wo_0 e_wo_0 d_wo_0 _ _)); (try (refine bcB (n := wo.heap.size + 1) hb ?_; intro h_wo_1 e_wo_1 d_wo_1 _ _)); (try (refine bcB (n := w3.heap.size) hb ?_; intro h_w3_0 e_w3_0 d_w3_0 _ _)); (try (refine bcB (n := w3.heap.size + 1) hb ?_; intro h_w3_1 e_w3_1 d_w3_1 _ _))))
          go_meet
          case rel => exact ⟨w4.heap.size, by go_simp, by omega, by go_simp, by go_simp, by go_simp, by exact belz⟩
        case rest =>
          obtain ⟨b, rfl, hb1, hb2, hc1, hc2, hbl⟩ := hcut
          have hsk := hbl.size
          have n1 : ¬ w.heap.size + 1 + 1 = b := by have := HWR.out; omega
          have n2 : ¬ b = w.heap.size + 1 + 1 := by have := HWR.out; omega
          have n3 : w.heap.size + 1 + 1 < wc.heap.size := by have := HWR.out; omega
          refine bcUse (n := w.heap.size + 1 + 1) hbl (by have := HWR.out; omega) ?_
          intro cB fB
          obtain ⟨bl1, bl2⟩ := HBL.out
          obtain ⟨bh1, bh2⟩ := HBH.out
          have HR := Lib.hid hres
          clear hres
          by_cases hwd : 400000000 < arHi rh - arLo rl
          · go_wp2
            rcases HR.out with ⟨-, rfl, rfl, rfl⟩ | ⟨h, -⟩
            · refine bodyPost_ret (v := .tuple #[.agg #[.int .i64 0, .int .i64 0], .int .i64 11]) (by simp only [results, Tryz.results52]; go_simp) rfl ⟨rfl, ?_⟩
              have HBO := HB.out
              exact belz
            · exact absurd hwd (by omega)
          · have HNN := Lib.hid (fun w1 => c_Norm (arLo rl) (arHi rh) w1 (by omega) (by omega) (by omega) (by omega))
            go_wp2_with (go_at_call 84; (refine (HNN.out _).mono ?_); rintro e w5 ⟨rfl, hb⟩; have hz := hb.size; (try simp only [szA, szS, szD, szN] at hz); (try (refine bcB (n := w.heap.size + 1 + 1) hb ?_; intro h_w_2 e_w_2 d_w_2 _ _)); (try (refine bcB (n := wc.heap.size) hb ?_; intro h_wc_0 e_wc_0 d_wc_0 _ _)))
            rcases HR.out with ⟨h, -⟩ | ⟨-, rfl, rfl, rfl⟩
            · exact absurd hwd (by omega)
            · refine bodyPost_ret (v := .tuple #[.agg #[.int .i64 (arLo rl % 1000000000), .int .i64 (arLo rl % 1000000000 + arHi rh - arLo rl)], .int .i64 0]) (by simp only [results, Tryz.results52]; go_simp) rfl ⟨rfl, ?_⟩
              have HBO := HB.out
              exact belz
end
section
open Go.RowKit
def angOk (a : Int) : Bool := decide (-1000000000000000000 ≤ a) && decide (a ≤ 1000000000000000000)
theorem c_trRange (a : Int) (w : World) : Calls Tryz.prog 116 #[.int .i64 a] w fun e w' => e = .returned (.bool (angOk a)) ∧ w = w' := by
  rcases (show a < -1000000000000000000 ∨ (-1000000000000000000 ≤ a ∧ a ≤ 1000000000000000000) ∨ 1000000000000000000 < a by omega) with h | ⟨h1, h2⟩ | h
  · have e : angOk a = false := by unfold angOk; rw [decide_eq_false (by omega)]; rfl
    rw [e]
    have hgen := sgen; have hgen2 := sgen2; have hgen3 := sgen3; go_enter Tryz.func116, Tryz.ntmps116
    go_wp2
    go_ret
    exact ⟨rfl, rfl⟩
  · have e : angOk a = true := by unfold angOk; rw [decide_eq_true h1, decide_eq_true h2]; rfl
    have d1 : decide (-1000000000000000000 ≤ a) = true := decide_eq_true h1
    have d2 : decide (a ≤ 1000000000000000000) = true := decide_eq_true h2
    rw [e]
    have hgen := sgen; have hgen2 := sgen2; have hgen3 := sgen3; go_enter Tryz.func116, Tryz.ntmps116
    go_wp2
    go_ret
    exact ⟨rfl, rfl⟩
  · have e : angOk a = false := by unfold angOk; rw [decide_eq_false (show ¬ a ≤ 1000000000000000000 by omega)]; simp
    have d1 : decide (-1000000000000000000 ≤ a) = true := decide_eq_true (by omega)
    have d2 : decide (a ≤ 1000000000000000000) = false := decide_eq_false (by omega)
    rw [e]
    have hgen := sgen; have hgen2 := sgen2; have hgen3 := sgen3; go_enter Tryz.func116, Tryz.ntmps116
    go_wp2
    go_ret
    exact ⟨rfl, rfl⟩
theorem c_Sin_ok (a : Int) (w : World) (ht : Tab w) (h : angOk a = true) : Calls Tryz.prog 91 #[.int .i64 a] w fun e w' => e = .returned (.tuple #[.agg #[.int .i64 (sineLo a), .int .i64 (sineHi a)], .int .i64 0]) ∧ Below w.heap.size w w' := by
  have hh := h
  unfold angOk at hh
  simp at hh
  have HR := Lib.hid (fun w1 => c_trRange a w1)
  rw [h] at HR
  have HT := Lib.hid ht
  have HS := Lib.hid (fun w1 (hw : Tab w1) => c_sine a w1 hw (by omega) (by omega))
  clear ht h hh
  generalize sineLo a = sl at *
  generalize sineHi a = sh at *
  have hgen := sgen; have hgen2 := sgen2; have hgen3 := sgen3; go_enter Tryz.func91, Tryz.ntmps91
  go_wp2_with (first | (go_at_call 116; refine (HR.out _).mono ?_; rintro e w' ⟨rfl, rfl⟩) | (go_at_call 100; (refine (HS.out _ (HT.out.below (by exact belz))).mono ?_); rintro e w1 ⟨rfl, hb⟩; have hz := hb.size; (try simp only [szA, szS, szD, szN] at hz); (try (refine bcB (n := w.heap.size) hb ?_; intro h_w_0 e_w_0 d_w_0 _ _))))
  refine bodyPost_ret (v := .tuple #[.agg #[.int .i64 sl, .int .i64 sh], .int .i64 0]) (by simp only [results, Tryz.results91]; go_simp) rfl ⟨rfl, ?_⟩
  exact belz
theorem c_Sin_bad (a : Int) (w : World) (h : angOk a = false) : Calls Tryz.prog 91 #[.int .i64 a] w fun e w' => e = .returned (.tuple #[.agg #[.int .i64 0, .int .i64 0], .int .i64 3]) ∧ Below w.heap.size w w' := by
  have HR := Lib.hid (fun w1 => c_trRange a w1)
  rw [h] at HR
  clear h
  have hgen := sgen; have hgen2 := sgen2; have hgen3 := sgen3; go_enter Tryz.func91, Tryz.ntmps91
  go_wp2_with (go_at_call 116; refine (HR.out _).mono ?_; rintro e w' ⟨rfl, rfl⟩)
  refine bodyPost_ret (v := .tuple #[.agg #[.int .i64 0, .int .i64 0], .int .i64 3]) (by simp only [results, Tryz.results91]; go_simp) rfl ⟨rfl, ?_⟩
  exact belz
theorem c_Cos_ok (a : Int) (w : World) (ht : Tab w) (h : angOk a = true) : Calls Tryz.prog 92 #[.int .i64 a] w fun e w' => e = .returned (.tuple #[.agg #[.int .i64 (sineLo (a % 1000000000 + 250000000)), .int .i64 (sineHi (a % 1000000000 + 250000000))], .int .i64 0]) ∧ Below w.heap.size w w' := by
  have hh := h
  unfold angOk at hh
  simp at hh
  have HR := Lib.hid (fun w1 => c_trRange a w1)
  rw [h] at HR
  have HT := Lib.hid ht
  have HM := Lib.hid (fun w1 => c_mod a 1000000000 w1 (by omega) (by omega) (by omega) (by omega))
  have m0 := Int.emod_nonneg a (show (1000000000 : Int) ≠ 0 by omega)
  have m1 := Int.emod_lt_of_pos a (show (0 : Int) < 1000000000 by omega)
  have HS := Lib.hid (fun w1 (hw : Tab w1) => c_sine (a % 1000000000 + 250000000) w1 hw (by omega) (by omega))
  clear ht h hh
  generalize a % 1000000000 = b at *
  generalize sineLo (b + 250000000) = sl at *
  generalize sineHi (b + 250000000) = sh at *
  have hgen := sgen; have hgen2 := sgen2; have hgen3 := sgen3; go_enter Tryz.func92, Tryz.ntmps92
  go_wp2_with (first | (go_at_call 116; refine (HR.out _).mono ?_; rintro e w' ⟨rfl, rfl⟩) | (go_at_call 102; refine (HM.out _).mono ?_; rintro e w' ⟨rfl, nn, rfl⟩) | (go_at_call 100; (refine (HS.out _ (HT.out.below (by exact belz))).mono ?_); rintro e w1 ⟨rfl, hb⟩; have hz := hb.size; (try simp only [szA, szS, szD, szN] at hz); (try (refine bcB (n := w.heap.size) hb ?_; intro h_w_0 e_w_0 d_w_0 _ _))))
  refine bodyPost_ret (v := .tuple #[.agg #[.int .i64 sl, .int .i64 sh], .int .i64 0]) (by simp only [results, Tryz.results92]; go_simp) rfl ⟨rfl, ?_⟩
  exact belz
theorem c_Cos_bad (a : Int) (w : World) (h : angOk a = false) : Calls Tryz.prog 92 #[.int .i64 a] w fun e w' => e = .returned (.tuple #[.agg #[.int .i64 0, .int .i64 0], .int .i64 3]) ∧ Below w.heap.size w w' := by
  have HR := Lib.hid (fun w1 => c_trRange a w1)
  rw [h] at HR
  clear h
  have hgen := sgen; have hgen2 := sgen2; have hgen3 := sgen3; go_enter Tryz.func92, Tryz.ntmps92
  go_wp2_with (go_at_call 116; refine (HR.out _).mono ?_; rintro e w' ⟨rfl, rfl⟩)
  refine bodyPost_ret (v := .tuple #[.agg #[.int .i64 0, .int .i64 0], .int .i64 3]) (by simp only [results, Tryz.results92]; go_simp) rfl ⟨rfl, ?_⟩
  exact belz
/-- The least interval around the roots. -/
structure RootOk (lo hi p q : Int) : Prop where
  p0 : 0 ≤ p
  p1 : p * p ≤ lo
  p2 : lo < (p + 1) * (p + 1)
  q0 : 0 ≤ q
  q1 : hi ≤ q * q
  q2 : q = 0 ∨ (q - 1) * (q - 1) < hi
theorem root9 {R n : Int} (h0 : 0 ≤ R) (h : R * R ≤ n) (h1 : n ≤ 1000000000000000000) : R ≤ 1000000000 ∧ R * R ≤ 1000000000000000000 ∧ 0 ≤ R * R := ⟨root_le h h1, by omega, Int.mul_nonneg h0 h0⟩
set_option maxHeartbeats 1000000 in
theorem c_tRoot_ok (lo hi : Int) (w : World) (h : spanErr lo hi = 0) (h0 : 0 ≤ lo) (hh : lo ≤ hi) (h1 : hi ≤ 1000000000000000000) : Calls Tryz.prog 99 #[.agg #[.int .i64 lo, .int .i64 hi]] w fun e w' => ∃ p q, e = .returned (.tuple #[.agg #[.int .i64 p, .int .i64 q], .int .i64 0]) ∧ Below w.heap.size w w' ∧ RootOk lo hi p q := by
  have HC := Lib.hid (fun w1 => c_intervalCheck lo hi w1)
  rw [h] at HC
  have HA := Lib.hid (fun w1 => c_wroot lo w1 h0 (by omega))
  have HB := Lib.hid (fun w1 => c_wroot hi w1 (by omega) h1)
  clear h
  have d0 : decide (lo < 0) = false := decide_eq_false (by omega)
  have hgen := sgen; have hgen2 := sgen2; have hgen3 := sgen3; go_enter Tryz.func99, Tryz.ntmps99
  go_wp2_with (first | (go_at_call 87; (refine (HC.out _).mono ?_); rintro e w1 ⟨rfl, hb⟩; have hz := hb.size; (try simp only [szA, szS, szD, szN] at hz); (try (refine bcB (n := w.heap.size) hb ?_; intro h_w_0 e_w_0 d_w_0 _ _)); (try (refine bcB (n := w.heap.size + 1) hb ?_; intro h_w_1 e_w_1 d_w_1 _ _))) | (go_at_call 121; (with_reducible refine (HA.out _).mono ?_); rintro e w' ⟨⟨p, rfl, P0, P1, P2⟩, rfl⟩) | (go_at_call 121; (with_reducible refine (HB.out _).mono ?_); (rintro e w' ⟨⟨q, rfl, Q0, Q1, Q2⟩, rfl⟩; have Q9 := root9 Q0 Q1 h1; have zz : IntKind.i64.wrap (q * q) = q * q := (by rw [IntKind.wrap_i64]; omega); have z2 : IntKind.i64.wrap (q + 1) = q + 1 := (by rw [IntKind.wrap_i64]; omega))))
  · refine bodyPost_ret (v := .tuple #[.agg #[.int .i64 p, .int .i64 (q + 1)], .int .i64 0]) (by simp only [results, Tryz.results99]; go_simp) rfl ⟨p, q + 1, rfl, ?_, ⟨P0, P1, P2, by omega, by omega, .inr (by simp only [Int.add_sub_cancel]; omega)⟩⟩
    exact belz
  · have hq : (q - 1) * (q - 1) < hi ∨ q = 0 := by
      by_cases h : q = 0
      · exact .inr h
      · left
        have e : (q - 1) * (q - 1) = q * q - 2 * q + 1 := by grind
        omega
    refine bodyPost_ret (v := .tuple #[.agg #[.int .i64 p, .int .i64 q], .int .i64 0]) (by simp only [results, Tryz.results99]; go_simp) rfl ⟨p, q, rfl, ?_, ⟨P0, P1, P2, Q0, by omega, by omega⟩⟩
    exact belz
theorem c_tRoot_bad (lo hi : Int) (w : World) (h : spanErr lo hi ≠ 0) : Calls Tryz.prog 99 #[.agg #[.int .i64 lo, .int .i64 hi]] w fun e w' => e = .returned (.tuple #[.agg #[.int .i64 0, .int .i64 0], .int .i64 (spanErr lo hi)]) ∧ Below w.heap.size w w' := by
  have HC := Lib.hid (fun w1 => c_intervalCheck lo hi w1)
  have b1 : (spanErr lo hi != 0) = true := by simp; exact h
  have b0 : (spanErr lo hi == 0) = false := by simp; exact h
  clear h
  generalize spanErr lo hi = ee at *
  have hgen := sgen; have hgen2 := sgen2; have hgen3 := sgen3; go_enter Tryz.func99, Tryz.ntmps99
  go_wp2_with (go_at_call 87; (refine (HC.out _).mono ?_); rintro e w1 ⟨rfl, hb⟩; have hz := hb.size; (try simp only [szA, szS, szD, szN] at hz); (try (refine bcB (n := w.heap.size) hb ?_; intro h_w_0 e_w_0 d_w_0 _ _)); (try (refine bcB (n := w.heap.size + 1) hb ?_; intro h_w_1 e_w_1 d_w_1 _ _)))
  refine bodyPost_ret (v := .tuple #[.agg #[.int .i64 0, .int .i64 0], .int .i64 ee]) (by simp only [results, Tryz.results99]; go_simp) rfl ⟨rfl, ?_⟩
  exact belz
theorem c_tRoot_neg (lo hi : Int) (w : World) (h : spanErr lo hi = 0) (h0 : lo < 0) : Calls Tryz.prog 99 #[.agg #[.int .i64 lo, .int .i64 hi]] w fun e w' => e = .returned (.tuple #[.agg #[.int .i64 0, .int .i64 0], .int .i64 1]) ∧ Below w.heap.size w w' := by
  have HC := Lib.hid (fun w1 => c_intervalCheck lo hi w1)
  rw [h] at HC
  clear h
  have d0 : decide (lo < 0) = true := decide_eq_true h0
  have hgen := sgen; have hgen2 := sgen2; have hgen3 := sgen3; go_enter Tryz.func99, Tryz.ntmps99
  go_wp2_with (go_at_call 87; (refine (HC.out _).mono ?_); rintro e w1 ⟨rfl, hb⟩; have hz := hb.size; (try simp only [szA, szS, szD, szN] at hz); (try (refine bcB (n := w.heap.size) hb ?_; intro h_w_0 e_w_0 d_w_0 _ _)); (try (refine bcB (n := w.heap.size + 1) hb ?_; intro h_w_1 e_w_1 d_w_1 _ _)))
  refine bodyPost_ret (v := .tuple #[.agg #[.int .i64 0, .int .i64 0], .int .i64 1]) (by simp only [results, Tryz.results99]; go_simp) rfl ⟨rfl, ?_⟩
  exact belz
/-- Arc at a fixed direction. -/
theorem c_Arc_fix (w : World) : Calls Tryz.prog 52 #[.agg #[.int .i64 5, .int .i64 5], .agg #[.int .i64 (-5), .int .i64 (-5)]] w fun e w' => e = .returned (.tuple #[.agg #[.int .i64 374999999, .int .i64 375000001], .int .i64 0]) ∧ Below w.heap.size w w' := by
  obtain ⟨hr, a1, a2, ⟨r1, e1⟩, ⟨r2, e2⟩, -⟩ := arc_run 5 5 (-5) (-5) (by decide) (by decide) (by decide) (by decide) (by decide) (by decide) (by decide) (by decide) (fun y x hy hx => by left; rcases hy with rfl | rfl <;> decide)
  have f1 := fadd_of e1
  have f2 := fadd_of e2
  have g1 : arcLo 5 5 (-5) (-5) = 374999999 := by decide +kernel
  have g2 : arcHi 5 5 (-5) (-5) = 375000001 := by decide +kernel
  rw [f1] at a1
  rw [f2] at a2
  have k1 : arLo r1 = 374999999 := by rw [← g1]; unfold arcLo; rw [f1]
  have k2 : arHi r2 = 375000001 := by rw [← g2]; unfold arcHi; rw [f2]
  exact c_Arc_ok 5 5 (-5) (-5) w (by decide +kernel) (by decide +kernel) (by decide) hr e1 e2 a1 a2 374999999 375000001 0 (.inr ⟨by rw [k1, k2]; decide, by rw [k1]; decide, by rw [k1, k2]; decide, rfl⟩)
theorem root29 {p q : Int} (h : RootOk 2 9 p q) : p = 1 ∧ q = 3 := by
  obtain ⟨p0, p1, p2, q0, q1, q2⟩ := h
  have hp : p ≤ 1 := by
    by_cases k : p ≤ 1
    · exact k
    · have := sq_mono (a := 2) (b := p) (by omega) (by omega); omega
  have hp2 : 1 ≤ p := by
    by_cases k : 1 ≤ p
    · exact k
    · have : p = 0 := by omega
      subst this; omega
  have hq : 3 ≤ q := by
    by_cases k : 3 ≤ q
    · exact k
    · have := sq_mono (a := q) (b := 2) (by omega) (by omega); omega
  have hq2 : q ≤ 3 := by
    by_cases k : q ≤ 3
    · exact k
    · have := sq_mono (a := 3) (b := q - 1) (by omega) (by omega); omega
  omega
theorem c_tRoot29 (w : World) : Calls Tryz.prog 99 #[.agg #[.int .i64 2, .int .i64 9]] w fun e w' => e = .returned (.tuple #[.agg #[.int .i64 1, .int .i64 3], .int .i64 0]) ∧ Below w.heap.size w w' := by
  refine (c_tRoot_ok 2 9 w (by decide +kernel) (by decide) (by decide) (by decide)).mono ?_
  rintro e w' ⟨p, q, rfl, hb, hr⟩
  obtain ⟨rfl, rfl⟩ := root29 hr
  exact ⟨rfl, hb⟩
theorem c_Sin_fix (w : World) (ht : Tab w) : Calls Tryz.prog 91 #[.int .i64 125000000] w fun e w' => e = .returned (.tuple #[.agg #[.int .i64 707106781, .int .i64 707106782], .int .i64 0]) ∧ Below w.heap.size w w' := by
  have h := c_Sin_ok 125000000 w ht (by decide)
  rw [show sineLo 125000000 = 707106781 by decide +kernel, show sineHi 125000000 = 707106782 by decide +kernel] at h
  exact h
theorem c_Cos_fix (w : World) (ht : Tab w) : Calls Tryz.prog 92 #[.int .i64 0] w fun e w' => e = .returned (.tuple #[.agg #[.int .i64 1000000000, .int .i64 1000000000], .int .i64 0]) ∧ Below w.heap.size w w' := by
  have h := c_Cos_ok 0 w ht (by decide)
  rw [show sineLo (0 % 1000000000 + 250000000) = 1000000000 by decide +kernel, show sineHi (0 % 1000000000 + 250000000) = 1000000000 by decide +kernel] at h
  exact h
end
end Go.Proofs.YtcgnhnmigmdalaaGreatDoor
