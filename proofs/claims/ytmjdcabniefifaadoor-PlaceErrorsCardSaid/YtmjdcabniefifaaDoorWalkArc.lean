/- The contract of trig.Arc. -/
import Derived.Test.YtmjdcabniefifaaDoorWalkRt
import Derived.Test.YtmjdcabniefifaaDoorWkD
import Derived.Test.YtmjdcabniefifaaDoorTrB
import Derived.Deep.RegionHeld3
import Derived.Deep.DeepCutAuto
set_option linter.unusedVariables false
set_option linter.unusedSimpArgs false
namespace Go.Proofs.YtmjdcabniefifaaDoor
open Go.RowKit
theorem c_dir {y x : Int} {f : Nat} (h : DirP y x f) (w : World) : Calls Tryd.prog 74 #[.int .i64 y, .int .i64 x] w fun e w' => e = .returned (fl f) ∧ w = w' := by
  obtain ⟨Y, X, r, d, ny, nx, y9, x9, yz, f1, f2, f3⟩ := h
  have HX := Lib.hid (fun w1 => c_Atan2 ny nx (fofI_lt64 y) (fofI_lt64 x) y9 x9 yz f1 w1)
  have r1 : ∀ t w, (binOp .quo t (.float .f64 r) (.float .f64 4618760256179416344)).run Tryd.prog w = .ok (.float .f64 d) w := hdiv f2
  have r2 : ∀ t w, (binOp .mul t (.float .f64 d) (.float .f64 4741671816366391296)).run Tryd.prog w = .ok (.float .f64 f) w := hmul f3
  obtain ⟨yw, hyw⟩ : ∃ z, fofI y = z := ⟨_, rfl⟩
  obtain ⟨xw, hxw⟩ : ∃ z, fofI x = z := ⟨_, rfl⟩
  rw [hyw, hxw] at HX
  have k1 : floatOfInt .f64 y = yw := hyw
  have k2 : floatOfInt .f64 x = xw := hxw
  clear ny nx yz f1 f2 f3 hyw hxw y9 x9
  have hgen := sgen; have hgen2 := sgen2; have hgen3 := sgen3; go_enter Tryd.func74, Tryd.ntmps74
  go_wp2_with (go_at_call 86; refine (HX.out _).mono ?_; rintro e w' ⟨rfl, rfl⟩)
  go_ret
  exact ⟨rfl, rfl⟩
theorem min2_eq (x y : Nat) (h : (Ieee.double.order x y).isSome = true) : Builtin.min2 (.float .f64 x) (.float .f64 y) = pure (.float .f64 (fminW x y)) := by
  unfold fminW
  have e : Builtin.min2 (.float .f64 x) (.float .f64 y) = (match FloatKind.f64.format.order x y with
    | none => do pure (.float .f64 (← choose (.nanMinMax .f64 false x y)))
    | some .lt => pure (.float .f64 x)
    | some .gt => pure (.float .f64 y)
    | some .eq => pure (.float .f64 (if (FloatKind.f64.decode x).neg then x else y))) := rfl
  rw [e, show FloatKind.f64.format.order x y = Ieee.double.order x y from rfl, show FloatKind.f64.decode x = Ieee.double.read x from rfl]
  cases ho : Ieee.double.order x y with
  | none => rw [ho] at h; cases h
  | some o => cases o <;> rfl
theorem max2_eq (x y : Nat) (h : (Ieee.double.order x y).isSome = true) : Builtin.max2 (.float .f64 x) (.float .f64 y) = pure (.float .f64 (fmaxW x y)) := by
  unfold fmaxW
  have e : Builtin.max2 (.float .f64 x) (.float .f64 y) = (match FloatKind.f64.format.order x y with
    | none => do pure (.float .f64 (← choose (.nanMinMax .f64 true x y)))
    | some .lt => pure (.float .f64 y)
    | some .gt => pure (.float .f64 x)
    | some .eq => pure (.float .f64 (if (FloatKind.f64.decode x).neg then y else x))) := rfl
  rw [e, show FloatKind.f64.format.order x y = Ieee.double.order x y from rfl, show FloatKind.f64.decode x = Ieee.double.read x from rfl]
  cases ho : Ieee.double.order x y with
  | none => rw [ho] at h; cases h
  | some o => cases o <;> rfl
theorem run_minF {x y : Nat} (h : (Ieee.double.order x y).isSome = true) : ∀ ts t w, (Builtin.min_ ts t #[.float .f64 x, .float .f64 y]).run Tryd.prog w = .ok (.float .f64 (fminW x y)) w := by
  intro ts t w
  have := min2_eq x y h
  simp [Builtin.min_, this]
theorem run_maxF {x y : Nat} (h : (Ieee.double.order x y).isSome = true) : ∀ ts t w, (Builtin.max_ ts t #[.float .f64 x, .float .f64 y]).run Tryd.prog w = .ok (.float .f64 (fmaxW x y)) w := by
  intro ts t w
  have := max2_eq x y h
  simp [Builtin.max_, this]
theorem c_AroundP {v : Nat} (h : AroundP v) (w : World) : Calls Tryd.prog 75 #[fl v] w fun e w' => e = .returned (.agg #[.int .i64 (arLo v), .int .i64 (arHi v)]) ∧ Below w.heap.size w w' := by
  obtain ⟨s1, s2, X1, X2, w1, w2, w3, w4, w5, w6, w7, w8, w9, w10⟩ := h
  exact c_Around w1 w2 w3 w4 w5 w6 w7 w8 w9 w10 w
set_option maxHeartbeats 1000000 in
theorem c_Arc_y (yl yh xl xh : Int) (w : World) (he : spanErr yl yh ≠ 0) : Calls Tryd.prog 58 #[.agg #[.int .i64 yl, .int .i64 yh], .agg #[.int .i64 xl, .int .i64 xh]] w fun e w' => e = .returned (.tuple #[.agg #[.int .i64 0, .int .i64 0], .int .i64 (spanErr yl yh)]) ∧ Below w.heap.size w w' := by
  have i0 : ∀ w, (Instr.index 67 (.agg #[.int .i64 yl, .int .i64 yh, .int .i64 xl, .int .i64 xh]) (.int .i64 0)).run Tryd.prog w = .ok (.agg #[.int .i64 yl, .int .i64 yh]) w := fun _ => by kernel_rfl
  have i1 : ∀ w, (Instr.index 67 (.agg #[.int .i64 yl, .int .i64 yh, .int .i64 xl, .int .i64 xh]) (.int .i64 1)).run Tryd.prog w = .ok (.agg #[.int .i64 xl, .int .i64 xh]) w := fun _ => by kernel_rfl
  have b0 : (spanErr yl yh == 0) = false := by simp; exact he
  have b1 : (spanErr yl yh != 0) = true := by simp; exact he
  have HC := Lib.hid (fun w1 => c_intervalCheck yl yh w1)
  generalize spanErr yl yh = ey at *
  have hgen := sgen; have hgen2 := sgen2; have hgen3 := sgen3; go_enter Tryd.func58, Tryd.ntmps58
  go_wp2
  refine wp_loop_rounds 3 ?_
  rw [rounds_succ]
  go_wp2_with (go_at_call 43; (refine (HC.out _).mono ?_); rintro e w1 ⟨rfl, hb⟩; have hz := hb.size; (try simp only [World.size_alloc, World.size_setCell, World.size_drew, World.heap_drewN] at hz); (try have h_w_0 : w.heap.size < w1.heap.size := by omega); (try have e_w_0 : ¬ w.heap.size = w1.heap.size := by omega); (try have d_w_0 : ¬ w1.heap.size = w.heap.size := by omega); (try (refine bcUse (n := w.heap.size) hb ?_ ?_; (focus ((try simp only [World.size_alloc, World.size_setCell, World.size_drew, World.heap_drewN]); omega)); intro _ _)); (try have h_w_1 : w.heap.size + 1 < w1.heap.size := by omega); (try have e_w_1 : ¬ w.heap.size + 1 = w1.heap.size := by omega); (try have d_w_1 : ¬ w1.heap.size = w.heap.size + 1 := by omega); (try (refine bcUse (n := w.heap.size + 1) hb ?_ ?_; (focus ((try simp only [World.size_alloc, World.size_setCell, World.size_drew, World.heap_drewN]); omega)); intro _ _)); (try have h_w_2 : w.heap.size + 2 < w1.heap.size := by omega); (try have e_w_2 : ¬ w.heap.size + 2 = w1.heap.size := by omega); (try have d_w_2 : ¬ w1.heap.size = w.heap.size + 2 := by omega); (try (refine bcUse (n := w.heap.size + 2) hb ?_ ?_; (focus ((try simp only [World.size_alloc, World.size_setCell, World.size_drew, World.heap_drewN]); omega)); intro _ _)); (try have h_w_3 : w.heap.size + 3 < w1.heap.size := by omega); (try have e_w_3 : ¬ w.heap.size + 3 = w1.heap.size := by omega); (try have d_w_3 : ¬ w1.heap.size = w.heap.size + 3 := by omega); (try (refine bcUse (n := w.heap.size + 3) hb ?_ ?_; (focus ((try simp only [World.size_alloc, World.size_setCell, World.size_drew, World.heap_drewN]); omega)); intro _ _)))
  refine bodyPost_ret (v := .tuple #[.agg #[.int .i64 0, .int .i64 0], .int .i64 ey]) (by simp only [results, Tryd.results58]; go_simp) rfl ⟨rfl, ?_⟩
  (repeat' (first | (with_reducible exact Below.refl _ _) | (with_reducible assumption) | (with_reducible refine Below.call ?_ ?_ (by with_reducible assumption)) | (with_reducible refine Below.alloc ?_ ?_ _) | (with_reducible refine Below.drew ?_) | (with_reducible refine below_drewN ?_ _) | (with_reducible refine Below.setCell ?_ ?_ _) | (with_reducible exact Nat.le_refl _) | omega | (simp only [World.size_alloc, World.size_setCell, World.size_drew, World.heap_drewN] at *; omega)))
set_option maxHeartbeats 1000000 in
theorem c_Arc_x (yl yh xl xh : Int) (w : World) (hy : spanErr yl yh = 0) (he : spanErr xl xh ≠ 0) : Calls Tryd.prog 58 #[.agg #[.int .i64 yl, .int .i64 yh], .agg #[.int .i64 xl, .int .i64 xh]] w fun e w' => e = .returned (.tuple #[.agg #[.int .i64 0, .int .i64 0], .int .i64 (spanErr xl xh)]) ∧ Below w.heap.size w w' := by
  have i0 : ∀ w, (Instr.index 67 (.agg #[.int .i64 yl, .int .i64 yh, .int .i64 xl, .int .i64 xh]) (.int .i64 0)).run Tryd.prog w = .ok (.agg #[.int .i64 yl, .int .i64 yh]) w := fun _ => by kernel_rfl
  have i1 : ∀ w, (Instr.index 67 (.agg #[.int .i64 yl, .int .i64 yh, .int .i64 xl, .int .i64 xh]) (.int .i64 1)).run Tryd.prog w = .ok (.agg #[.int .i64 xl, .int .i64 xh]) w := fun _ => by kernel_rfl
  have b0 : (spanErr xl xh == 0) = false := by simp; exact he
  have b1 : (spanErr xl xh != 0) = true := by simp; exact he
  have HC := Lib.hid (fun w1 => c_intervalCheck yl yh w1)
  have HD := Lib.hid (fun w1 => c_intervalCheck xl xh w1)
  rw [hy] at HC
  generalize spanErr xl xh = ex at *
  clear hy
  have hgen := sgen; have hgen2 := sgen2; have hgen3 := sgen3; go_enter Tryd.func58, Tryd.ntmps58
  go_wp2
  refine wp_loop_rounds 3 ?_
  rw [rounds_succ]
  go_wp2_with (go_at_call 43; (refine (HC.out _).mono ?_); rintro e w1 ⟨rfl, hb⟩; have hz := hb.size; (try simp only [World.size_alloc, World.size_setCell, World.size_drew, World.heap_drewN] at hz); (try have h_w_0 : w.heap.size < w1.heap.size := by omega); (try have e_w_0 : ¬ w.heap.size = w1.heap.size := by omega); (try have d_w_0 : ¬ w1.heap.size = w.heap.size := by omega); (try (refine bcUse (n := w.heap.size) hb ?_ ?_; (focus ((try simp only [World.size_alloc, World.size_setCell, World.size_drew, World.heap_drewN]); omega)); intro _ _)); (try have h_w_1 : w.heap.size + 1 < w1.heap.size := by omega); (try have e_w_1 : ¬ w.heap.size + 1 = w1.heap.size := by omega); (try have d_w_1 : ¬ w1.heap.size = w.heap.size + 1 := by omega); (try (refine bcUse (n := w.heap.size + 1) hb ?_ ?_; (focus ((try simp only [World.size_alloc, World.size_setCell, World.size_drew, World.heap_drewN]); omega)); intro _ _)); (try have h_w_2 : w.heap.size + 2 < w1.heap.size := by omega); (try have e_w_2 : ¬ w.heap.size + 2 = w1.heap.size := by omega); (try have d_w_2 : ¬ w1.heap.size = w.heap.size + 2 := by omega); (try (refine bcUse (n := w.heap.size + 2) hb ?_ ?_; (focus ((try simp only [World.size_alloc, World.size_setCell, World.size_drew, World.heap_drewN]); omega)); intro _ _)); (try have h_w_3 : w.heap.size + 3 < w1.heap.size := by omega); (try have e_w_3 : ¬ w.heap.size + 3 = w1.heap.size := by omega); (try have d_w_3 : ¬ w1.heap.size = w.heap.size + 3 := by omega); (try (refine bcUse (n := w.heap.size + 3) hb ?_ ?_; (focus ((try simp only [World.size_alloc, World.size_setCell, World.size_drew, World.heap_drewN]); omega)); intro _ _)))
  rw [rounds_succ]
  go_wp2_with (go_at_call 43; (refine (HD.out _).mono ?_); rintro e w2 ⟨rfl, hb⟩; have hz := hb.size; (try simp only [World.size_alloc, World.size_setCell, World.size_drew, World.heap_drewN] at hz); (try have h_w_0 : w.heap.size < w2.heap.size := by omega); (try have e_w_0 : ¬ w.heap.size = w2.heap.size := by omega); (try have d_w_0 : ¬ w2.heap.size = w.heap.size := by omega); (try (refine bcUse (n := w.heap.size) hb ?_ ?_; (focus ((try simp only [World.size_alloc, World.size_setCell, World.size_drew, World.heap_drewN]); omega)); intro _ _)); (try have h_w_1 : w.heap.size + 1 < w2.heap.size := by omega); (try have e_w_1 : ¬ w.heap.size + 1 = w2.heap.size := by omega); (try have d_w_1 : ¬ w2.heap.size = w.heap.size + 1 := by omega); (try (refine bcUse (n := w.heap.size + 1) hb ?_ ?_; (focus ((try simp only [World.size_alloc, World.size_setCell, World.size_drew, World.heap_drewN]); omega)); intro _ _)); (try have h_w_2 : w.heap.size + 2 < w2.heap.size := by omega); (try have e_w_2 : ¬ w.heap.size + 2 = w2.heap.size := by omega); (try have d_w_2 : ¬ w2.heap.size = w.heap.size + 2 := by omega); (try (refine bcUse (n := w.heap.size + 2) hb ?_ ?_; (focus ((try simp only [World.size_alloc, World.size_setCell, World.size_drew, World.heap_drewN]); omega)); intro _ _)); (try have h_w_3 : w.heap.size + 3 < w2.heap.size := by omega); (try have e_w_3 : ¬ w.heap.size + 3 = w2.heap.size := by omega); (try have d_w_3 : ¬ w2.heap.size = w.heap.size + 3 := by omega); (try (refine bcUse (n := w.heap.size + 3) hb ?_ ?_; (focus ((try simp only [World.size_alloc, World.size_setCell, World.size_drew, World.heap_drewN]); omega)); intro _ _)); (try have h_w1_0 : w1.heap.size < w2.heap.size := by omega); (try have e_w1_0 : ¬ w1.heap.size = w2.heap.size := by omega); (try have d_w1_0 : ¬ w2.heap.size = w1.heap.size := by omega); (try (refine bcUse (n := w1.heap.size) hb ?_ ?_; (focus ((try simp only [World.size_alloc, World.size_setCell, World.size_drew, World.heap_drewN]); omega)); intro _ _)); (try have h_w1_1 : w1.heap.size + 1 < w2.heap.size := by omega); (try have e_w1_1 : ¬ w1.heap.size + 1 = w2.heap.size := by omega); (try have d_w1_1 : ¬ w2.heap.size = w1.heap.size + 1 := by omega); (try (refine bcUse (n := w1.heap.size + 1) hb ?_ ?_; (focus ((try simp only [World.size_alloc, World.size_setCell, World.size_drew, World.heap_drewN]); omega)); intro _ _)))
  refine bodyPost_ret (v := .tuple #[.agg #[.int .i64 0, .int .i64 0], .int .i64 ex]) (by simp only [results, Tryd.results58]; go_simp) rfl ⟨rfl, ?_⟩
  (repeat' (first | (with_reducible exact Below.refl _ _) | (with_reducible assumption) | (with_reducible refine Below.call ?_ ?_ (by with_reducible assumption)) | (with_reducible refine Below.alloc ?_ ?_ _) | (with_reducible refine Below.drew ?_) | (with_reducible refine below_drewN ?_ _) | (with_reducible refine Below.setCell ?_ ?_ _) | (with_reducible exact Nat.le_refl _) | omega | (simp only [World.size_alloc, World.size_setCell, World.size_drew, World.heap_drewN] at *; omega)))
set_option maxHeartbeats 1000000 in
theorem c_Arc_open (yl yh xl xh : Int) (w : World) (hy : spanErr yl yh = 0) (hx : spanErr xl xh = 0) (h1 : yl ≤ 0) (h2 : 0 ≤ yh) (h3 : xl ≤ 0) (h4 : 0 ≤ xh) : Calls Tryd.prog 58 #[.agg #[.int .i64 yl, .int .i64 yh], .agg #[.int .i64 xl, .int .i64 xh]] w fun e w' => e = .returned (.tuple #[.agg #[.int .i64 0, .int .i64 0], .int .i64 11]) ∧ Below w.heap.size w w' := by
  have i0 : ∀ w, (Instr.index 67 (.agg #[.int .i64 yl, .int .i64 yh, .int .i64 xl, .int .i64 xh]) (.int .i64 0)).run Tryd.prog w = .ok (.agg #[.int .i64 yl, .int .i64 yh]) w := fun _ => by kernel_rfl
  have i1 : ∀ w, (Instr.index 67 (.agg #[.int .i64 yl, .int .i64 yh, .int .i64 xl, .int .i64 xh]) (.int .i64 1)).run Tryd.prog w = .ok (.agg #[.int .i64 xl, .int .i64 xh]) w := fun _ => by kernel_rfl
  have HC := Lib.hid (fun w1 => c_intervalCheck yl yh w1)
  have HD := Lib.hid (fun w1 => c_intervalCheck xl xh w1)
  rw [hy] at HC
  rw [hx] at HD
  clear hy hx
  have g1 : decide (yl ≤ 0) = true := decide_eq_true h1
  have g2 : decide (0 ≤ yh) = true := decide_eq_true h2
  have g3 : decide (xl ≤ 0) = true := decide_eq_true h3
  have g4 : decide (0 ≤ xh) = true := decide_eq_true h4
  have hgen := sgen; have hgen2 := sgen2; have hgen3 := sgen3; go_enter Tryd.func58, Tryd.ntmps58
  go_wp2
  refine wp_loop_rounds 3 ?_
  rw [rounds_succ]
  go_wp2_with (go_at_call 43; (refine (HC.out _).mono ?_); rintro e w1 ⟨rfl, hb⟩; have hz := hb.size; (try simp only [World.size_alloc, World.size_setCell, World.size_drew, World.heap_drewN] at hz); (try have h_w_0 : w.heap.size < w1.heap.size := by omega); (try have e_w_0 : ¬ w.heap.size = w1.heap.size := by omega); (try have d_w_0 : ¬ w1.heap.size = w.heap.size := by omega); (try (refine bcUse (n := w.heap.size) hb ?_ ?_; (focus ((try simp only [World.size_alloc, World.size_setCell, World.size_drew, World.heap_drewN]); omega)); intro _ _)); (try have h_w_1 : w.heap.size + 1 < w1.heap.size := by omega); (try have e_w_1 : ¬ w.heap.size + 1 = w1.heap.size := by omega); (try have d_w_1 : ¬ w1.heap.size = w.heap.size + 1 := by omega); (try (refine bcUse (n := w.heap.size + 1) hb ?_ ?_; (focus ((try simp only [World.size_alloc, World.size_setCell, World.size_drew, World.heap_drewN]); omega)); intro _ _)); (try have h_w_2 : w.heap.size + 2 < w1.heap.size := by omega); (try have e_w_2 : ¬ w.heap.size + 2 = w1.heap.size := by omega); (try have d_w_2 : ¬ w1.heap.size = w.heap.size + 2 := by omega); (try (refine bcUse (n := w.heap.size + 2) hb ?_ ?_; (focus ((try simp only [World.size_alloc, World.size_setCell, World.size_drew, World.heap_drewN]); omega)); intro _ _)); (try have h_w_3 : w.heap.size + 3 < w1.heap.size := by omega); (try have e_w_3 : ¬ w.heap.size + 3 = w1.heap.size := by omega); (try have d_w_3 : ¬ w1.heap.size = w.heap.size + 3 := by omega); (try (refine bcUse (n := w.heap.size + 3) hb ?_ ?_; (focus ((try simp only [World.size_alloc, World.size_setCell, World.size_drew, World.heap_drewN]); omega)); intro _ _)))
  rw [rounds_succ]
  go_wp2_with (go_at_call 43; (refine (HD.out _).mono ?_); rintro e w2 ⟨rfl, hb⟩; have hz := hb.size; (try simp only [World.size_alloc, World.size_setCell, World.size_drew, World.heap_drewN] at hz); (try have h_w_0 : w.heap.size < w2.heap.size := by omega); (try have e_w_0 : ¬ w.heap.size = w2.heap.size := by omega); (try have d_w_0 : ¬ w2.heap.size = w.heap.size := by omega); (try (refine bcUse (n := w.heap.size) hb ?_ ?_; (focus ((try simp only [World.size_alloc, World.size_setCell, World.size_drew, World.heap_drewN]); omega)); intro _ _)); (try have h_w_1 : w.heap.size + 1 < w2.heap.size := by omega); (try have e_w_1 : ¬ w.heap.size + 1 = w2.heap.size := by omega); (try have d_w_1 : ¬ w2.heap.size = w.heap.size + 1 := by omega); (try (refine bcUse (n := w.heap.size + 1) hb ?_ ?_; (focus ((try simp only [World.size_alloc, World.size_setCell, World.size_drew, World.heap_drewN]); omega)); intro _ _)); (try have h_w_2 : w.heap.size + 2 < w2.heap.size := by omega); (try have e_w_2 : ¬ w.heap.size + 2 = w2.heap.size := by omega); (try have d_w_2 : ¬ w2.heap.size = w.heap.size + 2 := by omega); (try (refine bcUse (n := w.heap.size + 2) hb ?_ ?_; (focus ((try simp only [World.size_alloc, World.size_setCell, World.size_drew, World.heap_drewN]); omega)); intro _ _)); (try have h_w_3 : w.heap.size + 3 < w2.heap.size := by omega); (try have e_w_3 : ¬ w.heap.size + 3 = w2.heap.size := by omega); (try have d_w_3 : ¬ w2.heap.size = w.heap.size + 3 := by omega); (try (refine bcUse (n := w.heap.size + 3) hb ?_ ?_; (focus ((try simp only [World.size_alloc, World.size_setCell, World.size_drew, World.heap_drewN]); omega)); intro _ _)); (try have h_w1_0 : w1.heap.size < w2.heap.size := by omega); (try have e_w1_0 : ¬ w1.heap.size = w2.heap.size := by omega); (try have d_w1_0 : ¬ w2.heap.size = w1.heap.size := by omega); (try (refine bcUse (n := w1.heap.size) hb ?_ ?_; (focus ((try simp only [World.size_alloc, World.size_setCell, World.size_drew, World.heap_drewN]); omega)); intro _ _)); (try have h_w1_1 : w1.heap.size + 1 < w2.heap.size := by omega); (try have e_w1_1 : ¬ w1.heap.size + 1 = w2.heap.size := by omega); (try have d_w1_1 : ¬ w2.heap.size = w1.heap.size + 1 := by omega); (try (refine bcUse (n := w1.heap.size + 1) hb ?_ ?_; (focus ((try simp only [World.size_alloc, World.size_setCell, World.size_drew, World.heap_drewN]); omega)); intro _ _)))
  rw [rounds_succ]
  go_wp2
  refine bodyPost_ret (v := .tuple #[.agg #[.int .i64 0, .int .i64 0], .int .i64 11]) (by simp only [results, Tryd.results58]; go_simp) rfl ⟨rfl, ?_⟩
  (repeat' (first | (with_reducible exact Below.refl _ _) | (with_reducible assumption) | (with_reducible refine Below.call ?_ ?_ (by with_reducible assumption)) | (with_reducible refine Below.alloc ?_ ?_ _) | (with_reducible refine Below.drew ?_) | (with_reducible refine below_drewN ?_ _) | (with_reducible refine Below.setCell ?_ ?_ _) | (with_reducible exact Nat.le_refl _) | omega | (simp only [World.size_alloc, World.size_setCell, World.size_drew, World.heap_drewN] at *; omega)))
end Go.Proofs.YtmjdcabniefifaaDoor
