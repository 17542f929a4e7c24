/- The contracts of trig.arcSine, ArcSin, and of the reference's FromUnit and InArcSin. -/
import Derived.Test.YtmjdcabniefifaaDoorWalkIA
import Derived.Test.YtmjdcabniefifaaDoorTrD
set_option linter.unusedVariables false
set_option linter.unusedSimpArgs false
namespace Go.Proofs.YtmjdcabniefifaaDoor
open Go.RowKit
set_option maxHeartbeats 1000000 in
theorem c_arcSine (a : Int) (w : World) (h : AsinP (cl9 a) (asinW (cl9 a))) : Calls Tryd.prog 76 #[.int .i64 a] w fun e w' => e = .returned (fl (asinW (cl9 a))) ∧ w = w' := by
  obtain ⟨x, X, r, d, f1, f2, f3, f4, f5, f6, f7, f8, f9, f10⟩ := h
  obtain ⟨n1, n2⟩ := cl9_rng a
  have e1 : min (max a (-1000000000)) 1000000000 = cl9 a := rfl
  have HQ := Lib.hid (fun w1 => c_Sqrt f1 w1)
  have HX := Lib.hid (fun w1 => c_Atan2 f3 f4 (fofI_lt64 (cl9 a)) f2 f5 f6 f7 f8 w1)
  have r1 : ∀ t w, (binOp .quo t (.float .f64 r) (.float .f64 4618760256179416344)).run Tryd.prog w = .ok (.float .f64 d) w := hdiv f9
  have r2 : ∀ t w, (binOp .mul t (.float .f64 d) (.float .f64 4741671816366391296)).run Tryd.prog w = .ok (.float .f64 (asinW (cl9 a))) w := hmul f10
  have hmm : (1000000000 - cl9 a) * (1000000000 + cl9 a) = 1000000000000000000 - cl9 a * cl9 a := by grind
  have mq : (0 : Int) ≤ cl9 a * cl9 a := by
    by_cases q : 0 ≤ cl9 a
    · exact Int.mul_nonneg q q
    · have := Int.mul_nonneg (show 0 ≤ -cl9 a by omega) (show 0 ≤ -cl9 a by omega); grind
  have m0 : 0 ≤ (1000000000 - cl9 a) * (1000000000 + cl9 a) := Int.mul_nonneg (by omega) (by omega)
  generalize asinW (cl9 a) = f at *
  generalize cl9 a = n at *
  obtain ⟨yw, hyw⟩ : ∃ z, fofI n = z := ⟨_, rfl⟩
  obtain ⟨xw, hxw⟩ : ∃ z, fofI ((1000000000 - n) * (1000000000 + n)) = z := ⟨_, rfl⟩
  rw [hyw] at HX
  rw [hxw] at HQ
  have z1 : IntKind.i64.wrap ((1000000000 - n) * (1000000000 + n)) = (1000000000 - n) * (1000000000 + n) := by rw [IntKind.wrap_i64]; omega
  have k1 : floatOfInt .f64 n = yw := hyw
  have k2 : floatOfInt .f64 ((1000000000 - n) * (1000000000 + n)) = xw := hxw
  clear f1 f2 f3 f4 f5 f6 f7 f8 f9 f10 hmm mq m0 hyw hxw
  have hgen := sgen; have hgen2 := sgen2; have hgen3 := sgen3; go_enter Tryd.func76, Tryd.ntmps76
  go_wp2_with (first | (go_at_call 89; refine (HQ.out _).mono ?_; rintro e w' ⟨rfl, rfl⟩) | (go_at_call 86; refine (HX.out _).mono ?_; rintro e w' ⟨rfl, rfl⟩))
  go_ret
  exact ⟨rfl, rfl⟩
theorem c_ArcSin_bad (lo hi : Int) (w : World) (h : spanErr lo hi ≠ 0) : Calls Tryd.prog 59 #[.agg #[.int .i64 lo, .int .i64 hi]] w fun e w' => e = .returned (.tuple #[.agg #[.int .i64 0, .int .i64 0], .int .i64 (spanErr lo hi)]) ∧ Below w.heap.size w w' := by
  have HC := Lib.hid (fun w1 => c_intervalCheck lo hi w1)
  have b1 : (spanErr lo hi != 0) = true := by simp; exact h
  have b0 : (spanErr lo hi == 0) = false := by simp; exact h
  clear h
  generalize spanErr lo hi = ee at *
  have hgen := sgen; have hgen2 := sgen2; have hgen3 := sgen3; go_enter Tryd.func59, Tryd.ntmps59
  go_wp2_with (go_at_call 43; (refine (HC.out _).mono ?_); rintro e w1 ⟨rfl, hb⟩; have hz := hb.size; (try simp only [World.size_alloc, World.size_setCell, World.size_drew, World.heap_drewN] at hz); (try have h_w_0 : w.heap.size < w1.heap.size := by omega); (try have e_w_0 : ¬ w.heap.size = w1.heap.size := by omega); (try have d_w_0 : ¬ w1.heap.size = w.heap.size := by omega); (try (refine bcUse (n := w.heap.size) hb ?_ ?_; (focus ((try simp only [World.size_alloc, World.size_setCell, World.size_drew, World.heap_drewN]); omega)); intro _ _)); (try have h_w_1 : w.heap.size + 1 < w1.heap.size := by omega); (try have e_w_1 : ¬ w.heap.size + 1 = w1.heap.size := by omega); (try have d_w_1 : ¬ w1.heap.size = w.heap.size + 1 := by omega); (try (refine bcUse (n := w.heap.size + 1) hb ?_ ?_; (focus ((try simp only [World.size_alloc, World.size_setCell, World.size_drew, World.heap_drewN]); omega)); intro _ _)))
  refine bodyPost_ret (v := .tuple #[.agg #[.int .i64 0, .int .i64 0], .int .i64 ee]) (by simp only [results, Tryd.results59]; go_simp) rfl ⟨rfl, ?_⟩
  (repeat' (first | (with_reducible exact Below.refl _ _) | (with_reducible assumption) | (with_reducible refine Below.call ?_ ?_ (by with_reducible assumption)) | (with_reducible refine Below.alloc ?_ ?_ _) | (with_reducible refine Below.drew ?_) | (with_reducible refine below_drewN ?_ _) | (with_reducible refine Below.setCell ?_ ?_ _) | (with_reducible exact Nat.le_refl _) | omega | (simp only [World.size_alloc, World.size_setCell, World.size_drew, World.heap_drewN] at *; omega)))
set_option maxRecDepth 100000 in
set_option maxHeartbeats 4000000 in
theorem c_ArcSin_ok (lo hi : Int) (w : World) (h : spanErr lo hi = 0) : Calls Tryd.prog 59 #[.agg #[.int .i64 lo, .int .i64 hi]] w fun e w' => e = .returned (.tuple #[.agg #[.int .i64 (asLo lo), .int .i64 (asHi hi)], .int .i64 0]) ∧ Below w.heap.size w w' := by
  have HC := Lib.hid (fun w1 => c_intervalCheck lo hi w1)
  rw [h] at HC
  obtain ⟨p1, D1, -, -, a1, -⟩ := asin_run (cl9 lo) (cl9_rng lo).1 (cl9_rng lo).2
  obtain ⟨p2, D2, -, -, a2, -⟩ := asin_run (cl9 hi) (cl9_rng hi).1 (cl9_rng hi).2
  have HA1 := Lib.hid (fun w1 => c_arcSine lo w1 p1)
  have HA2 := Lib.hid (fun w1 => c_arcSine hi w1 p2)
  have HR1 := Lib.hid (fun w1 => c_AroundP a1 w1)
  have HR2 := Lib.hid (fun w1 => c_AroundP a2 w1)
  have e1 : max (arLo (asinW (cl9 lo))) (-250000000) = asLo lo := rfl
  have e2 : min (arHi (asinW (cl9 hi))) 250000000 = asHi hi := rfl
  have E1 := Lib.hid e1
  have E2 := Lib.hid e2
  clear h p1 p2 a1 a2 e1 e2
  generalize asinW (cl9 lo) = v1 at *
  generalize asinW (cl9 hi) = v2 at *
  generalize asLo lo = ra at *
  generalize asHi hi = rb at *
  have q0 : ∀ w, (Instr.field 26 (.agg #[.int .i64 (arLo v1), .int .i64 (arHi v1)]) 0).run Tryd.prog w = .ok (.int .i64 (arLo v1)) w := fun _ => by kernel_rfl
  have q1 : ∀ w, (Instr.field 26 (.agg #[.int .i64 (arLo v2), .int .i64 (arHi v2)]) 1).run Tryd.prog w = .ok (.int .i64 (arHi v2)) w := fun _ => by kernel_rfl
  have hgen := sgen; have hgen2 := sgen2; have hgen3 := sgen3; go_enter Tryd.func59, Tryd.ntmps59
  go_upto_region 4 with (go_at_call 43; (refine (HC.out _).mono ?_); rintro e w1 ⟨rfl, hb⟩; have hz := hb.size; (try simp only [World.size_alloc, World.size_setCell, World.size_drew, World.heap_drewN] at hz); (try have h_w_0 : w.heap.size < w1.heap.size := by omega); (try have e_w_0 : ¬ w.heap.size = w1.heap.size := by omega); (try have d_w_0 : ¬ w1.heap.size = w.heap.size := by omega); (try (refine bcUse (n := w.heap.size) hb ?_ ?_; (focus ((try simp only [World.size_alloc, World.size_setCell, World.size_drew, World.heap_drewN]); omega)); intro _ _)); (try have h_w_1 : w.heap.size + 1 < w1.heap.size := by omega); (try have e_w_1 : ¬ w.heap.size + 1 = w1.heap.size := by omega); (try have d_w_1 : ¬ w1.heap.size = w.heap.size + 1 := by omega); (try (refine bcUse (n := w.heap.size + 1) hb ?_ ?_; (focus ((try simp only [World.size_alloc, World.size_setCell, World.size_drew, World.heap_drewN]); omega)); intro _ _)))
  go_region_held3 (fun w' => w'.cell? ⟨w.heap.size, 0, none⟩ = some (.int .i64 lo) ∧ w'.cell? ⟨w.heap.size, 1, none⟩ = some (.int .i64 hi)) (refine ⟨?_, ?_⟩ <;> (first | (go_simp; done) | go_keep)) (first | (go_at_call 76; (first | (with_reducible refine (HA1.out _).mono ?_) | (with_reducible refine (HA2.out _).mono ?_)); rintro e w' ⟨rfl, rfl⟩) | (go_at_call 75; (with_reducible refine (HR1.out _).mono ?_); rintro e w2 ⟨rfl, hb⟩; have hz := hb.size; (try simp only [World.size_alloc, World.size_setCell, World.size_drew, World.heap_drewN] at hz); (try have h_w_0 : w.heap.size < w2.heap.size := by omega); (try have e_w_0 : ¬ w.heap.size = w2.heap.size := by omega); (try have d_w_0 : ¬ w2.heap.size = w.heap.size := by omega); (try (refine bcUse (n := w.heap.size) hb ?_ ?_; (focus ((try simp only [World.size_alloc, World.size_setCell, World.size_drew, World.heap_drewN]); omega)); intro _ _)); (try have h_w_1 : w.heap.size + 1 < w2.heap.size := by omega); (try have e_w_1 : ¬ w.heap.size + 1 = w2.heap.size := by omega); (try have d_w_1 : ¬ w2.heap.size = w.heap.size + 1 := by omega); (try (refine bcUse (n := w.heap.size + 1) hb ?_ ?_; (focus ((try simp only [World.size_alloc, World.size_setCell, World.size_drew, World.heap_drewN]); omega)); intro _ _)); (try have h_w1_0 : w1.heap.size < w2.heap.size := by omega); (try have e_w1_0 : ¬ w1.heap.size = w2.heap.size := by omega); (try have d_w1_0 : ¬ w2.heap.size = w1.heap.size := by omega); (try (refine bcUse (n := w1.heap.size) hb ?_ ?_; (focus ((try simp only [World.size_alloc, World.size_setCell, World.size_drew, World.heap_drewN]); omega)); intro _ _)); (try have h_w3_0 : w3.heap.size < w2.heap.size := by omega); (try have e_w3_0 : ¬ w3.heap.size = w2.heap.size := by omega); (try have d_w3_0 : ¬ w2.heap.size = w3.heap.size := by omega); (try (refine bcUse (n := w3.heap.size) hb ?_ ?_; (focus ((try simp only [World.size_alloc, World.size_setCell, World.size_drew, World.heap_drewN]); omega)); intro _ _))) | (go_at_call 75; (with_reducible refine (HR2.out _).mono ?_); rintro e w3 ⟨rfl, hb⟩; have hz := hb.size; (try simp only [World.size_alloc, World.size_setCell, World.size_drew, World.heap_drewN] at hz); (try have h_w_0 : w.heap.size < w3.heap.size := by omega); (try have e_w_0 : ¬ w.heap.size = w3.heap.size := by omega); (try have d_w_0 : ¬ w3.heap.size = w.heap.size := by omega); (try (refine bcUse (n := w.heap.size) hb ?_ ?_; (focus ((try simp only [World.size_alloc, World.size_setCell, World.size_drew, World.heap_drewN]); omega)); intro _ _)); (try have h_w_1 : w.heap.size + 1 < w3.heap.size := by omega); (try have e_w_1 : ¬ w.heap.size + 1 = w3.heap.size := by omega); (try have d_w_1 : ¬ w3.heap.size = w.heap.size + 1 := by omega); (try (refine bcUse (n := w.heap.size + 1) hb ?_ ?_; (focus ((try simp only [World.size_alloc, World.size_setCell, World.size_drew, World.heap_drewN]); omega)); intro _ _)); (try have h_w1_0 : w1.heap.size < w3.heap.size := by omega); (try have e_w1_0 : ¬ w1.heap.size = w3.heap.size := by omega); (try have d_w1_0 : ¬ w3.heap.size = w1.heap.size := by omega); (try (refine bcUse (n := w1.heap.size) hb ?_ ?_; (focus ((try simp only [World.size_alloc, World.size_setCell, World.size_drew, World.heap_drewN]); omega)); intro _ _)); (try have h_w2_0 : w2.heap.size < w3.heap.size := by omega); (try have e_w2_0 : ¬ w2.heap.size = w3.heap.size := by omega); (try have d_w2_0 : ¬ w3.heap.size = w2.heap.size := by omega); (try (refine bcUse (n := w2.heap.size) hb ?_ ?_; (focus ((try simp only [World.size_alloc, World.size_setCell, World.size_drew, World.heap_drewN]); omega)); intro _ _))))
  all_goals (go_wp2_with fail)
  all_goals rw [← E1.out, ← E2.out]
  all_goals refine bodyPost_ret (v := .tuple #[.agg #[.int .i64 (max (arLo v1) (-250000000)), .int .i64 (min (arHi v2) 250000000)], .int .i64 0]) (by simp only [results, Tryd.results59]; go_simp) rfl ⟨rfl, ?_⟩
  all_goals (repeat' (first | (with_reducible exact Below.refl _ _) | (with_reducible assumption) | (with_reducible refine Below.call ?_ ?_ (by with_reducible assumption)) | (with_reducible refine Below.alloc ?_ ?_ _) | (with_reducible refine Below.drew ?_) | (with_reducible refine below_drewN ?_ _) | (with_reducible refine Below.setCell ?_ ?_ _) | (with_reducible exact Nat.le_refl _) | omega | (simp only [World.size_alloc, World.size_setCell, World.size_drew, World.heap_drewN] at *; omega)))
end Go.Proofs.YtmjdcabniefifaaDoor
