/- The contract of series.Part. -/
import Derived.Test.YtffnmfcaoldlhaaDoorWalkTrig
import Derived.Test.YtffnmfcaoldlhaaDoorWalkSer
import Derived.Test.YtffnmfcaoldlhaaDoorPlainPart
import Derived.Deep.QuietTactic
import Derived.BigQuiet
set_option linter.unusedVariables false
set_option linter.unusedSimpArgs false
namespace Go.Proofs.YtffnmfcaoldlhaaDoor
open Go.RowKit
theorem gr_bd {rate inst : Int} (r1 : -4000000000000000 ≤ rate) (r2 : rate ≤ 4000000000000000) (i1 : -400000000000000 ≤ inst) (i2 : inst ≤ 400000000000000) : -20000000000000000 ≤ grQ rate inst ∧ grQ rate inst ≤ 20000000000000000 ∧ 0 ≤ grR rate inst ∧ grR rate inst < 86400000000000 := by
  have n1 : (rate * inst).natAbs ≤ 4000000000000000 * 400000000000000 := by
    rw [Int.natAbs_mul]
    exact Nat.mul_le_mul (by omega) (by omega)
  unfold grQ grR
  omega
theorem Calls.belowOf {f : FuncId} {args : Array Value} {w : World} {v : Ending} (h : Calls Tryd.prog f args w fun e w' => e = v ∧ ∃ n, w' = w.drewN n) : Calls Tryd.prog f args w fun e w' => e = v ∧ Below w.heap.size w w' := by
  refine h.mono ?_
  rintro e w' ⟨he, n, rfl⟩
  exact ⟨he, below_drewN (Below.refl _ _) n⟩
set_option maxHeartbeats 1000000 in
theorem c_sPart (t : Tm) (inst : Int) (w : World) (ht : Tab w) (hok : TmOk t) (i1 : -400000000000000 ≤ inst) (i2 : inst ≤ 400000000000000) :
    Calls Tryd.prog 99 #[.agg #[.int .i64 t.amp, .int .i64 t.ph, .int .i64 t.rt], .int .i64 inst] w fun e w' => e = .returned (fl (partW t inst)) ∧ Below w.heap.size w w' := by
  obtain ⟨xr, x, q, Y, sq, p, e1, e2, e3, e4, e5, e6, e7, e8, e9, e10, e11, e12, -⟩ := part_run (inst := inst) hok
  rw [← e12]
  obtain ⟨a1, a2, p1, p2, r1, r2⟩ := hok
  obtain ⟨g1, g2, g3, g4⟩ := gr_bd r1 r2 i1 i2
  have HG := Lib.hid (fun w1 => c_grown t.rt inst w1 r1 r2 i1 i2)
  have HM := Lib.hid (fun w1 => c_mod (t.ph + grQ t.rt inst) 1000000000 w1 (by omega) (by omega) (by omega) (by omega))
  obtain ⟨q1, q2, d1, d2, d3⟩ := e3
  obtain ⟨xn, hn⟩ : ∃ z, fofI ((t.ph + grQ t.rt inst) % 1000000000) = z := ⟨_, rfl⟩
  obtain ⟨xg, hg⟩ : ∃ z, fofI (grR t.rt inst) = z := ⟨_, rfl⟩
  obtain ⟨xa, hxa⟩ : ∃ z, fofI t.amp = z := ⟨_, rfl⟩
  rw [hg] at e1
  rw [hn] at e2
  rw [hxa] at e11
  have f1 : floatOfInt .f64 ((t.ph + grQ t.rt inst) % 1000000000) = xn := hn
  have f2 : floatOfInt .f64 (grR t.rt inst) = xg := hg
  have f3 : floatOfInt .f64 t.amp = xa := hxa
  have r1' : ∀ t w, (binOp .quo t (.float .f64 xg) (.float .f64 4815374002031689728)).run Tryd.prog w = .ok (.float .f64 xr) w := hdiv e1
  have r2' := hadd e2
  have r3' : ∀ t w, (binOp .quo t (.float .f64 x) (.float .f64 4741671816366391296)).run Tryd.prog w = .ok (.float .f64 q1) w := hdiv d1
  have r4' : ∀ t w, (binOp .mul t (.float .f64 q1) (.float .f64 4611686018427387904)).run Tryd.prog w = .ok (.float .f64 q2) w := hmul d2
  have r5' : ∀ t w, (binOp .mul t (.float .f64 q2) (.float .f64 4614256656552045848)).run Tryd.prog w = .ok (.float .f64 q) w := hmul d3
  have r6' := hmul e11
  have HS := Lib.hid (fun w1 (h : Tab w1) => c_Sin w1 h e5 (by omega) e6 e9 e7 e8 (by grind))
  rw [e10] at HS
  have HT := Lib.hid ht
  clear e1 e2 e4 e5 e6 e7 e8 e9 e10 e11 e12 d1 d2 d3 hn hg hxa ht
  generalize grQ t.rt inst = gq at *
  generalize grR t.rt inst = gr at *
  have m0 := Int.emod_nonneg (t.ph + gq) (show (1000000000 : Int) ≠ 0 by omega)
  have m1 := Int.emod_lt_of_pos (t.ph + gq) (show (0 : Int) < 1000000000 by omega)
  have hgen := sgen; have hgen2 := sgen2; have hgen3 := sgen3; go_enter Tryd.func99, Tryd.ntmps99
  go_wp2_with (first | (go_at_call 100; (refine (Calls.belowOf (HG.out _)).mono ?_); rintro e w1 ⟨rfl, hb⟩; have hz := hb.size; (try simp only [World.size_alloc, World.size_setCell, World.size_drew, World.heap_drewN] at hz); (try have h_w_0 : w.heap.size < w1.heap.size := by omega); (try have e_w_0 : ¬ w.heap.size = w1.heap.size := by omega); (try have d_w_0 : ¬ w1.heap.size = w.heap.size := by omega); (try (refine bcUse (n := w.heap.size) hb ?_ ?_; (focus ((try simp only [World.size_alloc, World.size_setCell, World.size_drew, World.heap_drewN]); omega)); intro _ _))) | (go_at_call 61; (refine (Calls.belowOf (HM.out _)).mono ?_); rintro e w2 ⟨rfl, hb⟩; have hz := hb.size; (try simp only [World.size_alloc, World.size_setCell, World.size_drew, World.heap_drewN] at hz); (try have h_w_0 : w.heap.size < w2.heap.size := by omega); (try have e_w_0 : ¬ w.heap.size = w2.heap.size := by omega); (try have d_w_0 : ¬ w2.heap.size = w.heap.size := by omega); (try (refine bcUse (n := w.heap.size) hb ?_ ?_; (focus ((try simp only [World.size_alloc, World.size_setCell, World.size_drew, World.heap_drewN]); omega)); intro _ _)); (try have h_w1_0 : w1.heap.size < w2.heap.size := by omega); (try have e_w1_0 : ¬ w1.heap.size = w2.heap.size := by omega); (try have d_w1_0 : ¬ w2.heap.size = w1.heap.size := by omega); (try (refine bcUse (n := w1.heap.size) hb ?_ ?_; (focus ((try simp only [World.size_alloc, World.size_setCell, World.size_drew, World.heap_drewN]); omega)); intro _ _))))
  go_quiet ((go_at_call 89; exact Calls.quiet_of_same ((HS.out _ (HT.out.below (by (repeat' (first | (with_reducible exact Below.refl _ _) | (with_reducible assumption) | (with_reducible refine Below.call ?_ ?_ (by with_reducible assumption)) | (with_reducible refine Below.alloc ?_ ?_ _) | (with_reducible refine Below.drew ?_) | (with_reducible refine below_drewN ?_ _) | (with_reducible refine Below.setCell ?_ ?_ _) | (with_reducible exact Nat.le_refl _) | omega | (simp only [World.size_alloc, World.size_setCell, World.size_drew, World.heap_drewN] at *; omega)))))).mono (fun e w' ⟨h1, h2⟩ => ⟨h1, h2.symm⟩))))
  go_wp2
  go_ret
  refine ⟨rfl, ?_⟩
  (repeat' (first | (with_reducible exact Below.refl _ _) | (with_reducible assumption) | (with_reducible refine Below.call ?_ ?_ (by with_reducible assumption)) | (with_reducible refine Below.alloc ?_ ?_ _) | (with_reducible refine Below.drew ?_) | (with_reducible refine below_drewN ?_ _) | (with_reducible refine Below.setCell ?_ ?_ _) | (with_reducible exact Nat.le_refl _) | omega | (simp only [World.size_alloc, World.size_setCell, World.size_drew, World.heap_drewN] at *; omega)))
end Go.Proofs.YtffnmfcaoldlhaaDoor
