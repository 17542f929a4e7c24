/- The contract of series.slope. -/
import Derived.Test.YtffnmfcaoldlhaaDoorWkD
import Derived.Test.YtffnmfcaoldlhaaDoorWalkAt
import Derived.Test.YtffnmfcaoldlhaaDoorWalkArc
import Derived.Test.YtffnmfcaoldlhaaDoorPlainSlp2
set_option linter.unusedVariables false
set_option linter.unusedSimpArgs false
namespace Go.Proofs.YtffnmfcaoldlhaaDoor
open Go.RowKit
set_option maxRecDepth 100000 in
set_option maxHeartbeats 4000000 in
theorem c_slope (m r s : Int) (a : Option Addr) (cap : Nat) (l : List Tm) (w : World) (hc : l.length ≤ cap) (hs : TmSlice w a l) (hv : SumOk m r l s) :
    Calls Tryd.prog 77 #[sumV m r a l.length cap s] w fun e w' => e = .returned (.agg #[.int .i64 (slLo r l), .int .i64 (slHi r l)]) ∧ Below w.heap.size w w' := by
  have h40 := hv.len
  have h2 : (l.length : Int) ≤ 40 := by omega
  have HV := Lib.hid (fun k hk => (slp_run h40 hv.tm k hk).2.2.2.2)
  obtain ⟨g1, g2, g3, g4, g5, g6, -, -, -, -⟩ := slope_run h40 hv.tm hv.r1 hv.r2
  have HA1 := Lib.hid (fun w1 => c_AroundP g5 w1)
  have HA2 := Lib.hid (fun w1 => c_AroundP g6 w1)
  have f1 : floatOfInt .f64 r = fofI r := rfl
  have q1 : ∀ t w, (binOp .mul t (.float .f64 (slAt l l.length)) (.float .f64 4607182418800021912)).run Tryd.prog w = .ok (.float .f64 (slG l)) w := hmul g1
  have q2 : ∀ t w, (binOp .quo t (.float .f64 (fofI r)) (.float .f64 4696837146684686336)).run Tryd.prog w = .ok (.float .f64 (slM r)) w := hdiv g2
  have q3 := hsub g3
  have q4 := hadd g4
  have e1 : arLo (fsub (slM r) (slG l)) = slLo r l := rfl
  have e2 : arHi (fadd (slM r) (slG l)) = slHi r l := rfl
  have E1 := Lib.hid e1
  have E2 := Lib.hid e2
  have HP := Lib.hid hv.tm
  have HSL := Lib.hid hs
  clear hv g1 g2 g3 g4 g5 g6 hs e1 e2
  generalize fofI r = wr0 at *
  generalize slM r = mn at *
  generalize slG l = gg at *
  generalize fsub mn gg = lw at *
  generalize fadd mn gg = hw at *
  generalize slLo r l = lo at *
  generalize slHi r l = hi at *
  have p0 : ∀ w, (Instr.field 24 (.agg #[.int .i64 (arLo lw), .int .i64 (arHi lw)]) 0).run Tryd.prog w = .ok (.int .i64 (arLo lw)) w := fun _ => by kernel_rfl
  have p1 : ∀ w, (Instr.field 24 (.agg #[.int .i64 (arLo hw), .int .i64 (arHi hw)]) 1).run Tryd.prog w = .ok (.int .i64 (arHi hw)) w := fun _ => by kernel_rfl
  have hgen := sgen; have hgen2 := sgen2; have hgen3 := sgen3; go_enter Tryd.func77, Tryd.ntmps77
  go_wp2_with fail
  go_loopg [3, 10] l.length (fun gk x3 i wr => ∃ k : Nat, gk + k = l.length ∧ i = .int .i64 k ∧ x3 = .float .f64 (slAt l k) ∧ Below w.heap.size w wr ∧ SumAt wr w.heap.size m r a l.length cap s ∧ SpAt wr (w.heap.size + 1) 0 0)
  case atStart =>
    refine ⟨0, by omega, rfl, rfl, ?_, ?_, ?_⟩
    · (repeat' (first | (with_reducible exact Below.refl _ _) | (with_reducible assumption) | (with_reducible refine Below.call ?_ ?_ (by with_reducible assumption)) | (with_reducible refine Below.alloc ?_ ?_ _) | (with_reducible refine Below.drew ?_) | (with_reducible refine below_drewN ?_ _) | (with_reducible refine Below.setCell ?_ ?_ _) | (with_reducible exact Nat.le_refl _) | omega | (simp only [World.size_alloc, World.size_setCell, World.size_drew, World.heap_drewN] at *; omega)))
    · constructor <;> go_simp
    · constructor <;> go_simp
  case round =>
    obtain ⟨k, hk, rfl, rfl, hbel, hB, hR⟩ := hrel
    have hsz := hbel.size
    have lB := hB.lt
    have lR := hR.lt
    by_cases hlt : k < l.length
    · obtain ⟨b, off, ha, hb1, c0, c1, c2⟩ := (HSL.out.below (Nat.le_refl _) hbel) k hlt
      have ix1 := @ix_Tm a b off l.length cap k ha hlt
      have hp := HP.out l[k] (List.getElem_mem hlt)
      have hadd1 := hadd (HV.out k (by omega) hlt)
      obtain ⟨y1, y2, y3, y4, s1, s2, s3, s4, s5, -⟩ := sl_run hp
      have t1 : ∀ t w, (binOp .quo t (.float .f64 (fofI l[k].amp % 9223372036854775808)) (.float .f64 4741671816366391296)).run Tryd.prog w = .ok (.float .f64 y1) w := hdiv s1
      have t2 : ∀ t w, (binOp .mul t (.float .f64 y1) (.float .f64 (fofI l[k].rt % 9223372036854775808))).run Tryd.prog w = .ok (.float .f64 y2) w := hmul s2
      have t3 : ∀ t w, (binOp .quo t (.float .f64 y2) (.float .f64 4696837146684686336)).run Tryd.prog w = .ok (.float .f64 y3) w := hdiv s3
      have t4 : ∀ t w, (binOp .mul t (.float .f64 y3) (.float .f64 4611686018427387904)).run Tryd.prog w = .ok (.float .f64 y4) w := hmul s4
      have t5 : ∀ t w, (binOp .mul t (.float .f64 y4) (.float .f64 4614256656552045848)).run Tryd.prog w = .ok (.float .f64 (slW l[k])) w := hmul s5
      have HX1 := Lib.hid (fun w1 => c_absA (fofI_lt64 l[k].amp) w1)
      have HX2 := Lib.hid (fun w1 => c_absA (fofI_lt64 l[k].rt) w1)
      have v1 : floatOfInt .f64 l[k].amp = fofI l[k].amp := rfl
      have v2 : floatOfInt .f64 l[k].rt = fofI l[k].rt := rfl
      have HB := Lib.hid hB
      have HR := Lib.hid hR
      clear ha hp hB hR s1 s2 s3 s4 s5
      generalize slW l[k] = sw at *
      generalize fofI l[k].amp = wa at *
      generalize fofI l[k].rt = wt at *
      generalize l[k] = x at *
      generalize wa % 9223372036854775808 = wam at *
      generalize wt % 9223372036854775808 = wtm at *
      go_wp2_with fail
      go_quiet ((first | (go_at_call 101; exact Calls.quiet_of_same ((HX1.out _).mono (fun e w' ⟨h1, h2⟩ => ⟨h1, h2.symm⟩))) | (go_at_call 101; exact Calls.quiet_of_same ((HX2.out _).mono (fun e w' ⟨h1, h2⟩ => ⟨h1, h2.symm⟩)))))
      go_wp2
      go_roundg (l.length - (k + 1))
      case measure => omega
      case rel =>
        refine ⟨k + 1, by omega, by go_num, rfl, ?_, HB.out.below ?_, HR.out.below ?_⟩
        all_goals (repeat' (first | (with_reducible exact Below.refl _ _) | (with_reducible assumption) | (with_reducible refine Below.call ?_ ?_ (by with_reducible assumption)) | (with_reducible refine Below.alloc ?_ ?_ _) | (with_reducible refine Below.drew ?_) | (with_reducible refine below_drewN ?_ _) | (with_reducible refine Below.setCell ?_ ?_ _) | (with_reducible exact Nat.le_refl _) | omega | (simp only [World.size_alloc, World.size_setCell, World.size_drew, World.heap_drewN] at *; omega)))
    · have hkl : k = l.length := by omega
      rw [hkl]
      clear hkl HV
      obtain ⟨-, x0, x1, x2, x3⟩ := hB
      obtain ⟨-, z0, z1, z2, z3⟩ := hR
      go_wp2_with (first | (go_at_call 66; (with_reducible refine (HA1.out _).mono ?_); rintro e w3 ⟨rfl, hb⟩; have hz := hb.size; (try simp only [World.size_alloc, World.size_setCell, World.size_drew, World.heap_drewN] at hz); (try have h_wr_0 : wr.heap.size < w3.heap.size := by omega); (try have e_wr_0 : ¬ wr.heap.size = w3.heap.size := by omega); (try have d_wr_0 : ¬ w3.heap.size = wr.heap.size := by omega); (try (refine bcUse (n := wr.heap.size) hb ?_ ?_; (focus ((try simp only [World.size_alloc, World.size_setCell, World.size_drew, World.heap_drewN]); omega)); intro _ _)); (try have h_w_0 : w.heap.size < w3.heap.size := by omega); (try have e_w_0 : ¬ w.heap.size = w3.heap.size := by omega); (try have d_w_0 : ¬ w3.heap.size = w.heap.size := by omega); (try (refine bcUse (n := w.heap.size) hb ?_ ?_; (focus ((try simp only [World.size_alloc, World.size_setCell, World.size_drew, World.heap_drewN]); omega)); intro _ _)); (try have h_w_1 : w.heap.size + 1 < w3.heap.size := by omega); (try have e_w_1 : ¬ w.heap.size + 1 = w3.heap.size := by omega); (try have d_w_1 : ¬ w3.heap.size = w.heap.size + 1 := by omega); (try (refine bcUse (n := w.heap.size + 1) hb ?_ ?_; (focus ((try simp only [World.size_alloc, World.size_setCell, World.size_drew, World.heap_drewN]); omega)); intro _ _))) | (go_at_call 66; (with_reducible refine (HA2.out _).mono ?_); rintro e w4 ⟨rfl, hb⟩; have hz := hb.size; (try simp only [World.size_alloc, World.size_setCell, World.size_drew, World.heap_drewN] at hz); (try have h_wr_0 : wr.heap.size < w4.heap.size := by omega); (try have e_wr_0 : ¬ wr.heap.size = w4.heap.size := by omega); (try have d_wr_0 : ¬ w4.heap.size = wr.heap.size := by omega); (try (refine bcUse (n := wr.heap.size) hb ?_ ?_; (focus ((try simp only [World.size_alloc, World.size_setCell, World.size_drew, World.heap_drewN]); omega)); intro _ _)); (try have h_w_0 : w.heap.size < w4.heap.size := by omega); (try have e_w_0 : ¬ w.heap.size = w4.heap.size := by omega); (try have d_w_0 : ¬ w4.heap.size = w.heap.size := by omega); (try (refine bcUse (n := w.heap.size) hb ?_ ?_; (focus ((try simp only [World.size_alloc, World.size_setCell, World.size_drew, World.heap_drewN]); omega)); intro _ _)); (try have h_w_1 : w.heap.size + 1 < w4.heap.size := by omega); (try have e_w_1 : ¬ w.heap.size + 1 = w4.heap.size := by omega); (try have d_w_1 : ¬ w4.heap.size = w.heap.size + 1 := by omega); (try (refine bcUse (n := w.heap.size + 1) hb ?_ ?_; (focus ((try simp only [World.size_alloc, World.size_setCell, World.size_drew, World.heap_drewN]); omega)); intro _ _)); (try have h_w3_0 : w3.heap.size < w4.heap.size := by omega); (try have e_w3_0 : ¬ w3.heap.size = w4.heap.size := by omega); (try have d_w3_0 : ¬ w4.heap.size = w3.heap.size := by omega); (try (refine bcUse (n := w3.heap.size) hb ?_ ?_; (focus ((try simp only [World.size_alloc, World.size_setCell, World.size_drew, World.heap_drewN]); omega)); intro _ _))))
      rw [E1.out, E2.out]
      refine bodyPost_ret (v := .agg #[.int .i64 lo, .int .i64 hi]) (by simp only [results, Tryd.results77]; go_simp) rfl ⟨rfl, ?_⟩
      (repeat' (first | (with_reducible exact Below.refl _ _) | (with_reducible assumption) | (with_reducible refine Below.call ?_ ?_ (by with_reducible assumption)) | (with_reducible refine Below.alloc ?_ ?_ _) | (with_reducible refine Below.drew ?_) | (with_reducible refine below_drewN ?_ _) | (with_reducible refine Below.setCell ?_ ?_ _) | (with_reducible exact Nat.le_refl _) | omega | (simp only [World.size_alloc, World.size_setCell, World.size_drew, World.heap_drewN] at *; omega)))
end Go.Proofs.YtffnmfcaoldlhaaDoor
