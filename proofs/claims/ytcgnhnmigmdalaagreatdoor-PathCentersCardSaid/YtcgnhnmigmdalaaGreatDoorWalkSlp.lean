/- The contract of series.slope. -/
import Derived.Test.YtcgnhnmigmdalaaGreatDoorWkD
import Derived.Test.YtcgnhnmigmdalaaGreatDoorAtA
import Derived.Test.YtcgnhnmigmdalaaGreatDoorArA
import Derived.Test.YtcgnhnmigmdalaaGreatDoorSlA
set_option linter.unusedVariables false
set_option linter.unusedSimpArgs false
namespace Go.Proofs.YtcgnhnmigmdalaaGreatDoor
open Go.RowKit
set_option maxRecDepth 100000 in
set_option maxHeartbeats 4000000 in
theorem c_slope (m r s : Int) (a : Option Addr) (cap : Nat) (l : List Tm) (w : World) (hc : l.length ≤ cap) (hs : TmSlice w a l) (hv : SumOk m r l s) :
    Calls Tryz.prog 145 #[sumV m r a l.length cap s] w fun e w' => e = .returned (.agg #[.int .i64 (slLo r l), .int .i64 (slHi r l)]) ∧ Below w.heap.size w w' := by
  have h40 := hv.len
  have h2 : (l.length : Int) ≤ 40 := by omega
  have HV := Lib.hid (fun k hk => (slp_run h40 hv.tm k hk).2.2.2.2)
  obtain ⟨g1, g2, g3, g4, g5, g6, -, -, -, -⟩ := slope_run h40 hv.tm hv.r1 hv.r2
  have HA1 := Lib.hid (fun w1 => c_AroundP g5 w1)
  have HA2 := Lib.hid (fun w1 => c_AroundP g6 w1)
  have f1 : floatOfInt .f64 r = fofI r := rfl
  have q1 : ∀ t w, (binOp .mul t (.float .f64 (slAt l l.length)) (.float .f64 4607182418800021912)).run Tryz.prog w = .ok (.float .f64 (slG l)) w := hmul g1
  have q2 : ∀ t w, (binOp .quo t (.float .f64 (fofI r)) (.float .f64 4696837146684686336)).run Tryz.prog w = .ok (.float .f64 (slM r)) w := hdiv g2
  have q3 := hsub g3
  have q4 := hadd g4
  have e1 : arLo (fsub (slM r) (slG l)) = slLo r l := rfl
  have e2 : arHi (fadd (slM r) (slG l)) = slHi r l := rfl
  have E1 := Lib.hid e1
  have E2 := Lib.hid e2
  have HP := Lib.hid hv.tm
  have HSL := Lib.hid hs
  clear hv g1 g2 g3 g4 g5 g6 hs e1 e2
  generalize fofI r = wr0 at *
  generalize slM r = mn at *
  generalize slG l = gg at *
  generalize fsub mn gg = lw at *
  generalize fadd mn gg = hw at *
  generalize slLo r l = lo at *
  generalize slHi r l = hi at *
  have p0 : ∀ w, (Instr.field 27 (.agg #[.int .i64 (arLo lw), .int .i64 (arHi lw)]) 0).run Tryz.prog w = .ok (.int .i64 (arLo lw)) w := fun _ => by kernel_rfl
  have p1 : ∀ w, (Instr.field 27 (.agg #[.int .i64 (arLo hw), .int .i64 (arHi hw)]) 1).run Tryz.prog w = .ok (.int .i64 (arHi hw)) w := fun _ => by kernel_rfl
  have hgen := sgen; have hgen2 := sgen2; have hgen3 := sgen3; go_enter Tryz.func145, Tryz.ntmps145
  go_wp2_with fail
  go_loopg [3, 10] l.length (fun gk x3 i wr => ∃ k : Nat, gk + k = l.length ∧ i = .int .i64 k ∧ x3 = .float .f64 (slAt l k) ∧ Below w.heap.size w wr ∧ SumAt wr w.heap.size m r a l.length cap s ∧ SpAt wr (w.heap.size + 1) 0 0)
  case atStart =>
    refine ⟨0, by omega, rfl, rfl, ?_, ?_, ?_⟩
    · exact belz
    · constructor <;> go_simp
    · constructor <;> go_simp
  case round =>
    obtain ⟨k, hk, rfl, rfl, hbel, hB, hR⟩ := hrel
    have hsz := hbel.size
    have lB := hB.lt
    have lR := hR.lt
    by_cases hlt : k < l.length
    · obtain ⟨b, off, ha, hb1, c0, c1, c2⟩ := (HSL.out.below (Nat.le_refl _) hbel) k hlt
      have ix1 := @ix_Tm a b off l.length cap k ha hlt
      have hp := HP.out l[k] (List.getElem_mem hlt)
      have hadd1 := hadd (HV.out k (by omega) hlt)
      obtain ⟨y1, y2, y3, y4, s1, s2, s3, s4, s5, -⟩ := sl_run hp
      have t1 : ∀ t w, (binOp .quo t (.float .f64 (fofI l[k].amp % 9223372036854775808)) (.float .f64 4741671816366391296)).run Tryz.prog w = .ok (.float .f64 y1) w := hdiv s1
      have t2 : ∀ t w, (binOp .mul t (.float .f64 y1) (.float .f64 (fofI l[k].rt % 9223372036854775808))).run Tryz.prog w = .ok (.float .f64 y2) w := hmul s2
      have t3 : ∀ t w, (binOp .quo t (.float .f64 y2) (.float .f64 4696837146684686336)).run Tryz.prog w = .ok (.float .f64 y3) w := hdiv s3
      have t4 : ∀ t w, (binOp .mul t (.float .f64 y3) (.float .f64 4611686018427387904)).run Tryz.prog w = .ok (.float .f64 y4) w := hmul s4
      have t5 : ∀ t w, (binOp .mul t (.float .f64 y4) (.float .f64 4614256656552045848)).run Tryz.prog w = .ok (.float .f64 (slW l[k])) w := hmul s5
      have HX1 := Lib.hid (fun w1 => c_absA (fofI_lt64 l[k].amp) w1)
      have HX2 := Lib.hid (fun w1 => c_absA (fofI_lt64 l[k].rt) w1)
      have v1 : floatOfInt .f64 l[k].amp = fofI l[k].amp := rfl
      have v2 : floatOfInt .f64 l[k].rt = fofI l[k].rt := rfl
      have HB := Lib.hid hB
      have HR := Lib.hid hR
      clear ha hp hB hR s1 s2 s3 s4 s5
      generalize slW l[k] = sw at *
      generalize fofI l[k].amp = wa at *
      generalize fofI l[k].rt = wt at *
      generalize l[k] = x at *
      generalize wa % 9223372036854775808 = wam at *
      generalize wt % 9223372036854775808 = wtm at *
      go_wp2_with fail
      go_quiet ((first | (go_at_call 156; exact Calls.quiet_of_same ((HX1.out _).mono (fun e w' ⟨h1, h2⟩ => ⟨h1, h2.symm⟩))) | (go_at_call 156; exact Calls.quiet_of_same ((HX2.out _).mono (fun e w' ⟨h1, h2⟩ => ⟨h1, h2.symm⟩)))))
      go_wp2
      go_roundg (l.length - (k + 1))
      case measure => omega
      case rel =>
        refine ⟨k + 1, by omega, by go_num, rfl, ?_, HB.out.below ?_, HR.out.below ?_⟩
        all_goals exact belz
    · have hkl : k = l.length := by omega
      rw [hkl]
      clear hkl HV
      obtain ⟨-, x0, x1, x2, x3⟩ := hB
      obtain ⟨-, z0, z1, z2, z3⟩ := hR
      go_wp2_with (first | (go_at_call 94; (with_reducible refine (HA1.out _).mono ?_); rintro e w3 ⟨rfl, hb⟩; have hz := hb.size; (try simp only [szA, szS, szD, szN] at hz); (try (refine bcB (n := wr.heap.size) hb ?_; intro h_wr_0 e_wr_0 d_wr_0 _ _)); (try (refine bcB (n := w.heap.size) hb ?_; intro h_w_0 e_w_0 d_w_0 _ _)); (try (refine bcB (n := w.heap.size + 1) hb ?_; intro h_w_1 e_w_1 d_w_1 _ _))) | (go_at_call 94; (with_reducible refine (HA2.out _).mono ?_); rintro e w4 ⟨rfl, hb⟩; have hz := hb.size; (try simp only [szA, szS, szD, szN] at hz); (try (refine bcB (n := wr.heap.size) hb ?_; intro h_wr_0 e_wr_0 d_wr_0 _ _)); (try (refine bcB (n := w.heap.size) hb ?_; intro h_w_0 e_w_0 d_w_0 _ _)); (try (refine bcB (n := w.heap.size + 1) hb ?_; intro h_w_1 e_w_1 d_w_1 _ _)); (try (refine bcB (n := w3.heap.size) hb ?_; intro h_w3_0 e_w3_0 d_w3_0 _ _))))
      rw [E1.out, E2.out]
      refine bodyPost_ret (v := .agg #[.int .i64 lo, .int .i64 hi]) (by simp only [results, Tryz.results145]; go_simp) rfl ⟨rfl, ?_⟩
      exact belz
end Go.Proofs.YtcgnhnmigmdalaaGreatDoor
