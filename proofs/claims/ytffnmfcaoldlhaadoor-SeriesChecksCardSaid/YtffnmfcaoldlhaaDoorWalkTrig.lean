/- Contracts of trig.Around, sine, Sin and Cos. -/
import Derived.Test.YtffnmfcaoldlhaaDoorWalkSin
import Derived.Test.YtffnmfcaoldlhaaDoorWalkIntB
import Derived.Test.YtffnmfcaoldlhaaDoorPlainTrig2
set_option linter.unusedVariables false
set_option linter.unusedSimpArgs false
namespace Go.Proofs.YtffnmfcaoldlhaaDoor
open Go.RowKit
theorem c_radians {x q : Nat} (h : RadP x q) (w : World) : Calls Tryd.prog 90 #[fl x] w fun e w' => e = .returned (fl q) ∧ w = w' := by
  obtain ⟨q1, q2, h1, h2, h3⟩ := h
  have r1 : ∀ t w, (binOp .quo t (.float .f64 x) (.float .f64 4741671816366391296)).run Tryd.prog w = .ok (.float .f64 q1) w := hdiv h1
  have r2 : ∀ t w, (binOp .mul t (.float .f64 q1) (.float .f64 4611686018427387904)).run Tryd.prog w = .ok (.float .f64 q2) w := hmul h2
  have r3 : ∀ t w, (binOp .mul t (.float .f64 q2) (.float .f64 4614256656552045848)).run Tryd.prog w = .ok (.float .f64 q) w := hmul h3
  clear h1 h2 h3
  have hgen := sgen; have hgen2 := sgen2; have hgen3 := sgen3; go_enter Tryd.func90, Tryd.ntmps90
  go_wp2
  go_ret
  exact ⟨rfl, rfl⟩
theorem c_Around {v s1 s2 : Nat} {X1 X2 : Rat} {lo hi : Int} (h1 : Ieee.double.sub v wSl = some s1) (h2 : Ieee.double.add v wSl = some s2) (n1 : Num s1 X1) (n2 : Num s2 X2) (c1 : (Ieee.double.read (fflr s1)).toInt .zero = some lo) (c2 : (Ieee.double.read (fcei s2)).toInt .zero = some hi)
    (b1 : -4000000000000000 ≤ lo) (b2 : lo ≤ 4000000000000000) (b3 : -4000000000000000 ≤ hi) (b4 : hi ≤ 4000000000000000) (w : World) : Calls Tryd.prog 66 #[fl v] w fun e w' => e = .returned (.agg #[.int .i64 lo, .int .i64 hi]) ∧ Below w.heap.size w w' := by
  have r1 : ∀ t w, (binOp .sub t (.float .f64 v) (.float .f64 4562254508917369340)).run Tryd.prog w = .ok (.float .f64 s1) w := hsub h1
  have r2 : ∀ t w, (binOp .add t (.float .f64 v) (.float .f64 4562254508917369340)).run Tryd.prog w = .ok (.float .f64 s2) w := hadd h2
  have k1 := hcut c1 (by omega) (by omega)
  have k2 := hcut c2 (by omega) (by omega)
  have F := Lib.hid (fun w1 => c_floor n1 w1)
  have G := Lib.hid (fun w1 => c_ceil n2 w1)
  clear h1 h2 n1 n2 c1 c2
  have hgen := sgen; have hgen2 := sgen2; have hgen3 := sgen3; go_enter Tryd.func66, Tryd.ntmps66
  go_wp2_with (first | (go_at_call 93; refine (F.out _).mono ?_; rintro e w' ⟨rfl, rfl⟩) | (go_at_call 94; refine (G.out _).mono ?_; rintro e w' ⟨rfl, rfl⟩))
  refine bodyPost_ret (v := .agg #[.int .i64 lo, .int .i64 hi]) (by simp only [results, Tryd.results66]; go_simp) rfl ⟨rfl, ?_⟩
  (repeat' (first | (with_reducible exact Below.refl _ _) | (with_reducible assumption) | (with_reducible refine Below.call ?_ ?_ (by with_reducible assumption)) | (with_reducible refine Below.alloc ?_ ?_ _) | (with_reducible refine Below.drew ?_) | (with_reducible refine below_drewN ?_ _) | (with_reducible refine Below.setCell ?_ ?_ _) | (with_reducible exact Nat.le_refl _) | omega | (simp only [World.size_alloc, World.size_setCell, World.size_drew, World.heap_drewN] at *; omega)))
theorem c_clip (l h : Int) (w : World) : Calls Tryd.prog 88 #[.agg #[.int .i64 l, .int .i64 h]] w fun e w' => e = .returned (.agg #[.int .i64 (clipL l), .int .i64 (clipH h)]) ∧ Below w.heap.size w w' := by
  rcases (show l < -1000000000 ∨ (-1000000000 ≤ l ∧ l ≤ 1000000000) ∨ 1000000000 < l by omega) with h1 | ⟨h1, h1'⟩ | h1 <;> rcases (show h < -1000000000 ∨ (-1000000000 ≤ h ∧ h ≤ 1000000000) ∨ 1000000000 < h by omega) with h2 | ⟨h2, h2'⟩ | h2
  all_goals
    have E1 := Lib.hid (show clipL l = if l < -1000000000 then -1000000000 else if 1000000000 < l then 1000000000 else l by unfold clipL; omega)
    have E2 := Lib.hid (show clipH h = if 1000000000 < h then 1000000000 else if h < -1000000000 then -1000000000 else h by unfold clipH; omega)
    have hgen := sgen; have hgen2 := sgen2; have hgen3 := sgen3; go_enter Tryd.func88, Tryd.ntmps88
    go_wp2
    refine bodyPost_ret (v := .agg #[.int .i64 (clipL l), .int .i64 (clipH h)]) (by simp only [results, Tryd.results88]; rw [E1.out, E2.out]; (repeat (first | rw [if_pos (by omega)] | rw [if_neg (by omega)])); go_simp) rfl ⟨rfl, ?_⟩
    (repeat' (first | (with_reducible exact Below.refl _ _) | (with_reducible assumption) | (with_reducible refine Below.call ?_ ?_ (by with_reducible assumption)) | (with_reducible refine Below.alloc ?_ ?_ _) | (with_reducible refine Below.drew ?_) | (with_reducible refine below_drewN ?_ _) | (with_reducible refine Below.setCell ?_ ?_ _) | (with_reducible exact Nat.le_refl _) | omega | (simp only [World.size_alloc, World.size_setCell, World.size_drew, World.heap_drewN] at *; omega)))
theorem sine_q0 {a : Int} (h : a % 1000000000 = 0 ∨ a % 1000000000 = 500000000) : sineLo a = 0 ∧ sineHi a = 0 := by
  unfold sineLo sineHi; rw [if_pos h, if_pos h]; exact ⟨rfl, rfl⟩
theorem sine_q1 {a : Int} (h : a % 1000000000 = 250000000) : sineLo a = 1000000000 ∧ sineHi a = 1000000000 := by
  unfold sineLo sineHi; rw [if_neg (by omega), if_pos h, if_neg (by omega), if_pos h]; exact ⟨rfl, rfl⟩
theorem sine_q3 {a : Int} (h : a % 1000000000 = 750000000) : sineLo a = -1000000000 ∧ sineHi a = -1000000000 := by
  unfold sineLo sineHi; rw [if_neg (by omega), if_neg (by omega), if_pos h, if_neg (by omega), if_neg (by omega), if_pos h]; exact ⟨rfl, rfl⟩
theorem sine_off {a : Int} (h0 : ¬ a % 1000000000 = 0) (h1 : ¬ a % 1000000000 = 250000000) (h2 : ¬ a % 1000000000 = 500000000) (h3 : ¬ a % 1000000000 = 750000000) : sineLo a = clipL (arLo (sineV (a % 1000000000))) ∧ sineHi a = clipH (arHi (sineV (a % 1000000000))) := by
  unfold sineLo sineHi; rw [if_neg (by omega), if_neg h1, if_neg h3, if_neg (by omega), if_neg h1, if_neg h3]; exact ⟨rfl, rfl⟩
theorem c_sine (a : Int) (w : World) (ht : Tab w) (a1 : -9223372036854775808 ≤ a) (a2 : a ≤ 9223372036854775807) :
    Calls Tryd.prog 60 #[.int .i64 a] w fun e w' => e = .returned (.agg #[.int .i64 (sineLo a), .int .i64 (sineHi a)]) ∧ Below w.heap.size w w' := by
  have HM := Lib.hid (fun w1 => c_mod a 1000000000 w1 (by omega) a1 a2 (by omega))
  have m0 := Int.emod_nonneg a (show (1000000000 : Int) ≠ 0 by omega)
  have m1 := Int.emod_lt_of_pos a (show (0 : Int) < 1000000000 by omega)
  by_cases c0 : a % 1000000000 = 0
  · obtain ⟨l1, l2⟩ := sine_q0 (.inl c0)
    rw [l1, l2]
    rw [c0] at HM
    clear c0 m0 m1 l1 l2
    have hgen := sgen; have hgen2 := sgen2; have hgen3 := sgen3; go_enter Tryd.func60, Tryd.ntmps60
    go_wp2_with (go_at_call 61; refine (HM.out _).mono ?_; rintro e w' ⟨rfl, nn, rfl⟩)
    refine bodyPost_ret (v := .agg #[.int .i64 0, .int .i64 0]) (by simp only [results, Tryd.results60]; go_simp) rfl ⟨rfl, ?_⟩
    (repeat' (first | (with_reducible exact Below.refl _ _) | (with_reducible assumption) | (with_reducible refine Below.call ?_ ?_ (by with_reducible assumption)) | (with_reducible refine Below.alloc ?_ ?_ _) | (with_reducible refine Below.drew ?_) | (with_reducible refine below_drewN ?_ _) | (with_reducible refine Below.setCell ?_ ?_ _) | (with_reducible exact Nat.le_refl _) | omega | (simp only [World.size_alloc, World.size_setCell, World.size_drew, World.heap_drewN] at *; omega)))
  by_cases c2 : a % 1000000000 = 500000000
  · obtain ⟨l1, l2⟩ := sine_q0 (.inr c2)
    rw [l1, l2]
    rw [c2] at HM
    clear c0 c2 m0 m1 l1 l2
    have hgen := sgen; have hgen2 := sgen2; have hgen3 := sgen3; go_enter Tryd.func60, Tryd.ntmps60
    go_wp2_with (go_at_call 61; refine (HM.out _).mono ?_; rintro e w' ⟨rfl, nn, rfl⟩)
    refine bodyPost_ret (v := .agg #[.int .i64 0, .int .i64 0]) (by simp only [results, Tryd.results60]; go_simp) rfl ⟨rfl, ?_⟩
    (repeat' (first | (with_reducible exact Below.refl _ _) | (with_reducible assumption) | (with_reducible refine Below.call ?_ ?_ (by with_reducible assumption)) | (with_reducible refine Below.alloc ?_ ?_ _) | (with_reducible refine Below.drew ?_) | (with_reducible refine below_drewN ?_ _) | (with_reducible refine Below.setCell ?_ ?_ _) | (with_reducible exact Nat.le_refl _) | omega | (simp only [World.size_alloc, World.size_setCell, World.size_drew, World.heap_drewN] at *; omega)))
  by_cases c1 : a % 1000000000 = 250000000
  · obtain ⟨l1, l2⟩ := sine_q1 c1
    rw [l1, l2]
    rw [c1] at HM
    clear c0 c1 c2 m0 m1 l1 l2
    have hgen := sgen; have hgen2 := sgen2; have hgen3 := sgen3; go_enter Tryd.func60, Tryd.ntmps60
    go_wp2_with (go_at_call 61; refine (HM.out _).mono ?_; rintro e w' ⟨rfl, nn, rfl⟩)
    refine bodyPost_ret (v := .agg #[.int .i64 1000000000, .int .i64 1000000000]) (by simp only [results, Tryd.results60]; go_simp) rfl ⟨rfl, ?_⟩
    (repeat' (first | (with_reducible exact Below.refl _ _) | (with_reducible assumption) | (with_reducible refine Below.call ?_ ?_ (by with_reducible assumption)) | (with_reducible refine Below.alloc ?_ ?_ _) | (with_reducible refine Below.drew ?_) | (with_reducible refine below_drewN ?_ _) | (with_reducible refine Below.setCell ?_ ?_ _) | (with_reducible exact Nat.le_refl _) | omega | (simp only [World.size_alloc, World.size_setCell, World.size_drew, World.heap_drewN] at *; omega)))
  by_cases c3 : a % 1000000000 = 750000000
  · obtain ⟨l1, l2⟩ := sine_q3 c3
    rw [l1, l2]
    rw [c3] at HM
    clear c0 c1 c2 c3 m0 m1 l1 l2
    have hgen := sgen; have hgen2 := sgen2; have hgen3 := sgen3; go_enter Tryd.func60, Tryd.ntmps60
    go_wp2_with (go_at_call 61; refine (HM.out _).mono ?_; rintro e w' ⟨rfl, nn, rfl⟩)
    refine bodyPost_ret (v := .agg #[.int .i64 (-1000000000), .int .i64 (-1000000000)]) (by simp only [results, Tryd.results60]; go_simp) rfl ⟨rfl, ?_⟩
    (repeat' (first | (with_reducible exact Below.refl _ _) | (with_reducible assumption) | (with_reducible refine Below.call ?_ ?_ (by with_reducible assumption)) | (with_reducible refine Below.alloc ?_ ?_ _) | (with_reducible refine Below.drew ?_) | (with_reducible refine below_drewN ?_ _) | (with_reducible refine Below.setCell ?_ ?_ _) | (with_reducible exact Nat.le_refl _) | omega | (simp only [World.size_alloc, World.size_setCell, World.size_drew, World.heap_drewN] at *; omega)))
  obtain ⟨l1, l2⟩ := sine_off c0 c1 c2 c3
  rw [l1, l2]
  clear l1 l2
  generalize a % 1000000000 = b at *
  obtain ⟨q, Y, v, s1, s2, X1, X2, p1, p2, p3, p4, p5, p6, p7, p8, p9, p10, p11, p12, p13, p14, p15, p16, p17, p18, p19, -⟩ := sine_run b m0 (by omega)
  rw [← p9]
  have b0 : (b == 0) = false := by simp; exact c0
  have b1 : (b == 250000000) = false := by simp; exact c1
  have b2 : (b == 500000000) = false := by simp; exact c2
  have b3 : (b == 750000000) = false := by simp; exact c3
  have hS : ∀ n : Nat, Tab (w.drewN n) := fun n => ht.drew n
  obtain ⟨x, hx⟩ : ∃ x, fofI b = x := ⟨_, rfl⟩
  rw [hx] at p1
  have hfo : floatOfInt .f64 b = x := hx
  have HR := Lib.hid (fun w1 => c_radians p1 w1)
  have HS := Lib.hid (fun w1 (h : Tab w1) => c_Sin w1 h p3 (by omega) p4 p7 p5 p6 (by grind))
  have HV : ∀ t w, (binOp .mul t (.float .f64 4741671816366391296) (.float .f64 (sinW q))).run Tryd.prog w = .ok (.float .f64 v) w := hmul p8
  have HA := Lib.hid (fun w1 => c_Around p10 p11 p12 p13 p14 p15 p16 p17 p18 p19 w1)
  generalize sinW q = sq at *
  generalize arLo v = lo at *
  generalize arHi v = hi at *
  clear p1 p2 p3 p4 p5 p6 p7 p8 p9 p10 p11 p12 p13 p14 p15 p16 p17 p18 p19 hx c0 c1 c2 c3
  have HT := Lib.hid ht
  clear ht hS
  have hgen := sgen; have hgen2 := sgen2; have hgen3 := sgen3; go_enter Tryd.func60, Tryd.ntmps60
  go_wp2_with (first | (go_at_call 61; refine (HM.out _).mono ?_; rintro e w' ⟨rfl, nn, rfl⟩) | (go_at_call 90; refine (HR.out _).mono ?_; rintro e w' ⟨rfl, rfl⟩) | (go_at_call 89; refine (HS.out _ (HT.out.below (by (repeat' (first | (with_reducible exact Below.refl _ _) | (with_reducible assumption) | (with_reducible refine Below.call ?_ ?_ (by with_reducible assumption)) | (with_reducible refine Below.alloc ?_ ?_ _) | (with_reducible refine Below.drew ?_) | (with_reducible refine below_drewN ?_ _) | (with_reducible refine Below.setCell ?_ ?_ _) | (with_reducible exact Nat.le_refl _) | omega | (simp only [World.size_alloc, World.size_setCell, World.size_drew, World.heap_drewN] at *; omega)))))).mono ?_; rintro e w' ⟨rfl, rfl⟩) | (go_at_call 66; (refine (HA.out _).mono ?_); rintro e wa ⟨rfl, hb⟩; have hz := hb.size; (try simp only [World.size_alloc, World.size_setCell, World.size_drew, World.heap_drewN] at hz); (try have h_w_0 : w.heap.size < wa.heap.size := by omega); (try have e_w_0 : ¬ w.heap.size = wa.heap.size := by omega); (try have d_w_0 : ¬ wa.heap.size = w.heap.size := by omega); (try (refine bcUse (n := w.heap.size) hb ?_ ?_; (focus ((try simp only [World.size_alloc, World.size_setCell, World.size_drew, World.heap_drewN]); omega)); intro _ _))) | (go_at_call 88; (refine (c_clip _ _ _).mono ?_); rintro e wb ⟨rfl, hb⟩; have hz := hb.size; (try simp only [World.size_alloc, World.size_setCell, World.size_drew, World.heap_drewN] at hz); (try have h_w_0 : w.heap.size < wb.heap.size := by omega); (try have e_w_0 : ¬ w.heap.size = wb.heap.size := by omega); (try have d_w_0 : ¬ wb.heap.size = w.heap.size := by omega); (try (refine bcUse (n := w.heap.size) hb ?_ ?_; (focus ((try simp only [World.size_alloc, World.size_setCell, World.size_drew, World.heap_drewN]); omega)); intro _ _)); (try have h_wa_0 : wa.heap.size < wb.heap.size := by omega); (try have e_wa_0 : ¬ wa.heap.size = wb.heap.size := by omega); (try have d_wa_0 : ¬ wb.heap.size = wa.heap.size := by omega); (try (refine bcUse (n := wa.heap.size) hb ?_ ?_; (focus ((try simp only [World.size_alloc, World.size_setCell, World.size_drew, World.heap_drewN]); omega)); intro _ _))))
  refine bodyPost_ret (v := .agg #[.int .i64 (clipL lo), .int .i64 (clipH hi)]) (by simp only [results, Tryd.results60]; go_simp) rfl ⟨rfl, ?_⟩
  (repeat' (first | (with_reducible exact Below.refl _ _) | (with_reducible assumption) | (with_reducible refine Below.call ?_ ?_ (by with_reducible assumption)) | (with_reducible refine Below.alloc ?_ ?_ _) | (with_reducible refine Below.drew ?_) | (with_reducible refine below_drewN ?_ _) | (with_reducible refine Below.setCell ?_ ?_ _) | (with_reducible exact Nat.le_refl _) | omega | (simp only [World.size_alloc, World.size_setCell, World.size_drew, World.heap_drewN] at *; omega)))
end Go.Proofs.YtffnmfcaoldlhaaDoor
