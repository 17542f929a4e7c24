/- The contracts of the astrolabe. -/
import Derived.Test.YtjkhoepohiafeaaDoorPlainAst3
import Derived.Test.YtjkhoepohiafeaaDoorWalkCos
import Derived.Test.YtjkhoepohiafeaaDoorWkC
import Derived.Test.YtjkhoepohiafeaaDoorArA
import Derived.Test.YtjkhoepohiafeaaDoorWalkSva
import Derived.Deep.RegionHeld3
import Derived.Deep.DeepCutAuto
set_option linter.unusedVariables false
set_option linter.unusedSimpArgs false
namespace Go.Proofs.YtjkhoepohiafeaaDoor
open Go.RowKit
theorem c_aRad {a : Int} {q : Nat} {Y : Rat} (h : AngW a q Y) (w : World) : Calls Tryd.prog 65 #[.int .i64 a] w fun e w' => e = .returned (fl q) ∧ w = w' := by
  obtain ⟨q1, q2, h1, h2, h3⟩ := h.r
  obtain ⟨xa, hxa⟩ : ∃ z, fofI a = z := ⟨_, rfl⟩
  rw [hxa] at h1
  have r0 : floatOfInt .f64 a = xa := hxa
  have r1 : ∀ t w, (binOp .quo t (.float .f64 xa) (.float .f64 4741671816366391296)).run Tryd.prog w = .ok (.float .f64 q1) w := hdiv h1
  have r2 : ∀ t w, (binOp .mul t (.float .f64 q1) (.float .f64 4611686018427387904)).run Tryd.prog w = .ok (.float .f64 q2) w := hmul h2
  have r3 : ∀ t w, (binOp .mul t (.float .f64 q2) (.float .f64 4614256656552045848)).run Tryd.prog w = .ok (.float .f64 q) w := hmul h3
  clear h1 h2 h3 hxa h
  have hgen := sgen; have hgen2 := sgen2; have hgen3 := sgen3; go_enter Tryd.func65, Tryd.ntmps65
  go_wp2
  go_ret
  exact ⟨rfl, rfl⟩
/-- What is told of the three calls at an angle. -/
structure AngC (a : Int) (q : Nat) : Prop where
  r : ∀ w : World, Calls Tryd.prog 65 #[.int .i64 a] w fun e w' => e = .returned (fl q) ∧ w = w'
  c : ∀ w : World, Tab w → Calls Tryd.prog 64 #[fl q] w fun e w' => e = .returned (fl (cosA a)) ∧ w = w'
theorem ang_c {a : Int} (h0 : -1000000000 ≤ a) (h1 : a ≤ 1000000000) : ∃ q, AngC a q ∧ (-200000000 ≤ a → ∀ w : World, Tab w → Calls Tryd.prog 66 #[fl q] w fun e w' => e = .returned (fl (sinA a)) ∧ w = w') := by
  obtain ⟨q, Y, k⟩ := angW_ex a h0 h1
  have lim : rabs (angU a) ≤ 7 := by
    have l := angU_le h0
    have u := angU_le h1
    have b : angU 1000000000 ≤ 7 ∧ -7 ≤ angU (-1000000000) := by decide +kernel
    exact rabs_le.2 ⟨by grind, by grind⟩
  refine ⟨q, ⟨c_aRad k, fun w hT => ?_⟩, fun hs w hT => ?_⟩
  · unfold cosA
    rw [k.e]
    exact c_Cos w hT k.n k.lt (abs_ap k.lt k.ap) (rabs_nonneg _) lim (by decide +kernel)
  · unfold sinA
    rw [k.e]
    by_cases hn : a < 0
    · rw [if_pos hn]
      have l := angU_le hs
      have u := angU_le (show a ≤ -1 by omega)
      have b : angU (-1) ≤ -(6 / 1000000000) ∧ -(13/10) ≤ angU (-200000000) := by decide +kernel
      obtain ⟨Z, n, h2, h3⟩ := k.ap.num
      have e := k.n.uniq n
      exact c_SinN w hT k.n k.lt (by grind) (fneg_ap k.ap) (by grind) (by grind) (by decide +kernel)
    · rw [if_neg hn]
      have l := angU_le (show 0 ≤ a by omega)
      have u := angU_le h1
      have b : angU 0 = 0 ∧ angU 1000000000 ≤ 7 := by decide +kernel
      have q63 : q < 9223372036854775808 := by
        have hx63 := fofI_lt63 a (by omega)
        have hn := fofI_num a (by omega) (by omega)
        have r0 : (0 : Rat) ≤ (a : Rat) := by exact_mod_cast (show 0 ≤ a by omega)
        have r1 := icast h1
        have c1 : ((1000000000 : Int) : Rat) = 1000000000 := rfl
        rw [c1] at r1
        exact rad_lt63 hx63 hn.ap r0 r1 (by decide +kernel) k.r
      exact c_Sin w hT k.n k.lt (num_nn q63 k.n) k.ap (by grind) (by grind) (by decide +kernel)
theorem c_aRadius {dec : Int} (w : World) (hT : Tab w) (h0 : -195000000 ≤ dec) (h1 : dec ≤ 250000000) : Calls Tryd.prog 60 #[.int .i64 dec] w fun e w' => e = .returned (fl (radiusW dec)) ∧ w = w' := by
  obtain ⟨q, hc, hs⟩ := ang_c (a := dec) (by omega) (by omega)
  have hs := hs (by omega) w hT
  obtain ⟨hr, hc⟩ := hc
  have hc := hc w hT
  obtain ⟨⟨n, d, g1, g2, g3⟩, -⟩ := radius_run h0 h1
  have r1 : ∀ t w, (binOp .mul t (.float .f64 4696837146684686336) (.float .f64 (cosA dec))).run Tryd.prog w = .ok (.float .f64 n) w := hmul g1
  have r2 : ∀ t w, (binOp .add t (.float .f64 4607182418800017408) (.float .f64 (sinA dec))).run Tryd.prog w = .ok (.float .f64 d) w := hadd g2
  have r3 : ∀ t w, (binOp .quo t (.float .f64 n) (.float .f64 d)).run Tryd.prog w = .ok (.float .f64 (radiusW dec)) w := hdiv g3
  clear g1 g2 g3 hT h0 h1
  generalize radiusW dec = rw' at *
  generalize cosA dec = cw at *
  generalize sinA dec = sw at *
  have HR := Lib.hid (hr w)
  have HC := Lib.hid hc
  have HS := Lib.hid hs
  clear hr hc hs
  have hgen := sgen; have hgen2 := sgen2; have hgen3 := sgen3; go_enter Tryd.func60, Tryd.ntmps60
  go_wp2_with (first | (go_at_call 65; refine (HR.out).mono ?_; rintro e w' ⟨rfl, rfl⟩) | (go_at_call 64; refine (HC.out).mono ?_; rintro e w' ⟨rfl, rfl⟩) | (go_at_call 66; refine (HS.out).mono ?_; rintro e w' ⟨rfl, rfl⟩))
  go_ret
  exact ⟨rfl, rfl⟩
theorem c_ArOk {v : Nat} {V : Rat} (h : ArOk v V) (w : World) : Calls Tryd.prog 59 #[fl v] w fun e w' => e = .returned (.agg #[.int .i64 (arLo v), .int .i64 (arHi v)]) ∧ Below w.heap.size w w' := c_AroundP ⟨h.ex⟩ w
theorem c_isDec (dec : Int) (w : World) : Calls Tryd.prog 58 #[.int .i64 dec] w fun e w' => e = .returned (.bool (decide (-195000000 ≤ dec ∧ dec ≤ 250000000))) ∧ w = w' := by
  by_cases h1 : -195000000 ≤ dec
  · by_cases h2 : dec ≤ 250000000
    · rw [decide_eq_true (p := -195000000 ≤ dec ∧ dec ≤ 250000000) ⟨h1, h2⟩]
      have hgen := sgen; have hgen2 := sgen2; have hgen3 := sgen3; go_enter Tryd.func58, Tryd.ntmps58
      go_wp2
      go_ret
      exact ⟨rfl, rfl⟩
    · rw [decide_eq_false (p := -195000000 ≤ dec ∧ dec ≤ 250000000) (fun h => h2 h.2)]
      have hgen := sgen; have hgen2 := sgen2; have hgen3 := sgen3; go_enter Tryd.func58, Tryd.ntmps58
      go_wp2
      go_ret
      exact ⟨rfl, rfl⟩
  · rw [decide_eq_false (p := -195000000 ≤ dec ∧ dec ≤ 250000000) (fun h => h1 h.1)]
    have hgen := sgen; have hgen2 := sgen2; have hgen3 := sgen3; go_enter Tryd.func58, Tryd.ntmps58
    go_wp2
    go_ret
    exact ⟨rfl, rfl⟩
theorem c_Ring_bad (dec : Int) (w : World) (h : dec < -195000000 ∨ 250000000 < dec) : Calls Tryd.prog 27 #[.int .i64 dec] w fun e w' => e = .returned (.tuple #[.agg #[.int .i64 0, .int .i64 0], .int .i64 3]) ∧ Below w.heap.size w w' := by
  have hd := fun w1 => c_isDec dec w1
  rw [decide_eq_false (show ¬ (-195000000 ≤ dec ∧ dec ≤ 250000000) by omega)] at hd
  have HD := Lib.hid hd
  clear hd h
  have hgen := sgen; have hgen2 := sgen2; have hgen3 := sgen3; go_enter Tryd.func27, Tryd.ntmps27
  go_wp2_with (go_at_call 58; refine (HD.out _).mono ?_; rintro e w' ⟨rfl, rfl⟩)
  refine bodyPost_ret (v := .tuple #[.agg #[.int .i64 0, .int .i64 0], .int .i64 3]) (by simp only [results, Tryd.results27]; go_simp) rfl ⟨rfl, ?_⟩
  exact belz
theorem c_Ring (dec : Int) (w : World) (hT : Tab w) (h0 : -195000000 ≤ dec) (h1 : dec ≤ 250000000) : Calls Tryd.prog 27 #[.int .i64 dec] w fun e w' => e = .returned (.tuple #[.agg #[.int .i64 (arLo (radiusW dec)), .int .i64 (arHi (radiusW dec))], .int .i64 0]) ∧ Below w.heap.size w w' := by
  have hd := fun w1 => c_isDec dec w1
  rw [decide_eq_true (show (-195000000 ≤ dec ∧ dec ≤ 250000000) by omega)] at hd
  have HD := Lib.hid hd
  have HR := Lib.hid (fun w1 h => c_aRadius w1 h h0 h1)
  have HA := Lib.hid (fun w1 => c_ArOk (ring_ar h0 h1) w1)
  have HT := Lib.hid hT
  clear hd h0 h1 hT
  generalize radiusW dec = v at *
  generalize arLo v = lo at *
  generalize arHi v = hi at *
  have hgen := sgen; have hgen2 := sgen2; have hgen3 := sgen3; go_enter Tryd.func27, Tryd.ntmps27
  go_wp2_with (first | (go_at_call 58; refine (HD.out _).mono ?_; rintro e w' ⟨rfl, rfl⟩) | (go_at_call 60; refine (HR.out _ (HT.out.below (by exact belz))).mono ?_; rintro e w' ⟨rfl, rfl⟩) | (go_at_call 59; (refine (HA.out _).mono ?_); rintro e w1 ⟨rfl, hb⟩; have hz := hb.size; (try simp only [szA, szS, szD, szN] at hz); (try (refine bcB (n := w.heap.size) hb ?_; intro h_w_0 e_w_0 d_w_0 _ _))))
  refine bodyPost_ret (v := .tuple #[.agg #[.int .i64 lo, .int .i64 hi], .int .i64 0]) (by simp only [results, Tryd.results27]; go_simp) rfl ⟨rfl, ?_⟩
  exact belz
end Go.Proofs.YtjkhoepohiafeaaDoor
