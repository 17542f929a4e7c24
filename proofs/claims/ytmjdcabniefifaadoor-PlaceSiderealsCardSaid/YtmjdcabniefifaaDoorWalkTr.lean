/- The contracts of trig.Sin, Cos and Root, and of the self-check of package trig. -/
import Derived.Test.YtmjdcabniefifaaDoorWalkArc2
import Derived.Test.YtmjdcabniefifaaDoorWkD
set_option linter.unusedVariables false
set_option linter.unusedSimpArgs false
namespace Go.Proofs.YtmjdcabniefifaaDoor
open Go.RowKit
def angOk (a : Int) : Bool := decide (-1000000000000000000 ≤ a) && decide (a ≤ 1000000000000000000)
theorem c_trRange (a : Int) (w : World) : Calls Tryd.prog 70 #[.int .i64 a] w fun e w' => e = .returned (.bool (angOk a)) ∧ w = w' := by
  rcases (show a < -1000000000000000000 ∨ (-1000000000000000000 ≤ a ∧ a ≤ 1000000000000000000) ∨ 1000000000000000000 < a by omega) with h | ⟨h1, h2⟩ | h
  · have e : angOk a = false := by unfold angOk; rw [decide_eq_false (by omega)]; rfl
    rw [e]
    have hgen := sgen; have hgen2 := sgen2; have hgen3 := sgen3; go_enter Tryd.func70, Tryd.ntmps70
    go_wp2
    go_ret
    exact ⟨rfl, rfl⟩
  · have e : angOk a = true := by unfold angOk; rw [decide_eq_true h1, decide_eq_true h2]; rfl
    have d1 : decide (-1000000000000000000 ≤ a) = true := decide_eq_true h1
    have d2 : decide (a ≤ 1000000000000000000) = true := decide_eq_true h2
    rw [e]
    have hgen := sgen; have hgen2 := sgen2; have hgen3 := sgen3; go_enter Tryd.func70, Tryd.ntmps70
    go_wp2
    go_ret
    exact ⟨rfl, rfl⟩
  · have e : angOk a = false := by unfold angOk; rw [decide_eq_false (show ¬ a ≤ 1000000000000000000 by omega)]; simp
    have d1 : decide (-1000000000000000000 ≤ a) = true := decide_eq_true (by omega)
    have d2 : decide (a ≤ 1000000000000000000) = false := decide_eq_false (by omega)
    rw [e]
    have hgen := sgen; have hgen2 := sgen2; have hgen3 := sgen3; go_enter Tryd.func70, Tryd.ntmps70
    go_wp2
    go_ret
    exact ⟨rfl, rfl⟩
theorem c_Sin_ok (a : Int) (w : World) (ht : Tab w) (h : angOk a = true) : Calls Tryd.prog 47 #[.int .i64 a] w fun e w' => e = .returned (.tuple #[.agg #[.int .i64 (sineLo a), .int .i64 (sineHi a)], .int .i64 0]) ∧ Below w.heap.size w w' := by
  have hh := h
  unfold angOk at hh
  simp at hh
  have HR := Lib.hid (fun w1 => c_trRange a w1)
  rw [h] at HR
  have HT := Lib.hid ht
  have HS := Lib.hid (fun w1 (hw : Tab w1) => c_sine a w1 hw (by omega) (by omega))
  clear ht h hh
  generalize sineLo a = sl at *
  generalize sineHi a = sh at *
  have hgen := sgen; have hgen2 := sgen2; have hgen3 := sgen3; go_enter Tryd.func47, Tryd.ntmps47
  go_wp2_with (first | (go_at_call 70; refine (HR.out _).mono ?_; rintro e w' ⟨rfl, rfl⟩) | (go_at_call 68; (refine (HS.out _ (HT.out.below (by (repeat' (first | (with_reducible exact Below.refl _ _) | (with_reducible assumption) | (with_reducible refine Below.call ?_ ?_ (by with_reducible assumption)) | (with_reducible refine Below.alloc ?_ ?_ _) | (with_reducible refine Below.drew ?_) | (with_reducible refine below_drewN ?_ _) | (with_reducible refine Below.setCell ?_ ?_ _) | (with_reducible exact Nat.le_refl _) | omega | (simp only [World.size_alloc, World.size_setCell, World.size_drew, World.heap_drewN] at *; omega)))))).mono ?_); rintro e w1 ⟨rfl, hb⟩; have hz := hb.size; (try simp only [World.size_alloc, World.size_setCell, World.size_drew, World.heap_drewN] at hz); (try have h_w_0 : w.heap.size < w1.heap.size := by omega); (try have e_w_0 : ¬ w.heap.size = w1.heap.size := by omega); (try have d_w_0 : ¬ w1.heap.size = w.heap.size := by omega); (try (refine bcUse (n := w.heap.size) hb ?_ ?_; (focus ((try simp only [World.size_alloc, World.size_setCell, World.size_drew, World.heap_drewN]); omega)); intro _ _))))
  refine bodyPost_ret (v := .tuple #[.agg #[.int .i64 sl, .int .i64 sh], .int .i64 0]) (by simp only [results, Tryd.results47]; go_simp) rfl ⟨rfl, ?_⟩
  (repeat' (first | (with_reducible exact Below.refl _ _) | (with_reducible assumption) | (with_reducible refine Below.call ?_ ?_ (by with_reducible assumption)) | (with_reducible refine Below.alloc ?_ ?_ _) | (with_reducible refine Below.drew ?_) | (with_reducible refine below_drewN ?_ _) | (with_reducible refine Below.setCell ?_ ?_ _) | (with_reducible exact Nat.le_refl _) | omega | (simp only [World.size_alloc, World.size_setCell, World.size_drew, World.heap_drewN] at *; omega)))
theorem c_Sin_bad (a : Int) (w : World) (h : angOk a = false) : Calls Tryd.prog 47 #[.int .i64 a] w fun e w' => e = .returned (.tuple #[.agg #[.int .i64 0, .int .i64 0], .int .i64 3]) ∧ Below w.heap.size w w' := by
  have HR := Lib.hid (fun w1 => c_trRange a w1)
  rw [h] at HR
  clear h
  have hgen := sgen; have hgen2 := sgen2; have hgen3 := sgen3; go_enter Tryd.func47, Tryd.ntmps47
  go_wp2_with (go_at_call 70; refine (HR.out _).mono ?_; rintro e w' ⟨rfl, rfl⟩)
  refine bodyPost_ret (v := .tuple #[.agg #[.int .i64 0, .int .i64 0], .int .i64 3]) (by simp only [results, Tryd.results47]; go_simp) rfl ⟨rfl, ?_⟩
  (repeat' (first | (with_reducible exact Below.refl _ _) | (with_reducible assumption) | (with_reducible refine Below.call ?_ ?_ (by with_reducible assumption)) | (with_reducible refine Below.alloc ?_ ?_ _) | (with_reducible refine Below.drew ?_) | (with_reducible refine below_drewN ?_ _) | (with_reducible refine Below.setCell ?_ ?_ _) | (with_reducible exact Nat.le_refl _) | omega | (simp only [World.size_alloc, World.size_setCell, World.size_drew, World.heap_drewN] at *; omega)))
theorem c_Cos_ok (a : Int) (w : World) (ht : Tab w) (h : angOk a = true) : Calls Tryd.prog 48 #[.int .i64 a] w fun e w' => e = .returned (.tuple #[.agg #[.int .i64 (sineLo (a % 1000000000 + 250000000)), .int .i64 (sineHi (a % 1000000000 + 250000000))], .int .i64 0]) ∧ Below w.heap.size w w' := by
  have hh := h
  unfold angOk at hh
  simp at hh
  have HR := Lib.hid (fun w1 => c_trRange a w1)
  rw [h] at HR
  have HT := Lib.hid ht
  have HM := Lib.hid (fun w1 => c_mod a 1000000000 w1 (by omega) (by omega) (by omega) (by omega))
  have m0 := Int.emod_nonneg a (show (1000000000 : Int) ≠ 0 by omega)
  have m1 := Int.emod_lt_of_pos a (show (0 : Int) < 1000000000 by omega)
  have HS := Lib.hid (fun w1 (hw : Tab w1) => c_sine (a % 1000000000 + 250000000) w1 hw (by omega) (by omega))
  clear ht h hh
  generalize a % 1000000000 = b at *
  generalize sineLo (b + 250000000) = sl at *
  generalize sineHi (b + 250000000) = sh at *
  have hgen := sgen; have hgen2 := sgen2; have hgen3 := sgen3; go_enter Tryd.func48, Tryd.ntmps48
  go_wp2_with (first | (go_at_call 70; refine (HR.out _).mono ?_; rintro e w' ⟨rfl, rfl⟩) | (go_at_call 39; refine (HM.out _).mono ?_; rintro e w' ⟨rfl, nn, rfl⟩) | (go_at_call 68; (refine (HS.out _ (HT.out.below (by (repeat' (first | (with_reducible exact Below.refl _ _) | (with_reducible assumption) | (with_reducible refine Below.call ?_ ?_ (by with_reducible assumption)) | (with_reducible refine Below.alloc ?_ ?_ _) | (with_reducible refine Below.drew ?_) | (with_reducible refine below_drewN ?_ _) | (with_reducible refine Below.setCell ?_ ?_ _) | (with_reducible exact Nat.le_refl _) | omega | (simp only [World.size_alloc, World.size_setCell, World.size_drew, World.heap_drewN] at *; omega)))))).mono ?_); rintro e w1 ⟨rfl, hb⟩; have hz := hb.size; (try simp only [World.size_alloc, World.size_setCell, World.size_drew, World.heap_drewN] at hz); (try have h_w_0 : w.heap.size < w1.heap.size := by omega); (try have e_w_0 : ¬ w.heap.size = w1.heap.size := by omega); (try have d_w_0 : ¬ w1.heap.size = w.heap.size := by omega); (try (refine bcUse (n := w.heap.size) hb ?_ ?_; (focus ((try simp only [World.size_alloc, World.size_setCell, World.size_drew, World.heap_drewN]); omega)); intro _ _))))
  refine bodyPost_ret (v := .tuple #[.agg #[.int .i64 sl, .int .i64 sh], .int .i64 0]) (by simp only [results, Tryd.results48]; go_simp) rfl ⟨rfl, ?_⟩
  (repeat' (first | (with_reducible exact Below.refl _ _) | (with_reducible assumption) | (with_reducible refine Below.call ?_ ?_ (by with_reducible assumption)) | (with_reducible refine Below.alloc ?_ ?_ _) | (with_reducible refine Below.drew ?_) | (with_reducible refine below_drewN ?_ _) | (with_reducible refine Below.setCell ?_ ?_ _) | (with_reducible exact Nat.le_refl _) | omega | (simp only [World.size_alloc, World.size_setCell, World.size_drew, World.heap_drewN] at *; omega)))
theorem c_Cos_bad (a : Int) (w : World) (h : angOk a = false) : Calls Tryd.prog 48 #[.int .i64 a] w fun e w' => e = .returned (.tuple #[.agg #[.int .i64 0, .int .i64 0], .int .i64 3]) ∧ Below w.heap.size w w' := by
  have HR := Lib.hid (fun w1 => c_trRange a w1)
  rw [h] at HR
  clear h
  have hgen := sgen; have hgen2 := sgen2; have hgen3 := sgen3; go_enter Tryd.func48, Tryd.ntmps48
  go_wp2_with (go_at_call 70; refine (HR.out _).mono ?_; rintro e w' ⟨rfl, rfl⟩)
  refine bodyPost_ret (v := .tuple #[.agg #[.int .i64 0, .int .i64 0], .int .i64 3]) (by simp only [results, Tryd.results48]; go_simp) rfl ⟨rfl, ?_⟩
  (repeat' (first | (with_reducible exact Below.refl _ _) | (with_reducible assumption) | (with_reducible refine Below.call ?_ ?_ (by with_reducible assumption)) | (with_reducible refine Below.alloc ?_ ?_ _) | (with_reducible refine Below.drew ?_) | (with_reducible refine below_drewN ?_ _) | (with_reducible refine Below.setCell ?_ ?_ _) | (with_reducible exact Nat.le_refl _) | omega | (simp only [World.size_alloc, World.size_setCell, World.size_drew, World.heap_drewN] at *; omega)))
/-- The least interval around the roots. -/
structure RootOk (lo hi p q : Int) : Prop where
  p0 : 0 ≤ p
  p1 : p * p ≤ lo
  p2 : lo < (p + 1) * (p + 1)
  q0 : 0 ≤ q
  q1 : hi ≤ q * q
  q2 : q = 0 ∨ (q - 1) * (q - 1) < hi
theorem root9 {R n : Int} (h0 : 0 ≤ R) (h : R * R ≤ n) (h1 : n ≤ 1000000000000000000) : R ≤ 1000000000 ∧ R * R ≤ 1000000000000000000 ∧ 0 ≤ R * R := ⟨root_le h h1, by omega, Int.mul_nonneg h0 h0⟩
/-- Arc at a fixed direction. -/
theorem c_Arc_fix (w : World) : Calls Tryd.prog 58 #[.agg #[.int .i64 5, .int .i64 5], .agg #[.int .i64 (-5), .int .i64 (-5)]] w fun e w' => e = .returned (.tuple #[.agg #[.int .i64 374999999, .int .i64 375000001], .int .i64 0]) ∧ Below w.heap.size w w' := by
  obtain ⟨hr, a1, a2, ⟨r1, e1⟩, ⟨r2, e2⟩, -⟩ := arc_run 5 5 (-5) (-5) (by decide) (by decide) (by decide) (by decide) (by decide) (by decide) (by decide) (by decide) (fun y x hy hx => by left; rcases hy with rfl | rfl <;> decide)
  have f1 := fadd_of e1
  have f2 := fadd_of e2
  have g1 : arcLo 5 5 (-5) (-5) = 374999999 := by decide +kernel
  have g2 : arcHi 5 5 (-5) (-5) = 375000001 := by decide +kernel
  rw [f1] at a1
  rw [f2] at a2
  have k1 : arLo r1 = 374999999 := by rw [← g1]; unfold arcLo; rw [f1]
  have k2 : arHi r2 = 375000001 := by rw [← g2]; unfold arcHi; rw [f2]
  exact c_Arc_ok 5 5 (-5) (-5) w (by decide +kernel) (by decide +kernel) (by decide) hr e1 e2 a1 a2 374999999 375000001 0 (.inr ⟨by rw [k1, k2]; decide, by rw [k1]; decide, by rw [k1, k2]; decide, rfl⟩)
theorem root29 {p q : Int} (h : RootOk 2 9 p q) : p = 1 ∧ q = 3 := by
  obtain ⟨p0, p1, p2, q0, q1, q2⟩ := h
  have hp : p ≤ 1 := by
    by_cases k : p ≤ 1
    · exact k
    · have := sq_mono (a := 2) (b := p) (by omega) (by omega); omega
  have hp2 : 1 ≤ p := by
    by_cases k : 1 ≤ p
    · exact k
    · have : p = 0 := by omega
      subst this; omega
  have hq : 3 ≤ q := by
    by_cases k : 3 ≤ q
    · exact k
    · have := sq_mono (a := q) (b := 2) (by omega) (by omega); omega
  have hq2 : q ≤ 3 := by
    by_cases k : q ≤ 3
    · exact k
    · have := sq_mono (a := 3) (b := q - 1) (by omega) (by omega); omega
  omega
theorem c_Sin_fix (w : World) (ht : Tab w) : Calls Tryd.prog 47 #[.int .i64 125000000] w fun e w' => e = .returned (.tuple #[.agg #[.int .i64 707106781, .int .i64 707106782], .int .i64 0]) ∧ Below w.heap.size w w' := by
  have h := c_Sin_ok 125000000 w ht (by decide)
  rw [show sineLo 125000000 = 707106781 by decide +kernel, show sineHi 125000000 = 707106782 by decide +kernel] at h
  exact h
theorem c_Cos_fix (w : World) (ht : Tab w) : Calls Tryd.prog 48 #[.int .i64 0] w fun e w' => e = .returned (.tuple #[.agg #[.int .i64 1000000000, .int .i64 1000000000], .int .i64 0]) ∧ Below w.heap.size w w' := by
  have h := c_Cos_ok 0 w ht (by decide)
  rw [show sineLo (0 % 1000000000 + 250000000) = 1000000000 by decide +kernel, show sineHi (0 % 1000000000 + 250000000) = 1000000000 by decide +kernel] at h
  exact h
end Go.Proofs.YtmjdcabniefifaaDoor
