/- The contract of interval.Div, and the fact intervalWorks of the laws. -/
import Derived.Test.YtpgoahbmeedghaaWalkIv2
set_option linter.unusedVariables false
set_option linter.unusedSimpArgs false
namespace Go.Proofs.Ytpgoahbmeedghaa
open Go.RowKit
theorem ratOk_unit (a d : Int) (a1 : -1000000000000000000 ≤ a) (a2 : a ≤ 1000000000000000000) : RatOk a 1 d := by
  refine .inl ?_
  have h : absI 1 = 1 := by decide
  rw [h, Int.mul_one]
  have := absI_bd a1 a2
  omega
/-- The bounds of a quotient by a positive interval. -/
def dLo (al bl bh : Int) : Int := if 0 ≤ al then ratLo al 1 bh else ratLo al 1 bl
def dHi (ah bl bh : Int) : Int := if ah < 0 then ratHi ah 1 bh else ratHi ah 1 bl
theorem c_ratioU (a d : Int) (w : World) (a1 : -1000000000000000000 ≤ a) (a2 : a ≤ 1000000000000000000) (d1 : 1 ≤ d) (d2 : d ≤ 1000000000000000000) :
    Calls Try.prog 41 #[.int .i64 a, .int .i64 1, .int .i64 d] w fun e w' => e = .returned (.tuple #[.int .i64 (ratLo a 1 d), .int .i64 (ratHi a 1 d)]) ∧ ∃ n, w' = w.drewN n :=
  c_ratio a 1 d w a1 a2 (by omega) (by omega) d1 d2 (ratOk_unit _ _ a1 a2)
theorem c_Div_zero (al ah bl bh : Int) (w : World) (he : twoErr al ah bl bh = 0) (h1 : bl ≤ 0) (h2 : 0 ≤ bh) : Calls Try.prog 21 #[.agg #[.int .i64 al, .int .i64 ah], .agg #[.int .i64 bl, .int .i64 bh]] w fun e w' => e = .returned (.tuple #[.agg #[.int .i64 0, .int .i64 0], .int .i64 1]) ∧ Below w.heap.size w w' := by
  have HB := Lib.hid (fun w1 => c_both al ah bl bh w1)
  rw [he] at HB
  clear he
  have hgen := sgen; have hgen2 := sgen2; have hgen3 := sgen3; go_enter Try.func21, Try.ntmps21
  go_wp2_with (go_at_call 36; (refine (HB.out _).mono ?_); rintro e w1 ⟨rfl, hb⟩; have hz := hb.size; (try simp only [World.size_alloc, World.size_setCell, World.size_drew, World.heap_drewN] at hz); (try have h_w_0 : w.heap.size < w1.heap.size := by omega); (try have e_w_0 : ¬ w.heap.size = w1.heap.size := by omega); (try have d_w_0 : ¬ w1.heap.size = w.heap.size := by omega); (try (refine bcUse (n := w.heap.size) hb ?_ ?_; (focus ((try simp only [World.size_alloc, World.size_setCell, World.size_drew, World.heap_drewN]); omega)); intro _ _)); (try have h_w_1 : w.heap.size + 1 < w1.heap.size := by omega); (try have e_w_1 : ¬ w.heap.size + 1 = w1.heap.size := by omega); (try have d_w_1 : ¬ w1.heap.size = w.heap.size + 1 := by omega); (try (refine bcUse (n := w.heap.size + 1) hb ?_ ?_; (focus ((try simp only [World.size_alloc, World.size_setCell, World.size_drew, World.heap_drewN]); omega)); intro _ _)); (try have h_w_2 : w.heap.size + 2 < w1.heap.size := by omega); (try have e_w_2 : ¬ w.heap.size + 2 = w1.heap.size := by omega); (try have d_w_2 : ¬ w1.heap.size = w.heap.size + 2 := by omega); (try (refine bcUse (n := w.heap.size + 2) hb ?_ ?_; (focus ((try simp only [World.size_alloc, World.size_setCell, World.size_drew, World.heap_drewN]); omega)); intro _ _)))
  refine bodyPost_ret (v := .tuple #[.agg #[.int .i64 0, .int .i64 0], .int .i64 1]) (by simp only [results, Try.results21]; go_simp) rfl ⟨rfl, ?_⟩
  (repeat' (first | (with_reducible exact Below.refl _ _) | (with_reducible assumption) | (with_reducible refine Below.call ?_ ?_ (by with_reducible assumption)) | (with_reducible refine Below.alloc ?_ ?_ _) | (with_reducible refine Below.drew ?_) | (with_reducible refine below_drewN ?_ _) | (with_reducible refine Below.setCell ?_ ?_ _) | (with_reducible exact Nat.le_refl _) | omega | (simp only [World.size_alloc, World.size_setCell, World.size_drew, World.heap_drewN] at *; omega)))
set_option maxRecDepth 100000 in
set_option maxHeartbeats 2000000 in
theorem c_Div_pos (al ah bl bh : Int) (w : World) (he : twoErr al ah bl bh = 0) (h1 : 0 < bl) : Calls Try.prog 21 #[.agg #[.int .i64 al, .int .i64 ah], .agg #[.int .i64 bl, .int .i64 bh]] w fun e w' => e = .returned (.tuple #[.agg #[.int .i64 (dLo al bl bh), .int .i64 (dHi ah bl bh)], .int .i64 0]) ∧ Below w.heap.size w w' := by
  obtain ⟨ha, hb⟩ := twoErr_zero he
  obtain ⟨a1, a2, a3⟩ := spanErr_zero ha
  obtain ⟨b1, b2, b3⟩ := spanErr_zero hb
  have HB := Lib.hid (fun w1 => c_both al ah bl bh w1)
  rw [he] at HB
  have HL := Lib.hid (show dLo al bl bh = if 0 ≤ al then ratLo al 1 bh else ratLo al 1 bl from rfl)
  have HH := Lib.hid (show dHi ah bl bh = if ah < 0 then ratHi ah 1 bh else ratHi ah 1 bl from rfl)
  clear ha hb he
  by_cases c1 : 0 ≤ al <;> by_cases c2 : ah < 0
  · exfalso; omega
  · have HLv := Lib.hid (show dLo al bl bh = ratLo al 1 bh by rw [HL.out, if_pos c1])
    have HHv := Lib.hid (show dHi ah bl bh = ratHi ah 1 bl by rw [HH.out, if_neg c2])
    have hgen := sgen; have hgen2 := sgen2; have hgen3 := sgen3; go_enter Try.func21, Try.ntmps21
    go_wp2_with (first | (go_at_call 36; (refine (HB.out _).mono ?_); rintro e w1 ⟨rfl, hb⟩; have hz := hb.size; (try simp only [World.size_alloc, World.size_setCell, World.size_drew, World.heap_drewN] at hz); (try have h_w_0 : w.heap.size < w1.heap.size := by omega); (try have e_w_0 : ¬ w.heap.size = w1.heap.size := by omega); (try have d_w_0 : ¬ w1.heap.size = w.heap.size := by omega); (try (refine bcUse (n := w.heap.size) hb ?_ ?_; (focus ((try simp only [World.size_alloc, World.size_setCell, World.size_drew, World.heap_drewN]); omega)); intro _ _)); (try have h_w_1 : w.heap.size + 1 < w1.heap.size := by omega); (try have e_w_1 : ¬ w.heap.size + 1 = w1.heap.size := by omega); (try have d_w_1 : ¬ w1.heap.size = w.heap.size + 1 := by omega); (try (refine bcUse (n := w.heap.size + 1) hb ?_ ?_; (focus ((try simp only [World.size_alloc, World.size_setCell, World.size_drew, World.heap_drewN]); omega)); intro _ _)); (try have h_w_2 : w.heap.size + 2 < w1.heap.size := by omega); (try have e_w_2 : ¬ w.heap.size + 2 = w1.heap.size := by omega); (try have d_w_2 : ¬ w1.heap.size = w.heap.size + 2 := by omega); (try (refine bcUse (n := w.heap.size + 2) hb ?_ ?_; (focus ((try simp only [World.size_alloc, World.size_setCell, World.size_drew, World.heap_drewN]); omega)); intro _ _))) | (go_at_call 41; refine (c_ratioU _ _ _ (by omega) (by omega) (by omega) (by omega)).mono ?_; rintro e w' ⟨rfl, nn, rfl⟩))
    refine bodyPost_ret (v := .tuple #[.agg #[.int .i64 (ratLo al 1 bh), .int .i64 (ratHi ah 1 bl)], .int .i64 0]) (by simp only [results, Try.results21]; go_simp) rfl ⟨ret_agg2 HLv.out.symm HHv.out.symm, ?_⟩
    (repeat' (first | (with_reducible exact Below.refl _ _) | (with_reducible assumption) | (with_reducible refine Below.call ?_ ?_ (by with_reducible assumption)) | (with_reducible refine Below.alloc ?_ ?_ _) | (with_reducible refine Below.drew ?_) | (with_reducible refine below_drewN ?_ _) | (with_reducible refine Below.setCell ?_ ?_ _) | (with_reducible exact Nat.le_refl _) | omega | (simp only [World.size_alloc, World.size_setCell, World.size_drew, World.heap_drewN] at *; omega)))
  · have HLv := Lib.hid (show dLo al bl bh = ratLo al 1 bl by rw [HL.out, if_neg c1])
    have HHv := Lib.hid (show dHi ah bl bh = ratHi ah 1 bh by rw [HH.out, if_pos c2])
    have hgen := sgen; have hgen2 := sgen2; have hgen3 := sgen3; go_enter Try.func21, Try.ntmps21
    go_wp2_with (first | (go_at_call 36; (refine (HB.out _).mono ?_); rintro e w1 ⟨rfl, hb⟩; have hz := hb.size; (try simp only [World.size_alloc, World.size_setCell, World.size_drew, World.heap_drewN] at hz); (try have h_w_0 : w.heap.size < w1.heap.size := by omega); (try have e_w_0 : ¬ w.heap.size = w1.heap.size := by omega); (try have d_w_0 : ¬ w1.heap.size = w.heap.size := by omega); (try (refine bcUse (n := w.heap.size) hb ?_ ?_; (focus ((try simp only [World.size_alloc, World.size_setCell, World.size_drew, World.heap_drewN]); omega)); intro _ _)); (try have h_w_1 : w.heap.size + 1 < w1.heap.size := by omega); (try have e_w_1 : ¬ w.heap.size + 1 = w1.heap.size := by omega); (try have d_w_1 : ¬ w1.heap.size = w.heap.size + 1 := by omega); (try (refine bcUse (n := w.heap.size + 1) hb ?_ ?_; (focus ((try simp only [World.size_alloc, World.size_setCell, World.size_drew, World.heap_drewN]); omega)); intro _ _)); (try have h_w_2 : w.heap.size + 2 < w1.heap.size := by omega); (try have e_w_2 : ¬ w.heap.size + 2 = w1.heap.size := by omega); (try have d_w_2 : ¬ w1.heap.size = w.heap.size + 2 := by omega); (try (refine bcUse (n := w.heap.size + 2) hb ?_ ?_; (focus ((try simp only [World.size_alloc, World.size_setCell, World.size_drew, World.heap_drewN]); omega)); intro _ _))) | (go_at_call 41; refine (c_ratioU _ _ _ (by omega) (by omega) (by omega) (by omega)).mono ?_; rintro e w' ⟨rfl, nn, rfl⟩))
    refine bodyPost_ret (v := .tuple #[.agg #[.int .i64 (ratLo al 1 bl), .int .i64 (ratHi ah 1 bh)], .int .i64 0]) (by simp only [results, Try.results21]; go_simp) rfl ⟨ret_agg2 HLv.out.symm HHv.out.symm, ?_⟩
    (repeat' (first | (with_reducible exact Below.refl _ _) | (with_reducible assumption) | (with_reducible refine Below.call ?_ ?_ (by with_reducible assumption)) | (with_reducible refine Below.alloc ?_ ?_ _) | (with_reducible refine Below.drew ?_) | (with_reducible refine below_drewN ?_ _) | (with_reducible refine Below.setCell ?_ ?_ _) | (with_reducible exact Nat.le_refl _) | omega | (simp only [World.size_alloc, World.size_setCell, World.size_drew, World.heap_drewN] at *; omega)))
  · have HLv := Lib.hid (show dLo al bl bh = ratLo al 1 bl by rw [HL.out, if_neg c1])
    have HHv := Lib.hid (show dHi ah bl bh = ratHi ah 1 bl by rw [HH.out, if_neg c2])
    have hgen := sgen; have hgen2 := sgen2; have hgen3 := sgen3; go_enter Try.func21, Try.ntmps21
    go_wp2_with (first | (go_at_call 36; (refine (HB.out _).mono ?_); rintro e w1 ⟨rfl, hb⟩; have hz := hb.size; (try simp only [World.size_alloc, World.size_setCell, World.size_drew, World.heap_drewN] at hz); (try have h_w_0 : w.heap.size < w1.heap.size := by omega); (try have e_w_0 : ¬ w.heap.size = w1.heap.size := by omega); (try have d_w_0 : ¬ w1.heap.size = w.heap.size := by omega); (try (refine bcUse (n := w.heap.size) hb ?_ ?_; (focus ((try simp only [World.size_alloc, World.size_setCell, World.size_drew, World.heap_drewN]); omega)); intro _ _)); (try have h_w_1 : w.heap.size + 1 < w1.heap.size := by omega); (try have e_w_1 : ¬ w.heap.size + 1 = w1.heap.size := by omega); (try have d_w_1 : ¬ w1.heap.size = w.heap.size + 1 := by omega); (try (refine bcUse (n := w.heap.size + 1) hb ?_ ?_; (focus ((try simp only [World.size_alloc, World.size_setCell, World.size_drew, World.heap_drewN]); omega)); intro _ _)); (try have h_w_2 : w.heap.size + 2 < w1.heap.size := by omega); (try have e_w_2 : ¬ w.heap.size + 2 = w1.heap.size := by omega); (try have d_w_2 : ¬ w1.heap.size = w.heap.size + 2 := by omega); (try (refine bcUse (n := w.heap.size + 2) hb ?_ ?_; (focus ((try simp only [World.size_alloc, World.size_setCell, World.size_drew, World.heap_drewN]); omega)); intro _ _))) | (go_at_call 41; refine (c_ratioU _ _ _ (by omega) (by omega) (by omega) (by omega)).mono ?_; rintro e w' ⟨rfl, nn, rfl⟩))
    refine bodyPost_ret (v := .tuple #[.agg #[.int .i64 (ratLo al 1 bl), .int .i64 (ratHi ah 1 bl)], .int .i64 0]) (by simp only [results, Try.results21]; go_simp) rfl ⟨ret_agg2 HLv.out.symm HHv.out.symm, ?_⟩
    (repeat' (first | (with_reducible exact Below.refl _ _) | (with_reducible assumption) | (with_reducible refine Below.call ?_ ?_ (by with_reducible assumption)) | (with_reducible refine Below.alloc ?_ ?_ _) | (with_reducible refine Below.drew ?_) | (with_reducible refine below_drewN ?_ _) | (with_reducible refine Below.setCell ?_ ?_ _) | (with_reducible exact Nat.le_refl _) | omega | (simp only [World.size_alloc, World.size_setCell, World.size_drew, World.heap_drewN] at *; omega)))
end Go.Proofs.Ytpgoahbmeedghaa
