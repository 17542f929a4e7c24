/- The walk through the law IntervalMuls. -/
import Derived.Test.YtpgoahbmeedghaaWalkIvEasy
import Derived.Test.YtpgoahbmeedghaaWalkCmp
import Derived.Test.YtpgoahbmeedghaaPlainMul
import Derived.Deep.RegionHeld3
import Derived.Deep.DeepCutAuto
set_option linter.unusedVariables false
set_option linter.unusedSimpArgs false
namespace Go.Proofs.Ytpgoahbmeedghaa
open Go.RowKit
theorem p_rat1 (al ah bl bh : Int) : pLo al ah bl bh 1 = min (min (min (clipI (al * bl)) (clipI (al * bh))) (clipI (ah * bl))) (clipI (ah * bh)) ∧ pHi al ah bl bh 1 = max (max (max (clipI (al * bl)) (clipI (al * bh))) (clipI (ah * bl))) (clipI (ah * bh)) := by
  unfold pLo pHi
  rw [(rat_one al bl).1, (rat_one al bh).1, (rat_one ah bl).1, (rat_one ah bh).1, (rat_one al bl).2, (rat_one al bh).2, (rat_one ah bl).2, (rat_one ah bh).2]
  exact ⟨rfl, rfl⟩
/-- What is known of the products where Mul has answered. -/
structure MulOk (al ah bl bh s t : Int) : Prop where
  fine : ∀ i k, i < 2 → k < 2 → -1000000000000000000 ≤ two al ah i * two bl bh k ∧ two al ah i * two bl bh k ≤ 1000000000000000000
  le : ∀ i k, i < 2 → k < 2 → s ≤ two al ah i * two bl bh k
  ge : ∀ i k, i < 2 → k < 2 → two al ah i * two bl bh k ≤ t
  low : ∃ i k, i < 2 ∧ k < 2 ∧ two al ah i * two bl bh k = s
  high : ∃ i k, i < 2 ∧ k < 2 ∧ two al ah i * two bl bh k = t
theorem lt2 {i : Nat} (h : i < 2) : i = 0 ∨ i = 1 := by omega
theorem two0 (a b : Int) : two a b 0 = a := rfl
theorem two1 (a b : Int) : two a b 1 = b := rfl
theorem mul_ok {al ah bl bh : Int} (h : spanErr (pLo al ah bl bh 1) (pHi al ah bl bh 1) = 0) : MulOk al ah bl bh (pLo al ah bl bh 1) (pHi al ah bl bh 1) := by
  obtain ⟨e1, e2⟩ := p_rat1 al ah bl bh
  rw [e1, e2] at h ⊢
  obtain ⟨h1, h2, h3⟩ := spanErr_zero h
  have g00 := clip_of (x := al * bl) (by omega) (by omega)
  have g01 := clip_of (x := al * bh) (by omega) (by omega)
  have g10 := clip_of (x := ah * bl) (by omega) (by omega)
  have g11 := clip_of (x := ah * bh) (by omega) (by omega)
  rw [g00, g01, g10, g11] at h1 h2 h3 ⊢
  clear g00 g01 g10 g11 e1 e2 h
  generalize hx00 : al * bl = x00 at *
  generalize hx01 : al * bh = x01 at *
  generalize hx10 : ah * bl = x10 at *
  generalize hx11 : ah * bh = x11 at *
  refine ⟨fun i k hi hk => ?_, fun i k hi hk => ?_, fun i k hi hk => ?_, ?_, ?_⟩
  · rcases lt2 hi with rfl | rfl <;> rcases lt2 hk with rfl | rfl <;> (simp only [two0, two1]; omega)
  · rcases lt2 hi with rfl | rfl <;> rcases lt2 hk with rfl | rfl <;> (simp only [two0, two1]; omega)
  · rcases lt2 hi with rfl | rfl <;> rcases lt2 hk with rfl | rfl <;> (simp only [two0, two1]; omega)
  · have : min (min (min x00 x01) x10) x11 = x00 ∨ min (min (min x00 x01) x10) x11 = x01 ∨ min (min (min x00 x01) x10) x11 = x10 ∨ min (min (min x00 x01) x10) x11 = x11 := by omega
    rcases this with q | q | q | q
    · exact ⟨0, 0, by omega, by omega, by rw [q]; exact hx00⟩
    · exact ⟨0, 1, by omega, by omega, by rw [q]; exact hx01⟩
    · exact ⟨1, 0, by omega, by omega, by rw [q]; exact hx10⟩
    · exact ⟨1, 1, by omega, by omega, by rw [q]; exact hx11⟩
  · have : max (max (max x00 x01) x10) x11 = x00 ∨ max (max (max x00 x01) x10) x11 = x01 ∨ max (max (max x00 x01) x10) x11 = x10 ∨ max (max (max x00 x01) x10) x11 = x11 := by omega
    rcases this with q | q | q | q
    · exact ⟨0, 0, by omega, by omega, by rw [q]; exact hx00⟩
    · exact ⟨0, 1, by omega, by omega, by rw [q]; exact hx01⟩
    · exact ⟨1, 0, by omega, by omega, by rw [q]; exact hx10⟩
    · exact ⟨1, 1, by omega, by omega, by rw [q]; exact hx11⟩
theorem mul_no {al ah bl bh : Int} (h : spanErr (pLo al ah bl bh 1) (pHi al ah bl bh 1) ≠ 0) : ¬ ∀ i k, i < 2 → k < 2 → -1000000000000000000 ≤ two al ah i * two bl bh k ∧ two al ah i * two bl bh k ≤ 1000000000000000000 := by
  intro hf
  apply h
  obtain ⟨e1, e2⟩ := p_rat1 al ah bl bh
  rw [e1, e2]
  have f00 := hf 0 0 (by omega) (by omega)
  have f01 := hf 0 1 (by omega) (by omega)
  have f10 := hf 1 0 (by omega) (by omega)
  have f11 := hf 1 1 (by omega) (by omega)
  simp only [two0, two1] at f00 f01 f10 f11
  rw [clip_in f00.1 f00.2, clip_in f01.1 f01.2, clip_in f10.1 f10.2, clip_in f11.1 f11.2]
  unfold spanErr
  rw [if_neg (by omega), if_neg (by omega)]
theorem walk_imul_bad (al ah bl bh : Int) (w : World) (he : twoErr al ah bl bh ≠ 0) : Calls Try.prog 4 #[.agg #[.int .i64 al, .int .i64 ah], .agg #[.int .i64 bl, .int .i64 bh]] w fun e w' => e = .returned (.bool true) ∧ Below w.heap.size w w' := by
  have h1 : (twoErr al ah bl bh != 0) = true := by simp [he]
  have hgen := sgen; have hgen2 := sgen2; have hgen3 := sgen3; go_enter Try.func4, Try.ntmps4
  go_wp2_with (first | (go_at_call 11; (refine (c_intervalWorks _).mono ?_); rintro e w1 ⟨rfl, hb⟩; have hz := hb.size; (try simp only [World.size_alloc, World.size_setCell, World.size_drew, World.heap_drewN] at hz); (try have h_w_0 : w.heap.size < w1.heap.size := by omega); (try have e_w_0 : ¬ w.heap.size = w1.heap.size := by omega); (try have d_w_0 : ¬ w1.heap.size = w.heap.size := by omega); (try (refine bcUse (n := w.heap.size) hb ?_ ?_; (focus ((try simp only [World.size_alloc, World.size_setCell, World.size_drew, World.heap_drewN]); omega)); intro _ _)); (try have h_w_1 : w.heap.size + 1 < w1.heap.size := by omega); (try have e_w_1 : ¬ w.heap.size + 1 = w1.heap.size := by omega); (try have d_w_1 : ¬ w1.heap.size = w.heap.size + 1 := by omega); (try (refine bcUse (n := w.heap.size + 1) hb ?_ ?_; (focus ((try simp only [World.size_alloc, World.size_setCell, World.size_drew, World.heap_drewN]); omega)); intro _ _))) | (go_at_call 14; (refine (c_Mul_bad _ _ _ _ _ he).mono ?_); rintro e w2 ⟨rfl, hb⟩; have hz := hb.size; (try simp only [World.size_alloc, World.size_setCell, World.size_drew, World.heap_drewN] at hz); (try have h_w_0 : w.heap.size < w2.heap.size := by omega); (try have e_w_0 : ¬ w.heap.size = w2.heap.size := by omega); (try have d_w_0 : ¬ w2.heap.size = w.heap.size := by omega); (try (refine bcUse (n := w.heap.size) hb ?_ ?_; (focus ((try simp only [World.size_alloc, World.size_setCell, World.size_drew, World.heap_drewN]); omega)); intro _ _)); (try have h_w_1 : w.heap.size + 1 < w2.heap.size := by omega); (try have e_w_1 : ¬ w.heap.size + 1 = w2.heap.size := by omega); (try have d_w_1 : ¬ w2.heap.size = w.heap.size + 1 := by omega); (try (refine bcUse (n := w.heap.size + 1) hb ?_ ?_; (focus ((try simp only [World.size_alloc, World.size_setCell, World.size_drew, World.heap_drewN]); omega)); intro _ _)); (try have h_w1_0 : w1.heap.size < w2.heap.size := by omega); (try have e_w1_0 : ¬ w1.heap.size = w2.heap.size := by omega); (try have d_w1_0 : ¬ w2.heap.size = w1.heap.size := by omega); (try (refine bcUse (n := w1.heap.size) hb ?_ ?_; (focus ((try simp only [World.size_alloc, World.size_setCell, World.size_drew, World.heap_drewN]); omega)); intro _ _))) | (go_at_call 15; (refine (c_two _ _ _ _ _).mono ?_); rintro e w3 ⟨rfl, hb⟩; have hz := hb.size; (try simp only [World.size_alloc, World.size_setCell, World.size_drew, World.heap_drewN] at hz); (try have h_w_0 : w.heap.size < w3.heap.size := by omega); (try have e_w_0 : ¬ w.heap.size = w3.heap.size := by omega); (try have d_w_0 : ¬ w3.heap.size = w.heap.size := by omega); (try (refine bcUse (n := w.heap.size) hb ?_ ?_; (focus ((try simp only [World.size_alloc, World.size_setCell, World.size_drew, World.heap_drewN]); omega)); intro _ _)); (try have h_w_1 : w.heap.size + 1 < w3.heap.size := by omega); (try have e_w_1 : ¬ w.heap.size + 1 = w3.heap.size := by omega); (try have d_w_1 : ¬ w3.heap.size = w.heap.size + 1 := by omega); (try (refine bcUse (n := w.heap.size + 1) hb ?_ ?_; (focus ((try simp only [World.size_alloc, World.size_setCell, World.size_drew, World.heap_drewN]); omega)); intro _ _)); (try have h_w1_0 : w1.heap.size < w3.heap.size := by omega); (try have e_w1_0 : ¬ w1.heap.size = w3.heap.size := by omega); (try have d_w1_0 : ¬ w3.heap.size = w1.heap.size := by omega); (try (refine bcUse (n := w1.heap.size) hb ?_ ?_; (focus ((try simp only [World.size_alloc, World.size_setCell, World.size_drew, World.heap_drewN]); omega)); intro _ _)); (try have h_w2_0 : w2.heap.size < w3.heap.size := by omega); (try have e_w2_0 : ¬ w2.heap.size = w3.heap.size := by omega); (try have d_w2_0 : ¬ w3.heap.size = w2.heap.size := by omega); (try (refine bcUse (n := w2.heap.size) hb ?_ ?_; (focus ((try simp only [World.size_alloc, World.size_setCell, World.size_drew, World.heap_drewN]); omega)); intro _ _))) | (go_at_call 16; (refine (c_none_iv _ _).mono ?_); rintro e w4 ⟨rfl, hb⟩; have hz := hb.size; (try simp only [World.size_alloc, World.size_setCell, World.size_drew, World.heap_drewN] at hz); (try have h_w_0 : w.heap.size < w4.heap.size := by omega); (try have e_w_0 : ¬ w.heap.size = w4.heap.size := by omega); (try have d_w_0 : ¬ w4.heap.size = w.heap.size := by omega); (try (refine bcUse (n := w.heap.size) hb ?_ ?_; (focus ((try simp only [World.size_alloc, World.size_setCell, World.size_drew, World.heap_drewN]); omega)); intro _ _)); (try have h_w_1 : w.heap.size + 1 < w4.heap.size := by omega); (try have e_w_1 : ¬ w.heap.size + 1 = w4.heap.size := by omega); (try have d_w_1 : ¬ w4.heap.size = w.heap.size + 1 := by omega); (try (refine bcUse (n := w.heap.size + 1) hb ?_ ?_; (focus ((try simp only [World.size_alloc, World.size_setCell, World.size_drew, World.heap_drewN]); omega)); intro _ _)); (try have h_w1_0 : w1.heap.size < w4.heap.size := by omega); (try have e_w1_0 : ¬ w1.heap.size = w4.heap.size := by omega); (try have d_w1_0 : ¬ w4.heap.size = w1.heap.size := by omega); (try (refine bcUse (n := w1.heap.size) hb ?_ ?_; (focus ((try simp only [World.size_alloc, World.size_setCell, World.size_drew, World.heap_drewN]); omega)); intro _ _)); (try have h_w2_0 : w2.heap.size < w4.heap.size := by omega); (try have e_w2_0 : ¬ w2.heap.size = w4.heap.size := by omega); (try have d_w2_0 : ¬ w4.heap.size = w2.heap.size := by omega); (try (refine bcUse (n := w2.heap.size) hb ?_ ?_; (focus ((try simp only [World.size_alloc, World.size_setCell, World.size_drew, World.heap_drewN]); omega)); intro _ _)); (try have h_w3_0 : w3.heap.size < w4.heap.size := by omega); (try have e_w3_0 : ¬ w3.heap.size = w4.heap.size := by omega); (try have d_w3_0 : ¬ w4.heap.size = w3.heap.size := by omega); (try (refine bcUse (n := w3.heap.size) hb ?_ ?_; (focus ((try simp only [World.size_alloc, World.size_setCell, World.size_drew, World.heap_drewN]); omega)); intro _ _))))
  go_ret
  refine ⟨rfl, ?_⟩
  (repeat' (first | (with_reducible exact Below.refl _ _) | (with_reducible assumption) | (with_reducible refine Below.call ?_ ?_ (by with_reducible assumption)) | (with_reducible refine Below.alloc ?_ ?_ _) | (with_reducible refine Below.drew ?_) | (with_reducible refine below_drewN ?_ _) | (with_reducible refine Below.setCell ?_ ?_ _) | (with_reducible exact Nat.le_refl _) | omega | (simp only [World.size_alloc, World.size_setCell, World.size_drew, World.heap_drewN] at *; omega)))
theorem c_cmpV (na nb : Bool) (d d' : Nat → Int) (w : World) (x y : Int) (hd : Dig d) (hd' : Dig d') (hx : wsgn na (val6 d) = x) (hy : wsgn nb (val6 d') = y) :
    Calls Try.prog 19 #[.agg #[.bool na, .int .i64 (d 0), .int .i64 (d 1), .int .i64 (d 2), .int .i64 (d 3), .int .i64 (d 4), .int .i64 (d 5)], .agg #[.bool nb, .int .i64 (d' 0), .int .i64 (d' 1), .int .i64 (d' 2), .int .i64 (d' 3), .int .i64 (d' 4), .int .i64 (d' 5)]] w fun e w' => e = .returned (.int .i64 (cmpI x y)) ∧ Below w.heap.size w w' := by
  subst hx hy
  exact c_compare na nb d d' w hd hd'
theorem SpAt.at {w : World} {b : Nat} {lo hi : Int} (h : SpAt w b lo hi) {i : Nat} (hi' : i < 2) : w.cell? ⟨b, i, none⟩ = some (.int .i64 (two lo hi i)) := by
  rcases lt2 hi' with rfl | rfl
  · exact h.c0
  · exact h.c1
set_option maxRecDepth 100000 in
set_option maxHeartbeats 8000000 in
theorem walk_imul_in (al ah bl bh s t x : Int) (w : World) (he : twoErr al ah bl bh = 0) (hm : MadeR (pLo al ah bl bh 1) (pHi al ah bl bh 1) s t x) :
    Calls Try.prog 4 #[.agg #[.int .i64 al, .int .i64 ah], .agg #[.int .i64 bl, .int .i64 bh]] w fun e w' => e = .returned (.bool true) ∧ Below w.heap.size w w' := by
  obtain ⟨ha, hb⟩ := twoErr_zero he
  obtain ⟨a1, a2, a3⟩ := spanErr_zero ha
  obtain ⟨b1, b2, b3⟩ := spanErr_zero hb
  have HT := Lib.hid (fun w1 => c_two al ah bl bh w1)
  rw [he] at HT
  have HM := Lib.hid (fun w1 => c_Mul_ok al ah bl bh s t x w1 he hm)
  clear he ha hb
  have hgen := sgen; have hgen2 := sgen2; have hgen3 := sgen3; go_enter Try.func4, Try.ntmps4
  go_wp2_with (first | (go_at_call 11; (refine (c_intervalWorks _).mono ?_); rintro e w1 ⟨rfl, hb⟩; have hz := hb.size; (try simp only [World.size_alloc, World.size_setCell, World.size_drew, World.heap_drewN] at hz); (try have h_w_0 : w.heap.size < w1.heap.size := by omega); (try have e_w_0 : ¬ w.heap.size = w1.heap.size := by omega); (try have d_w_0 : ¬ w1.heap.size = w.heap.size := by omega); (try (refine bcUse (n := w.heap.size) hb ?_ ?_; (focus ((try simp only [World.size_alloc, World.size_setCell, World.size_drew, World.heap_drewN]); omega)); intro _ _)); (try have h_w_1 : w.heap.size + 1 < w1.heap.size := by omega); (try have e_w_1 : ¬ w.heap.size + 1 = w1.heap.size := by omega); (try have d_w_1 : ¬ w1.heap.size = w.heap.size + 1 := by omega); (try (refine bcUse (n := w.heap.size + 1) hb ?_ ?_; (focus ((try simp only [World.size_alloc, World.size_setCell, World.size_drew, World.heap_drewN]); omega)); intro _ _))) | (go_at_call 14; (with_reducible refine (HM.out _).mono ?_); rintro e w2 ⟨rfl, hb⟩; have hz := hb.size; (try simp only [World.size_alloc, World.size_setCell, World.size_drew, World.heap_drewN] at hz); (try have h_w_0 : w.heap.size < w2.heap.size := by omega); (try have e_w_0 : ¬ w.heap.size = w2.heap.size := by omega); (try have d_w_0 : ¬ w2.heap.size = w.heap.size := by omega); (try (refine bcUse (n := w.heap.size) hb ?_ ?_; (focus ((try simp only [World.size_alloc, World.size_setCell, World.size_drew, World.heap_drewN]); omega)); intro _ _)); (try have h_w_1 : w.heap.size + 1 < w2.heap.size := by omega); (try have e_w_1 : ¬ w.heap.size + 1 = w2.heap.size := by omega); (try have d_w_1 : ¬ w2.heap.size = w.heap.size + 1 := by omega); (try (refine bcUse (n := w.heap.size + 1) hb ?_ ?_; (focus ((try simp only [World.size_alloc, World.size_setCell, World.size_drew, World.heap_drewN]); omega)); intro _ _)); (try have h_w1_0 : w1.heap.size < w2.heap.size := by omega); (try have e_w1_0 : ¬ w1.heap.size = w2.heap.size := by omega); (try have d_w1_0 : ¬ w2.heap.size = w1.heap.size := by omega); (try (refine bcUse (n := w1.heap.size) hb ?_ ?_; (focus ((try simp only [World.size_alloc, World.size_setCell, World.size_drew, World.heap_drewN]); omega)); intro _ _))) | (go_at_call 15; (with_reducible refine (HT.out _).mono ?_); rintro e w3 ⟨rfl, hb⟩; have hz := hb.size; (try simp only [World.size_alloc, World.size_setCell, World.size_drew, World.heap_drewN] at hz); (try have h_w_0 : w.heap.size < w3.heap.size := by omega); (try have e_w_0 : ¬ w.heap.size = w3.heap.size := by omega); (try have d_w_0 : ¬ w3.heap.size = w.heap.size := by omega); (try (refine bcUse (n := w.heap.size) hb ?_ ?_; (focus ((try simp only [World.size_alloc, World.size_setCell, World.size_drew, World.heap_drewN]); omega)); intro _ _)); (try have h_w_1 : w.heap.size + 1 < w3.heap.size := by omega); (try have e_w_1 : ¬ w.heap.size + 1 = w3.heap.size := by omega); (try have d_w_1 : ¬ w3.heap.size = w.heap.size + 1 := by omega); (try (refine bcUse (n := w.heap.size + 1) hb ?_ ?_; (focus ((try simp only [World.size_alloc, World.size_setCell, World.size_drew, World.heap_drewN]); omega)); intro _ _)); (try have h_w1_0 : w1.heap.size < w3.heap.size := by omega); (try have e_w1_0 : ¬ w1.heap.size = w3.heap.size := by omega); (try have d_w1_0 : ¬ w3.heap.size = w1.heap.size := by omega); (try (refine bcUse (n := w1.heap.size) hb ?_ ?_; (focus ((try simp only [World.size_alloc, World.size_setCell, World.size_drew, World.heap_drewN]); omega)); intro _ _)); (try have h_w2_0 : w2.heap.size < w3.heap.size := by omega); (try have e_w2_0 : ¬ w2.heap.size = w3.heap.size := by omega); (try have d_w2_0 : ¬ w3.heap.size = w2.heap.size := by omega); (try (refine bcUse (n := w2.heap.size) hb ?_ ?_; (focus ((try simp only [World.size_alloc, World.size_setCell, World.size_drew, World.heap_drewN]); omega)); intro _ _))))
  have hbw3 : Below w.heap.size w w3 := by (repeat' (first | (with_reducible exact Below.refl _ _) | (with_reducible assumption) | (with_reducible refine Below.call ?_ ?_ (by with_reducible assumption)) | (with_reducible refine Below.alloc ?_ ?_ _) | (with_reducible refine Below.drew ?_) | (with_reducible refine below_drewN ?_ _) | (with_reducible refine Below.setCell ?_ ?_ _) | (with_reducible exact Nat.le_refl _) | omega | (simp only [World.size_alloc, World.size_setCell, World.size_drew, World.heap_drewN] at *; omega)))
  have hz3 := hbw3.size
  have hmc : (x = 0 ∧ MulOk al ah bl bh s t) ∨ (x = 14 ∧ s = 0 ∧ t = 0 ∧ ¬ ∀ i k, i < 2 → k < 2 → -1000000000000000000 ≤ two al ah i * two bl bh k ∧ two al ah i * two bl bh k ≤ 1000000000000000000) := by
    rcases hm with ⟨hs, rfl, rfl, rfl⟩ | ⟨hs, rfl, rfl, rfl⟩
    · exact .inl ⟨rfl, mul_ok hs⟩
    · exact .inr ⟨rfl, rfl, rfl, mul_no hs⟩
  have hst : -1000000000000000000 ≤ s ∧ s ≤ 1000000000000000000 ∧ -1000000000000000000 ≤ t ∧ t ≤ 1000000000000000000 := by
    rcases hm with ⟨hs, rfl, rfl, rfl⟩ | ⟨hs, rfl, rfl, rfl⟩
    · have := spanErr_zero hs; omega
    · omega
  have HMC := Lib.hid hmc
  obtain ⟨st1, st2, st3, st4⟩ := hst
  clear hmc hm HT HM
  have SA : SpAt (w3.alloc (.cells #[.int .i64 al, .int .i64 ah] 3 (0, 0))) w.heap.size al ah := by constructor <;> go_simp
  have SB : SpAt (w3.alloc (.cells #[.int .i64 al, .int .i64 ah] 3 (0, 0))) (w.heap.size + 1) bl bh := by constructor <;> go_simp
  have SS : SpAt (w3.alloc (.cells #[.int .i64 al, .int .i64 ah] 3 (0, 0))) w2.heap.size s t := by constructor <;> go_simp
  have SP : SpAt (w3.alloc (.cells #[.int .i64 al, .int .i64 ah] 3 (0, 0))) w3.heap.size al ah := by constructor <;> go_simp
  go_loopg [8, 9, 40] 2 (fun gk x8 x9 i wr => ∃ (ii : Nat) (lw hg : Bool), gk + ii = 2 ∧ i = .int .i64 ii ∧ x8 = .bool lw ∧ x9 = .bool hg ∧ MulAcc al ah bl bh s t (2 * ii) lw hg ∧ SpAt wr w.heap.size al ah ∧ SpAt wr (w.heap.size + 1) bl bh ∧ SpAt wr w2.heap.size s t ∧ SpAt wr w3.heap.size al ah ∧ Below w.heap.size w wr)
  case atStart => exact ⟨0, false, false, rfl, rfl, rfl, rfl, mulAcc_zero _ _ _ _ _ _ _ _, SA, SB, SS, SP, by (repeat' (first | (with_reducible exact Below.refl _ _) | (with_reducible assumption) | (with_reducible refine Below.call ?_ ?_ (by with_reducible assumption)) | (with_reducible refine Below.alloc ?_ ?_ _) | (with_reducible refine Below.drew ?_) | (with_reducible refine below_drewN ?_ _) | (with_reducible refine Below.setCell ?_ ?_ _) | (with_reducible exact Nat.le_refl _) | omega | (simp only [World.size_alloc, World.size_setCell, World.size_drew, World.heap_drewN] at *; omega)))⟩
  case round =>
    clear SA SB SS SP
    obtain ⟨i, lw, hg, hi, rfl, rfl, rfl, hacc, SA, SB, SS, SP, hbel⟩ := hrel
    have hsz := hbel.size
    by_cases hlt : i < 2
    · have hiz : (i : Int) < 2 := by omega
      have e1 := SP.at hlt
      obtain ⟨bb0, bb1, bb2, _, _⟩ := SB
      have SB : SpAt wr (w.heap.size + 1) bl bh := ⟨bb0, bb1, bb2, by assumption, by assumption⟩
      have HAC := Lib.hid hacc
      have HSA := Lib.hid SA; have HSB := Lib.hid SB; have HSS := Lib.hid SS; have HSP := Lib.hid SP
      clear hacc SA SB SS SP
      obtain ⟨wo, rfl⟩ : ∃ wo : World, wo = wr := ⟨_, rfl⟩
      go_wp2_with fail
      have T0 : SpAt (wo.alloc (.cells #[.int .i64 bl, .int .i64 bh] 3 (0, 0))) wo.heap.size bl bh := by constructor <;> go_simp
      have hba : Below wo.heap.size wo (wo.alloc (.cells #[.int .i64 bl, .int .i64 bh] 3 (0, 0))) := by (repeat' (first | (with_reducible exact Below.refl _ _) | (with_reducible assumption) | (with_reducible refine Below.call ?_ ?_ (by with_reducible assumption)) | (with_reducible refine Below.alloc ?_ ?_ _) | (with_reducible refine Below.drew ?_) | (with_reducible refine below_drewN ?_ _) | (with_reducible refine Below.setCell ?_ ?_ _) | (with_reducible exact Nat.le_refl _) | omega | (simp only [World.size_alloc, World.size_setCell, World.size_drew, World.heap_drewN] at *; omega)))
      have TA := HSA.out.below hba
      have TB := HSB.out.below hba
      have TS := HSS.out.below hba
      have TP := HSP.out.below hba
      clear HSA HSB HSS HSP bb0 bb1 bb2 e1
      have xi : -1000000000000000000 ≤ two al ah i ∧ two al ah i ≤ 1000000000000000000 := by rcases two_cases al ah i with q | q <;> rw [q] <;> omega
      obtain ⟨xi1, xi2⟩ := xi
      go_loopg [8, 9, 50] 2 (fun gk x8 x9 j wr => ∃ (kk : Nat) (lw hg : Bool), gk + kk = 2 ∧ j = .int .i64 kk ∧ x8 = .bool lw ∧ x9 = .bool hg ∧ MulAcc al ah bl bh s t (2 * i + kk) lw hg ∧ SpAt wr w.heap.size al ah ∧ SpAt wr (w.heap.size + 1) bl bh ∧ SpAt wr w2.heap.size s t ∧ SpAt wr w3.heap.size al ah ∧ SpAt wr wo.heap.size bl bh ∧ Below w.heap.size w wr)
      case atStart => exact ⟨0, lw, hg, rfl, rfl, rfl, rfl, HAC.out, TA, TB, TS, TP, T0, by (repeat' (first | (with_reducible exact Below.refl _ _) | (with_reducible assumption) | (with_reducible refine Below.call ?_ ?_ (by with_reducible assumption)) | (with_reducible refine Below.alloc ?_ ?_ _) | (with_reducible refine Below.drew ?_) | (with_reducible refine below_drewN ?_ _) | (with_reducible refine Below.setCell ?_ ?_ _) | (with_reducible exact Nat.le_refl _) | omega | (simp only [World.size_alloc, World.size_setCell, World.size_drew, World.heap_drewN] at *; omega)))⟩
      case round =>
        clear TA TB TS TP T0 hba HAC hbel
        obtain ⟨k, lw, hg, hk, rfl, rfl, rfl, hacc, SA, SB, SS, SP, SQ, hbel⟩ := hrel
        have hsz' := hbel.size
        by_cases hkt : k < 2
        · have hkz : (k : Int) < 2 := by omega
          have e2 := SQ.at hkt
          obtain ⟨ss0, ss1, ss2, _, _⟩ := SS
          have SS : SpAt wr w2.heap.size s t := ⟨ss0, ss1, ss2, by assumption, by assumption⟩
          have xk : -1000000000000000000 ≤ two bl bh k ∧ two bl bh k ≤ 1000000000000000000 := by rcases two_cases bl bh k with q | q <;> rw [q] <;> omega
          obtain ⟨xk1, xk2⟩ := xk
          have HP := Lib.hid (fun w1 => c_wproduct (two al ah i) (two bl bh k) w1 (by omega) (by omega) (by omega) (by omega))
          have HAC := Lib.hid hacc
          have HSA := Lib.hid SA; have HSB := Lib.hid SB; have HSS := Lib.hid SS; have HSP := Lib.hid SP; have HSQ := Lib.hid SQ
          clear hacc SA SB SS SP SQ
          by_cases hfine : -1000000000000000000 ≤ two al ah i * two bl bh k ∧ two al ah i * two bl bh k ≤ 1000000000000000000
          · obtain ⟨hf1, hf2⟩ := hfine
            go_upto_region 17 with (first | (go_at_call 17; (with_reducible refine (HP.out _).mono ?_); rintro e w5 ⟨⟨np, dp, rfl, hdp, hvp⟩, hb⟩; have hz := hb.size; (try simp only [World.size_alloc, World.size_setCell, World.size_drew, World.heap_drewN] at hz); (try have h_wr_0 : wr.heap.size < w5.heap.size := by omega); (try have e_wr_0 : ¬ wr.heap.size = w5.heap.size := by omega); (try have d_wr_0 : ¬ w5.heap.size = wr.heap.size := by omega); (try (refine bcUse (n := wr.heap.size) hb ?_ ?_; (focus ((try simp only [World.size_alloc, World.size_setCell, World.size_drew, World.heap_drewN]); omega)); intro _ _)); (try have h_w2_0 : w2.heap.size < w5.heap.size := by omega); (try have e_w2_0 : ¬ w2.heap.size = w5.heap.size := by omega); (try have d_w2_0 : ¬ w5.heap.size = w2.heap.size := by omega); (try (refine bcUse (n := w2.heap.size) hb ?_ ?_; (focus ((try simp only [World.size_alloc, World.size_setCell, World.size_drew, World.heap_drewN]); omega)); intro _ _))) | (go_at_call 18; (with_reducible refine (c_fine_yes np dp _ hdp _ hvp hf1 hf2).mono ?_); rintro e w6 ⟨rfl, hb⟩; have hz := hb.size; (try simp only [World.size_alloc, World.size_setCell, World.size_drew, World.heap_drewN] at hz); (try have h_wr_0 : wr.heap.size < w6.heap.size := by omega); (try have e_wr_0 : ¬ wr.heap.size = w6.heap.size := by omega); (try have d_wr_0 : ¬ w6.heap.size = wr.heap.size := by omega); (try (refine bcUse (n := wr.heap.size) hb ?_ ?_; (focus ((try simp only [World.size_alloc, World.size_setCell, World.size_drew, World.heap_drewN]); omega)); intro _ _)); (try have h_w2_0 : w2.heap.size < w6.heap.size := by omega); (try have e_w2_0 : ¬ w2.heap.size = w6.heap.size := by omega); (try have d_w2_0 : ¬ w6.heap.size = w2.heap.size := by omega); (try (refine bcUse (n := w2.heap.size) hb ?_ ?_; (focus ((try simp only [World.size_alloc, World.size_setCell, World.size_drew, World.heap_drewN]); omega)); intro _ _)); (try have h_w5_0 : w5.heap.size < w6.heap.size := by omega); (try have e_w5_0 : ¬ w5.heap.size = w6.heap.size := by omega); (try have d_w5_0 : ¬ w6.heap.size = w5.heap.size := by omega); (try (refine bcUse (n := w5.heap.size) hb ?_ ?_; (focus ((try simp only [World.size_alloc, World.size_setCell, World.size_drew, World.heap_drewN]); omega)); intro _ _))))
            have hz5 : w2.heap.size < w5.heap.size := by omega
            have hw6 : Below wr.heap.size wr w6 := by (repeat' (first | (with_reducible exact Below.refl _ _) | (with_reducible assumption) | (with_reducible refine Below.call ?_ ?_ (by with_reducible assumption)) | (with_reducible refine Below.alloc ?_ ?_ _) | (with_reducible refine Below.drew ?_) | (with_reducible refine below_drewN ?_ _) | (with_reducible refine Below.setCell ?_ ?_ _) | (with_reducible exact Nat.le_refl _) | omega | (simp only [World.size_alloc, World.size_setCell, World.size_drew, World.heap_drewN] at *; omega)))
            have hbw6 : Below w.heap.size w w6 := by (repeat' (first | (with_reducible exact Below.refl _ _) | (with_reducible assumption) | (with_reducible refine Below.call ?_ ?_ (by with_reducible assumption)) | (with_reducible refine Below.alloc ?_ ?_ _) | (with_reducible refine Below.drew ?_) | (with_reducible refine below_drewN ?_ _) | (with_reducible refine Below.setCell ?_ ?_ _) | (with_reducible exact Nat.le_refl _) | omega | (simp only [World.size_alloc, World.size_setCell, World.size_drew, World.heap_drewN] at *; omega)))
            have TA := HSA.out.below hw6
            have TB := HSB.out.below hw6
            have TS := HSS.out.below hw6
            have TP := HSP.out.below hw6
            have TQ := HSQ.out.below hw6
            clear HSA HSB HSS HSP HSQ e2
            have HTS := Lib.hid (fun w1 => c_toWideIs s w1 (by omega) (by omega))
            have HTT := Lib.hid (fun w1 => c_toWideIs t w1 (by omega) (by omega))
            go_cut [15, 16] (fun x15 x16 wc => x15 = .int .i64 (cmpI s (two al ah i * two bl bh k)) ∧ x16 = .int .i64 (cmpI (two al ah i * two bl bh k) t) ∧ SpAt wc w.heap.size al ah ∧ SpAt wc (w.heap.size + 1) bl bh ∧ SpAt wc w2.heap.size s t ∧ SpAt wc w3.heap.size al ah ∧ SpAt wc wo.heap.size bl bh ∧ Below w.heap.size w wc)
            case first =>
              have HTA := Lib.hid TA; have HTB := Lib.hid TB; have HTS' := Lib.hid TS; have HTP := Lib.hid TP; have HTQ := Lib.hid TQ
              clear TA TB TS TP TQ
              go_wp2_with fail
              go_region_held3 (fun w' => w'.cell? ⟨w2.heap.size, 0, none⟩ = some (.int .i64 s) ∧ w'.cell? ⟨w2.heap.size, 1, none⟩ = some (.int .i64 t) ∧ w'.cell? ⟨w5.heap.size, 0, none⟩ = some (.bool np) ∧ w'.cell? ⟨w5.heap.size, 1, none⟩ = some (.int .i64 (dp 0)) ∧ w'.cell? ⟨w5.heap.size, 2, none⟩ = some (.int .i64 (dp 1)) ∧ w'.cell? ⟨w5.heap.size, 3, none⟩ = some (.int .i64 (dp 2)) ∧ w'.cell? ⟨w5.heap.size, 4, none⟩ = some (.int .i64 (dp 3)) ∧ w'.cell? ⟨w5.heap.size, 5, none⟩ = some (.int .i64 (dp 4)) ∧ w'.cell? ⟨w5.heap.size, 6, none⟩ = some (.int .i64 (dp 5))) (refine ⟨?_, ?_, ?_, ?_, ?_, ?_, ?_, ?_, ?_⟩ <;> (first | (go_simp; done) | go_keep)) (first | (go_at_call 20; (with_reducible refine (HTS.out _).mono ?_); rintro e w7 ⟨⟨ns, ds, rfl, hds, hvs⟩, hb⟩; have hz := hb.size; (try simp only [World.size_alloc, World.size_setCell, World.size_drew, World.heap_drewN] at hz); (try have h_w2_0 : w2.heap.size < w7.heap.size := by omega); (try have e_w2_0 : ¬ w2.heap.size = w7.heap.size := by omega); (try have d_w2_0 : ¬ w7.heap.size = w2.heap.size := by omega); (try (refine bcUse (n := w2.heap.size) hb ?_ ?_; (focus ((try simp only [World.size_alloc, World.size_setCell, World.size_drew, World.heap_drewN]); omega)); intro _ _)); (try have h_w5_0 : w5.heap.size < w7.heap.size := by omega); (try have e_w5_0 : ¬ w5.heap.size = w7.heap.size := by omega); (try have d_w5_0 : ¬ w7.heap.size = w5.heap.size := by omega); (try (refine bcUse (n := w5.heap.size) hb ?_ ?_; (focus ((try simp only [World.size_alloc, World.size_setCell, World.size_drew, World.heap_drewN]); omega)); intro _ _))) | (go_at_call 20; (with_reducible refine (HTT.out _).mono ?_); rintro e w8 ⟨⟨nt, dt, rfl, hdt, hvt⟩, hb⟩; have hz := hb.size; (try simp only [World.size_alloc, World.size_setCell, World.size_drew, World.heap_drewN] at hz); (try have h_w2_0 : w2.heap.size < w8.heap.size := by omega); (try have e_w2_0 : ¬ w2.heap.size = w8.heap.size := by omega); (try have d_w2_0 : ¬ w8.heap.size = w2.heap.size := by omega); (try (refine bcUse (n := w2.heap.size) hb ?_ ?_; (focus ((try simp only [World.size_alloc, World.size_setCell, World.size_drew, World.heap_drewN]); omega)); intro _ _)); (try have h_w5_0 : w5.heap.size < w8.heap.size := by omega); (try have e_w5_0 : ¬ w5.heap.size = w8.heap.size := by omega); (try have d_w5_0 : ¬ w8.heap.size = w5.heap.size := by omega); (try (refine bcUse (n := w5.heap.size) hb ?_ ?_; (focus ((try simp only [World.size_alloc, World.size_setCell, World.size_drew, World.heap_drewN]); omega)); intro _ _))) | (go_at_call 19; (with_reducible refine (c_cmpV ns np ds dp _ _ _ hds hdp hvs hvp).mono ?_); rintro e w9 ⟨rfl, hb⟩; have hz := hb.size; (try simp only [World.size_alloc, World.size_setCell, World.size_drew, World.heap_drewN] at hz); (try have h_w2_0 : w2.heap.size < w9.heap.size := by omega); (try have e_w2_0 : ¬ w2.heap.size = w9.heap.size := by omega); (try have d_w2_0 : ¬ w9.heap.size = w2.heap.size := by omega); (try (refine bcUse (n := w2.heap.size) hb ?_ ?_; (focus ((try simp only [World.size_alloc, World.size_setCell, World.size_drew, World.heap_drewN]); omega)); intro _ _)); (try have h_w5_0 : w5.heap.size < w9.heap.size := by omega); (try have e_w5_0 : ¬ w5.heap.size = w9.heap.size := by omega); (try have d_w5_0 : ¬ w9.heap.size = w5.heap.size := by omega); (try (refine bcUse (n := w5.heap.size) hb ?_ ?_; (focus ((try simp only [World.size_alloc, World.size_setCell, World.size_drew, World.heap_drewN]); omega)); intro _ _))) | (go_at_call 19; (with_reducible refine (c_cmpV np nt dp dt _ _ _ hdp hdt hvp hvt).mono ?_); rintro e w10 ⟨rfl, hb⟩; have hz := hb.size; (try simp only [World.size_alloc, World.size_setCell, World.size_drew, World.heap_drewN] at hz); (try have h_w2_0 : w2.heap.size < w10.heap.size := by omega); (try have e_w2_0 : ¬ w2.heap.size = w10.heap.size := by omega); (try have d_w2_0 : ¬ w10.heap.size = w2.heap.size := by omega); (try (refine bcUse (n := w2.heap.size) hb ?_ ?_; (focus ((try simp only [World.size_alloc, World.size_setCell, World.size_drew, World.heap_drewN]); omega)); intro _ _)); (try have h_w5_0 : w5.heap.size < w10.heap.size := by omega); (try have e_w5_0 : ¬ w5.heap.size = w10.heap.size := by omega); (try have d_w5_0 : ¬ w10.heap.size = w5.heap.size := by omega); (try (refine bcUse (n := w5.heap.size) hb ?_ ?_; (focus ((try simp only [World.size_alloc, World.size_setCell, World.size_drew, World.heap_drewN]); omega)); intro _ _))))
              all_goals go_wp2_with fail
              all_goals go_meet
              all_goals refine ⟨rfl, rfl, HTA.out.below (by (repeat' (first | (with_reducible exact Below.refl _ _) | (with_reducible assumption) | (with_reducible refine Below.call ?_ ?_ (by with_reducible assumption)) | (with_reducible refine Below.alloc ?_ ?_ _) | (with_reducible refine Below.drew ?_) | (with_reducible refine below_drewN ?_ _) | (with_reducible refine Below.setCell ?_ ?_ _) | (with_reducible exact Nat.le_refl _) | omega | (simp only [World.size_alloc, World.size_setCell, World.size_drew, World.heap_drewN] at *; omega)))), HTB.out.below (by (repeat' (first | (with_reducible exact Below.refl _ _) | (with_reducible assumption) | (with_reducible refine Below.call ?_ ?_ (by with_reducible assumption)) | (with_reducible refine Below.alloc ?_ ?_ _) | (with_reducible refine Below.drew ?_) | (with_reducible refine below_drewN ?_ _) | (with_reducible refine Below.setCell ?_ ?_ _) | (with_reducible exact Nat.le_refl _) | omega | (simp only [World.size_alloc, World.size_setCell, World.size_drew, World.heap_drewN] at *; omega)))), HTS'.out.below (by (repeat' (first | (with_reducible exact Below.refl _ _) | (with_reducible assumption) | (with_reducible refine Below.call ?_ ?_ (by with_reducible assumption)) | (with_reducible refine Below.alloc ?_ ?_ _) | (with_reducible refine Below.drew ?_) | (with_reducible refine below_drewN ?_ _) | (with_reducible refine Below.setCell ?_ ?_ _) | (with_reducible exact Nat.le_refl _) | omega | (simp only [World.size_alloc, World.size_setCell, World.size_drew, World.heap_drewN] at *; omega)))), HTP.out.below (by (repeat' (first | (with_reducible exact Below.refl _ _) | (with_reducible assumption) | (with_reducible refine Below.call ?_ ?_ (by with_reducible assumption)) | (with_reducible refine Below.alloc ?_ ?_ _) | (with_reducible refine Below.drew ?_) | (with_reducible refine below_drewN ?_ _) | (with_reducible refine Below.setCell ?_ ?_ _) | (with_reducible exact Nat.le_refl _) | omega | (simp only [World.size_alloc, World.size_setCell, World.size_drew, World.heap_drewN] at *; omega)))), HTQ.out.below (by (repeat' (first | (with_reducible exact Below.refl _ _) | (with_reducible assumption) | (with_reducible refine Below.call ?_ ?_ (by with_reducible assumption)) | (with_reducible refine Below.alloc ?_ ?_ _) | (with_reducible refine Below.drew ?_) | (with_reducible refine below_drewN ?_ _) | (with_reducible refine Below.setCell ?_ ?_ _) | (with_reducible exact Nat.le_refl _) | omega | (simp only [World.size_alloc, World.size_setCell, World.size_drew, World.heap_drewN] at *; omega)))), by (repeat' (first | (with_reducible exact Below.refl _ _) | (with_reducible assumption) | (with_reducible refine Below.call ?_ ?_ (by with_reducible assumption)) | (with_reducible refine Below.alloc ?_ ?_ _) | (with_reducible refine Below.drew ?_) | (with_reducible refine below_drewN ?_ _) | (with_reducible refine Below.setCell ?_ ?_ _) | (with_reducible exact Nat.le_refl _) | omega | (simp only [World.size_alloc, World.size_setCell, World.size_drew, World.heap_drewN] at *; omega)))⟩
            case rest =>
              clear TA TB TS TP TQ HTS HTT
              obtain ⟨rfl, rfl, TA, TB, TS, TP, TQ, hbc⟩ := hcut
              have HC1 := Lib.hid (fun (e : two al ah i * two bl bh k = s) => (cmpI_eq e.symm : cmpI s (two al ah i * two bl bh k) = 0))
              have HC2 := Lib.hid (fun (e : two al ah i * two bl bh k = t) => (cmpI_eq e : cmpI (two al ah i * two bl bh k) t = 0))
              have HC3 := Lib.hid (fun (e : s ≤ two al ah i * two bl bh k) => (by unfold cmpI; split <;> (try split) <;> omega : ¬ 0 < cmpI s (two al ah i * two bl bh k)))
              have HC4 := Lib.hid (fun (e : two al ah i * two bl bh k ≤ t) => (by unfold cmpI; split <;> (try split) <;> omega : ¬ 0 < cmpI (two al ah i * two bl bh k) t))
              generalize cmpI s (two al ah i * two bl bh k) = c1 at *
              generalize cmpI (two al ah i * two bl bh k) t = c2 at *
              have HTA := Lib.hid TA; have HTB := Lib.hid TB; have HTS := Lib.hid TS; have HTP := Lib.hid TP; have HTQ := Lib.hid TQ
              have HBC := Lib.hid hbc
              have HF1 := Lib.hid hf1; have HF2 := Lib.hid hf2
              clear TA TB TS TP TQ hbc hf1 hf2 hvp hdp
              rcases HMC.out with ⟨rfl, hok⟩ | ⟨rfl, rfl, rfl, hno⟩
              · have t1 : decide (0 < c1) = false := decide_eq_false (HC3.out (hok.le i k hlt hkt))
                have t2 : decide (0 < c2) = false := decide_eq_false (HC4.out (hok.ge i k hlt hkt))
                clear hok
                cases lw <;> cases hg
                all_goals
                  go_wp2_with fail
                  go_roundg (1 - k)
                  focus
                    refine ⟨k + 1, _, _, by omega, by go_num, rfl, rfl, mulAcc_step HAC.out hkt HF1.out HF2.out _ _ ?_ ?_ ?_ ?_, HTA.out, HTB.out, HTS.out, HTP.out, HTQ.out, HBC.out⟩
                    all_goals first | (intro _; rfl) | (intro h; cases h; done) | (intro e; simp [HC1.out e]; done) | (intro e; simp [HC2.out e])
                  omega
              · clear hno
                cases lw <;> cases hg
                all_goals
                  go_wp2_with fail
                  go_roundg (1 - k)
                  focus
                    refine ⟨k + 1, _, _, by omega, by go_num, rfl, rfl, mulAcc_step HAC.out hkt HF1.out HF2.out _ _ ?_ ?_ ?_ ?_, HTA.out, HTB.out, HTS.out, HTP.out, HTQ.out, HBC.out⟩
                    all_goals first | (intro _; rfl) | (intro h; cases h; done) | (intro e; simp [HC1.out e]; done) | (intro e; simp [HC2.out e])
                  omega
          · rcases HMC.out with ⟨rfl, hok⟩ | ⟨rfl, rfl, rfl, hno⟩
            · exact absurd (hok.fine i k hlt hkt) hfine
            · have hf' : two al ah i * two bl bh k < -1000000000000000000 ∨ 1000000000000000000 < two al ah i * two bl bh k := by omega
              clear hno hfine
              go_wp2_with (first | (go_at_call 17; (with_reducible refine (HP.out _).mono ?_); rintro e w5 ⟨⟨np, dp, rfl, hdp, hvp⟩, hb⟩; have hz := hb.size; (try simp only [World.size_alloc, World.size_setCell, World.size_drew, World.heap_drewN] at hz); (try have h_wr_0 : wr.heap.size < w5.heap.size := by omega); (try have e_wr_0 : ¬ wr.heap.size = w5.heap.size := by omega); (try have d_wr_0 : ¬ w5.heap.size = wr.heap.size := by omega); (try (refine bcUse (n := wr.heap.size) hb ?_ ?_; (focus ((try simp only [World.size_alloc, World.size_setCell, World.size_drew, World.heap_drewN]); omega)); intro _ _)); (try have h_w2_0 : w2.heap.size < w5.heap.size := by omega); (try have e_w2_0 : ¬ w2.heap.size = w5.heap.size := by omega); (try have d_w2_0 : ¬ w5.heap.size = w2.heap.size := by omega); (try (refine bcUse (n := w2.heap.size) hb ?_ ?_; (focus ((try simp only [World.size_alloc, World.size_setCell, World.size_drew, World.heap_drewN]); omega)); intro _ _))) | (go_at_call 18; (with_reducible refine (c_fine_no np dp _ hdp _ hvp hf').mono ?_); rintro e w6 ⟨rfl, hb⟩; have hz := hb.size; (try simp only [World.size_alloc, World.size_setCell, World.size_drew, World.heap_drewN] at hz); (try have h_wr_0 : wr.heap.size < w6.heap.size := by omega); (try have e_wr_0 : ¬ wr.heap.size = w6.heap.size := by omega); (try have d_wr_0 : ¬ w6.heap.size = wr.heap.size := by omega); (try (refine bcUse (n := wr.heap.size) hb ?_ ?_; (focus ((try simp only [World.size_alloc, World.size_setCell, World.size_drew, World.heap_drewN]); omega)); intro _ _)); (try have h_w2_0 : w2.heap.size < w6.heap.size := by omega); (try have e_w2_0 : ¬ w2.heap.size = w6.heap.size := by omega); (try have d_w2_0 : ¬ w6.heap.size = w2.heap.size := by omega); (try (refine bcUse (n := w2.heap.size) hb ?_ ?_; (focus ((try simp only [World.size_alloc, World.size_setCell, World.size_drew, World.heap_drewN]); omega)); intro _ _)); (try have h_w5_0 : w5.heap.size < w6.heap.size := by omega); (try have e_w5_0 : ¬ w5.heap.size = w6.heap.size := by omega); (try have d_w5_0 : ¬ w6.heap.size = w5.heap.size := by omega); (try (refine bcUse (n := w5.heap.size) hb ?_ ?_; (focus ((try simp only [World.size_alloc, World.size_setCell, World.size_drew, World.heap_drewN]); omega)); intro _ _))) | (go_at_call 16; (refine (c_none_iv _ _).mono ?_); rintro e w7 ⟨rfl, hb⟩; have hz := hb.size; (try simp only [World.size_alloc, World.size_setCell, World.size_drew, World.heap_drewN] at hz); (try have h_wr_0 : wr.heap.size < w7.heap.size := by omega); (try have e_wr_0 : ¬ wr.heap.size = w7.heap.size := by omega); (try have d_wr_0 : ¬ w7.heap.size = wr.heap.size := by omega); (try (refine bcUse (n := wr.heap.size) hb ?_ ?_; (focus ((try simp only [World.size_alloc, World.size_setCell, World.size_drew, World.heap_drewN]); omega)); intro _ _)); (try have h_w2_0 : w2.heap.size < w7.heap.size := by omega); (try have e_w2_0 : ¬ w2.heap.size = w7.heap.size := by omega); (try have d_w2_0 : ¬ w7.heap.size = w2.heap.size := by omega); (try (refine bcUse (n := w2.heap.size) hb ?_ ?_; (focus ((try simp only [World.size_alloc, World.size_setCell, World.size_drew, World.heap_drewN]); omega)); intro _ _)); (try have h_w5_0 : w5.heap.size < w7.heap.size := by omega); (try have e_w5_0 : ¬ w5.heap.size = w7.heap.size := by omega); (try have d_w5_0 : ¬ w7.heap.size = w5.heap.size := by omega); (try (refine bcUse (n := w5.heap.size) hb ?_ ?_; (focus ((try simp only [World.size_alloc, World.size_setCell, World.size_drew, World.heap_drewN]); omega)); intro _ _)); (try have h_w6_0 : w6.heap.size < w7.heap.size := by omega); (try have e_w6_0 : ¬ w6.heap.size = w7.heap.size := by omega); (try have d_w6_0 : ¬ w7.heap.size = w6.heap.size := by omega); (try (refine bcUse (n := w6.heap.size) hb ?_ ?_; (focus ((try simp only [World.size_alloc, World.size_setCell, World.size_drew, World.heap_drewN]); omega)); intro _ _))))
              go_ret
              refine ⟨rfl, ?_⟩
              (repeat' (first | (with_reducible exact Below.refl _ _) | (with_reducible assumption) | (with_reducible refine Below.call ?_ ?_ (by with_reducible assumption)) | (with_reducible refine Below.alloc ?_ ?_ _) | (with_reducible refine Below.drew ?_) | (with_reducible refine below_drewN ?_ _) | (with_reducible refine Below.setCell ?_ ?_ _) | (with_reducible exact Nat.le_refl _) | omega | (simp only [World.size_alloc, World.size_setCell, World.size_drew, World.heap_drewN] at *; omega)))
        · obtain rfl : k = 2 := by omega
          have HAC := Lib.hid (show MulAcc al ah bl bh s t (2 * (i + 1)) lw hg from hacc)
          have HSA := Lib.hid SA; have HSB := Lib.hid SB; have HSS := Lib.hid SS; have HSP := Lib.hid SP
          clear hacc SA SB SS SP SQ
          go_wp2_with fail
          go_roundg (1 - i)
          case measure => omega
          case rel => exact ⟨i + 1, lw, hg, by omega, by go_num, rfl, rfl, HAC.out, HSA.out, HSB.out, HSS.out, HSP.out, hbel⟩
    · obtain rfl : i = 2 := by omega
      rcases HMC.out with ⟨rfl, hok⟩ | ⟨rfl, rfl, rfl, hno⟩
      · obtain ⟨i1, k1, hi1, hk1, p1⟩ := hok.low
        obtain ⟨i2, k2, hi2, hk2, p2⟩ := hok.high
        obtain rfl := hacc.low i1 k1 hi1 hk1 (by omega) p1
        obtain rfl := hacc.high i2 k2 hi2 hk2 (by omega) p2
        clear hok hacc p1 p2 SA SB SS SP
        go_wp2_with fail
        go_ret
        exact ⟨rfl, hbel⟩
      · exact absurd (fun i k h1 h2 => hacc.fine i k h1 h2 (by omega)) hno
theorem walk_imul (al ah bl bh : Int) (w : World) : Calls Try.prog 4 #[.agg #[.int .i64 al, .int .i64 ah], .agg #[.int .i64 bl, .int .i64 bh]] w fun e w' => e = .returned (.bool true) ∧ Below w.heap.size w w' := by
  by_cases he : twoErr al ah bl bh = 0
  · obtain ⟨s, t, x, hm⟩ := made_ex (pLo al ah bl bh 1) (pHi al ah bl bh 1)
    exact walk_imul_in al ah bl bh s t x w he hm
  · exact walk_imul_bad al ah bl bh w he
end Go.Proofs.Ytpgoahbmeedghaa
