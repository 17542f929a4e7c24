/- Contracts of trig.Times, Plus, Minus, of sun.Tilt, and of trig.Arc at any intervals that are right. -/
import Derived.Test.YtmjdcabniefifaaDoorWalkAsin
import Derived.Test.YtmjdcabniefifaaDoorWalkOv
import Derived.Test.YtmjdcabniefifaaDoorEqB
set_option linter.unusedVariables false
set_option linter.unusedSimpArgs false
namespace Go.Proofs.YtmjdcabniefifaaDoor
open Go.RowKit
theorem sp_rat {al ah bl bh : Int} (ha : Sp1 al ah) (hb : Sp1 bl bh) : ∀ a b : Int, (a = al ∨ a = ah) → (b = bl ∨ b = bh) → RatOk a b 1000000000 := by
  intro a b ea eb
  obtain ⟨a0, a1, a2⟩ := ha
  obtain ⟨b0, b1, b2⟩ := hb
  left
  have h1 := absI_bd (a := a) (m := 1000000000) (by omega) (by omega)
  have h2 := absI_bd (a := b) (m := 1000000000) (by omega) (by omega)
  have h := Int.mul_le_mul h1 h2 (absI_nn b) (by decide)
  omega
theorem c_Times (al ah bl bh : Int) (w : World) (ha : Sp1 al ah) (hb : Sp1 bl bh) :
    Calls Tryd.prog 49 #[.agg #[.int .i64 al, .int .i64 ah], .agg #[.int .i64 bl, .int .i64 bh]] w fun e w' => e = .returned (.agg #[.int .i64 (pLo al ah bl bh 1000000000), .int .i64 (pHi al ah bl bh 1000000000)]) ∧ Below w.heap.size w w' := by
  have hr := sp_rat ha hb
  obtain ⟨a0, a1, a2⟩ := ha
  obtain ⟨b0, b1, b2⟩ := hb
  have HP := Lib.hid (fun w1 => c_product al ah bl bh 1000000000 w1 (by omega) (by omega) (by omega) (by omega) (by omega) (by omega) (by omega) (by omega) (by omega) (by omega) (hr _ _ (.inl rfl) (.inl rfl)) (hr _ _ (.inl rfl) (.inr rfl)) (hr _ _ (.inr rfl) (.inl rfl)) (hr _ _ (.inr rfl) (.inr rfl)))
  clear hr
  generalize pLo al ah bl bh 1000000000 = p at *
  generalize pHi al ah bl bh 1000000000 = q at *
  have hgen := sgen; have hgen2 := sgen2; have hgen3 := sgen3; go_enter Tryd.func49, Tryd.ntmps49
  go_wp2_with (go_at_call 71; (refine (HP.out _).mono ?_); rintro e w1 ⟨rfl, hb⟩; have hz := hb.size; (try simp only [World.size_alloc, World.size_setCell, World.size_drew, World.heap_drewN] at hz); (try have h_w_0 : w.heap.size < w1.heap.size := by omega); (try have e_w_0 : ¬ w.heap.size = w1.heap.size := by omega); (try have d_w_0 : ¬ w1.heap.size = w.heap.size := by omega); (try (refine bcUse (n := w.heap.size) hb ?_ ?_; (focus ((try simp only [World.size_alloc, World.size_setCell, World.size_drew, World.heap_drewN]); omega)); intro _ _)); (try have h_w_1 : w.heap.size + 1 < w1.heap.size := by omega); (try have e_w_1 : ¬ w.heap.size + 1 = w1.heap.size := by omega); (try have d_w_1 : ¬ w1.heap.size = w.heap.size + 1 := by omega); (try (refine bcUse (n := w.heap.size + 1) hb ?_ ?_; (focus ((try simp only [World.size_alloc, World.size_setCell, World.size_drew, World.heap_drewN]); omega)); intro _ _)); (try have h_w_2 : w.heap.size + 1 + 1 < w1.heap.size := by omega); (try have e_w_2 : ¬ w.heap.size + 1 + 1 = w1.heap.size := by omega); (try have d_w_2 : ¬ w1.heap.size = w.heap.size + 1 + 1 := by omega); (try (refine bcUse (n := w.heap.size + 1 + 1) hb ?_ ?_; (focus ((try simp only [World.size_alloc, World.size_setCell, World.size_drew, World.heap_drewN]); omega)); intro _ _)))
  refine bodyPost_ret (v := .agg #[.int .i64 p, .int .i64 q]) (by simp only [results, Tryd.results49]; go_simp) rfl ⟨rfl, ?_⟩
  (repeat' (first | (with_reducible exact Below.refl _ _) | (with_reducible assumption) | (with_reducible refine Below.call ?_ ?_ (by with_reducible assumption)) | (with_reducible refine Below.alloc ?_ ?_ _) | (with_reducible refine Below.drew ?_) | (with_reducible refine below_drewN ?_ _) | (with_reducible refine Below.setCell ?_ ?_ _) | (with_reducible exact Nat.le_refl _) | omega | (simp only [World.size_alloc, World.size_setCell, World.size_drew, World.heap_drewN] at *; omega)))
theorem c_Plus (al ah bl bh : Int) (w : World) (a1 : -2000000000 ≤ al) (a2 : al ≤ 2000000000) (a3 : -2000000000 ≤ ah) (a4 : ah ≤ 2000000000) (b1 : -2000000000 ≤ bl) (b2 : bl ≤ 2000000000) (b3 : -2000000000 ≤ bh) (b4 : bh ≤ 2000000000) :
    Calls Tryd.prog 51 #[.agg #[.int .i64 al, .int .i64 ah], .agg #[.int .i64 bl, .int .i64 bh]] w fun e w' => e = .returned (.agg #[.int .i64 (al + bl), .int .i64 (ah + bh)]) ∧ Below w.heap.size w w' := by
  have hgen := sgen; have hgen2 := sgen2; have hgen3 := sgen3; go_enter Tryd.func51, Tryd.ntmps51
  go_wp2
  refine bodyPost_ret (v := .agg #[.int .i64 (al + bl), .int .i64 (ah + bh)]) (by simp only [results, Tryd.results51]; go_simp) rfl ⟨rfl, ?_⟩
  (repeat' (first | (with_reducible exact Below.refl _ _) | (with_reducible assumption) | (with_reducible refine Below.call ?_ ?_ (by with_reducible assumption)) | (with_reducible refine Below.alloc ?_ ?_ _) | (with_reducible refine Below.drew ?_) | (with_reducible refine below_drewN ?_ _) | (with_reducible refine Below.setCell ?_ ?_ _) | (with_reducible exact Nat.le_refl _) | omega | (simp only [World.size_alloc, World.size_setCell, World.size_drew, World.heap_drewN] at *; omega)))
theorem c_Tilt (w : World) (ht : Tab w) :
    Calls Tryd.prog 57 #[] w fun e w' => e = .returned (.tuple #[.agg #[.int .i64 397776337, .int .i64 397776338], .agg #[.int .i64 917482416, .int .i64 917482417]]) ∧ Below w.heap.size w w' := by
  obtain ⟨t1, t2, t3, t4⟩ := tilt_vals
  have hs := fun w1 (h : Tab w1) => c_Sin_ok 65109000 w1 h (by decide)
  have hc := fun w1 (h : Tab w1) => c_Cos_ok 65109000 w1 h (by decide)
  rw [t1, t2] at hs
  rw [t3, t4] at hc
  have HS := Lib.hid hs
  have HC := Lib.hid hc
  have HT := Lib.hid ht
  clear hs hc ht t1 t2 t3 t4
  have hgen := sgen; have hgen2 := sgen2; have hgen3 := sgen3; go_enter Tryd.func57, Tryd.ntmps57
  go_wp2_with (first | (go_at_call 47; (refine (HS.out _ (HT.out.below (by (repeat' (first | (with_reducible exact Below.refl _ _) | (with_reducible assumption) | (with_reducible refine Below.call ?_ ?_ (by with_reducible assumption)) | (with_reducible refine Below.alloc ?_ ?_ _) | (with_reducible refine Below.drew ?_) | (with_reducible refine below_drewN ?_ _) | (with_reducible refine Below.setCell ?_ ?_ _) | (with_reducible exact Nat.le_refl _) | omega | (simp only [World.size_alloc, World.size_setCell, World.size_drew, World.heap_drewN] at *; omega)))))).mono ?_); rintro e w1 ⟨rfl, hb⟩; have hz := hb.size; (try simp only [World.size_alloc, World.size_setCell, World.size_drew, World.heap_drewN] at hz); (try have h_w_0 : w.heap.size < w1.heap.size := by omega); (try have e_w_0 : ¬ w.heap.size = w1.heap.size := by omega); (try have d_w_0 : ¬ w1.heap.size = w.heap.size := by omega); (try (refine bcUse (n := w.heap.size) hb ?_ ?_; (focus ((try simp only [World.size_alloc, World.size_setCell, World.size_drew, World.heap_drewN]); omega)); intro _ _)); (try have h_w_1 : w.heap.size + 1 < w1.heap.size := by omega); (try have e_w_1 : ¬ w.heap.size + 1 = w1.heap.size := by omega); (try have d_w_1 : ¬ w1.heap.size = w.heap.size + 1 := by omega); (try (refine bcUse (n := w.heap.size + 1) hb ?_ ?_; (focus ((try simp only [World.size_alloc, World.size_setCell, World.size_drew, World.heap_drewN]); omega)); intro _ _))) | (go_at_call 48; (refine (HC.out _ (HT.out.below (by (repeat' (first | (with_reducible exact Below.refl _ _) | (with_reducible assumption) | (with_reducible refine Below.call ?_ ?_ (by with_reducible assumption)) | (with_reducible refine Below.alloc ?_ ?_ _) | (with_reducible refine Below.drew ?_) | (with_reducible refine below_drewN ?_ _) | (with_reducible refine Below.setCell ?_ ?_ _) | (with_reducible exact Nat.le_refl _) | omega | (simp only [World.size_alloc, World.size_setCell, World.size_drew, World.heap_drewN] at *; omega)))))).mono ?_); rintro e w2 ⟨rfl, hb⟩; have hz := hb.size; (try simp only [World.size_alloc, World.size_setCell, World.size_drew, World.heap_drewN] at hz); (try have h_w_0 : w.heap.size < w2.heap.size := by omega); (try have e_w_0 : ¬ w.heap.size = w2.heap.size := by omega); (try have d_w_0 : ¬ w2.heap.size = w.heap.size := by omega); (try (refine bcUse (n := w.heap.size) hb ?_ ?_; (focus ((try simp only [World.size_alloc, World.size_setCell, World.size_drew, World.heap_drewN]); omega)); intro _ _)); (try have h_w_1 : w.heap.size + 1 < w2.heap.size := by omega); (try have e_w_1 : ¬ w.heap.size + 1 = w2.heap.size := by omega); (try have d_w_1 : ¬ w2.heap.size = w.heap.size + 1 := by omega); (try (refine bcUse (n := w.heap.size + 1) hb ?_ ?_; (focus ((try simp only [World.size_alloc, World.size_setCell, World.size_drew, World.heap_drewN]); omega)); intro _ _)); (try have h_w1_0 : w1.heap.size < w2.heap.size := by omega); (try have e_w1_0 : ¬ w1.heap.size = w2.heap.size := by omega); (try have d_w1_0 : ¬ w2.heap.size = w1.heap.size := by omega); (try (refine bcUse (n := w1.heap.size) hb ?_ ?_; (focus ((try simp only [World.size_alloc, World.size_setCell, World.size_drew, World.heap_drewN]); omega)); intro _ _))))
  go_region
  all_goals go_wp2
  all_goals refine bodyPost_ret (v := .tuple #[.agg #[.int .i64 397776337, .int .i64 397776338], .agg #[.int .i64 917482416, .int .i64 917482417]]) (by simp only [results, Tryd.results57]; go_simp) rfl ⟨rfl, ?_⟩
  all_goals (repeat' (first | (with_reducible exact Below.refl _ _) | (with_reducible assumption) | (with_reducible refine Below.call ?_ ?_ (by with_reducible assumption)) | (with_reducible refine Below.alloc ?_ ?_ _) | (with_reducible refine Below.drew ?_) | (with_reducible refine below_drewN ?_ _) | (with_reducible refine Below.setCell ?_ ?_ _) | (with_reducible exact Nat.le_refl _) | omega | (simp only [World.size_alloc, World.size_setCell, World.size_drew, World.heap_drewN] at *; omega)))
/-- trig.Arc where both intervals are right and do not both hold 0. -/
theorem c_Arc_all (yl yh xl xh : Int) (oy : yl ≤ yh) (ox : xl ≤ xh) (b1 : -1000000000000000000 ≤ yl) (b2 : yh ≤ 1000000000000000000) (b3 : -1000000000000000000 ≤ xl) (b4 : xh ≤ 1000000000000000000) (hzz : ¬ (yl ≤ 0 ∧ 0 ≤ yh ∧ xl ≤ 0 ∧ 0 ≤ xh)) :
    (∃ D0 E L H, ArcV yl yh xl xh D0 E L H) ∧ arcLo yl yh xl xh ≤ arcHi yl yh xl xh ∧ ∀ w : World, Calls Tryd.prog 58 #[.agg #[.int .i64 yl, .int .i64 yh], .agg #[.int .i64 xl, .int .i64 xh]] w fun e w' =>
      ((400000000 < arcHi yl yh xl xh - arcLo yl yh xl xh ∧ e = .returned (.tuple #[.agg #[.int .i64 0, .int .i64 0], .int .i64 11])) ∨
       (arcHi yl yh xl xh - arcLo yl yh xl xh ≤ 400000000 ∧ e = .returned (.tuple #[.agg #[.int .i64 (arcLo yl yh xl xh % 1000000000), .int .i64 (arcLo yl yh xl xh % 1000000000 + arcHi yl yh xl xh - arcLo yl yh xl xh)], .int .i64 0]))) ∧ Below w.heap.size w w' := by
  have hy : spanErr yl yh = 0 := by unfold spanErr; (repeat (first | rw [if_neg (by omega)] | rw [if_pos (by omega)]))
  have hx : spanErr xl xh = 0 := by unfold spanErr; (repeat (first | rw [if_neg (by omega)] | rw [if_pos (by omega)]))
  obtain ⟨hr, a1, a2, ⟨rl, e1⟩, ⟨rh, e2⟩, D0, E, L, H, hv⟩ := arc_run yl yh xl xh (by omega) (by omega) (by omega) (by omega) (by omega) (by omega) (by omega) (by omega) (fun y x hy hx => by rcases hy with rfl | rfl <;> rcases hx with rfl | rfl <;> omega)
  have f1 := fadd_of e1
  have f2 := fadd_of e2
  rw [f1] at a1
  rw [f2] at a2
  have k1 : arcLo yl yh xl xh = arLo rl := by unfold arcLo; rw [f1]
  have k2 : arcHi yl yh xl xh = arHi rh := by unfold arcHi; rw [f2]
  refine ⟨⟨D0, E, L, H, hv⟩, ?_, ?_⟩
  · have h1 := hv.lo1
    have h2 := hv.hi1
    have h3 := hv.l0
    have h4 := hv.g0
    have : ((arcLo yl yh xl xh : Int) : Rat) ≤ ((arcHi yl yh xl xh : Int) : Rat) := by grind
    exact Rat.intCast_le_intCast.1 this
  · intro w
    rw [k1, k2]
    by_cases hw : 400000000 < arHi rh - arLo rl
    · exact (c_Arc_ok yl yh xl xh w hy hx hzz hr e1 e2 a1 a2 0 0 11 (.inl ⟨hw, rfl, rfl, rfl⟩)).mono fun e w' ⟨h1, h2⟩ => ⟨.inl ⟨hw, h1⟩, h2⟩
    · exact (c_Arc_ok yl yh xl xh w hy hx hzz hr e1 e2 a1 a2 _ _ 0 (.inr ⟨hw, rfl, rfl, rfl⟩)).mono fun e w' ⟨h1, h2⟩ => ⟨.inr ⟨by omega, h1⟩, h2⟩
end Go.Proofs.YtmjdcabniefifaaDoor
