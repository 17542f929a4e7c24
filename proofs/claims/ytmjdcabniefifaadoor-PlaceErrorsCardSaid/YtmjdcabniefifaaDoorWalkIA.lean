/- The contracts of the reference's TwoErr and InArc. -/
import Derived.Test.YtmjdcabniefifaaDoorWalkTrL
import Derived.Test.YtmjdcabniefifaaDoorWalkTrS
import Derived.Test.YtmjdcabniefifaaDoorTrC
set_option linter.unusedVariables false
set_option linter.unusedSimpArgs false
namespace Go.Proofs.YtmjdcabniefifaaDoor
open Go.RowKit
def twoE (yl yh xl xh : Int) : Int := if spanErr yl yh = 0 then spanErr xl xh else spanErr yl yh
theorem c_TwoErr (yl yh xl xh : Int) (w : World) : Calls Tryd.prog 15 #[.agg #[.int .i64 yl, .int .i64 yh], .agg #[.int .i64 xl, .int .i64 xh]] w fun e w' => e = .returned (.int .i64 (twoE yl yh xl xh)) ∧ Below w.heap.size w w' := by
  have H1 := Lib.hid (fun w1 => c_spanErr yl yh w1)
  have H2 := Lib.hid (fun w1 => c_spanErr xl xh w1)
  by_cases h : spanErr yl yh = 0
  · have e : twoE yl yh xl xh = spanErr xl xh := if_pos h
    rw [e]
    rw [h] at H1
    clear h e
    generalize spanErr xl xh = x at *
    have hgen := sgen; have hgen2 := sgen2; have hgen3 := sgen3; go_enter Tryd.func15, Tryd.ntmps15
    go_wp2_with (first | (go_at_call 29; (with_reducible refine (H1.out _).mono ?_); rintro e w1 ⟨rfl, hb⟩; have hz := hb.size; (try simp only [World.size_alloc, World.size_setCell, World.size_drew, World.heap_drewN] at hz); (try have h_w_0 : w.heap.size < w1.heap.size := by omega); (try have e_w_0 : ¬ w.heap.size = w1.heap.size := by omega); (try have d_w_0 : ¬ w1.heap.size = w.heap.size := by omega); (try (refine bcUse (n := w.heap.size) hb ?_ ?_; (focus ((try simp only [World.size_alloc, World.size_setCell, World.size_drew, World.heap_drewN]); omega)); intro _ _)); (try have h_w_1 : w.heap.size + 1 < w1.heap.size := by omega); (try have e_w_1 : ¬ w.heap.size + 1 = w1.heap.size := by omega); (try have d_w_1 : ¬ w1.heap.size = w.heap.size + 1 := by omega); (try (refine bcUse (n := w.heap.size + 1) hb ?_ ?_; (focus ((try simp only [World.size_alloc, World.size_setCell, World.size_drew, World.heap_drewN]); omega)); intro _ _))) | (go_at_call 29; (with_reducible refine (H2.out _).mono ?_); rintro e w2 ⟨rfl, hb⟩; have hz := hb.size; (try simp only [World.size_alloc, World.size_setCell, World.size_drew, World.heap_drewN] at hz); (try have h_w_0 : w.heap.size < w2.heap.size := by omega); (try have e_w_0 : ¬ w.heap.size = w2.heap.size := by omega); (try have d_w_0 : ¬ w2.heap.size = w.heap.size := by omega); (try (refine bcUse (n := w.heap.size) hb ?_ ?_; (focus ((try simp only [World.size_alloc, World.size_setCell, World.size_drew, World.heap_drewN]); omega)); intro _ _)); (try have h_w_1 : w.heap.size + 1 < w2.heap.size := by omega); (try have e_w_1 : ¬ w.heap.size + 1 = w2.heap.size := by omega); (try have d_w_1 : ¬ w2.heap.size = w.heap.size + 1 := by omega); (try (refine bcUse (n := w.heap.size + 1) hb ?_ ?_; (focus ((try simp only [World.size_alloc, World.size_setCell, World.size_drew, World.heap_drewN]); omega)); intro _ _)); (try have h_w1_0 : w1.heap.size < w2.heap.size := by omega); (try have e_w1_0 : ¬ w1.heap.size = w2.heap.size := by omega); (try have d_w1_0 : ¬ w2.heap.size = w1.heap.size := by omega); (try (refine bcUse (n := w1.heap.size) hb ?_ ?_; (focus ((try simp only [World.size_alloc, World.size_setCell, World.size_drew, World.heap_drewN]); omega)); intro _ _))))
    go_ret
    refine ⟨rfl, ?_⟩
    (repeat' (first | (with_reducible exact Below.refl _ _) | (with_reducible assumption) | (with_reducible refine Below.call ?_ ?_ (by with_reducible assumption)) | (with_reducible refine Below.alloc ?_ ?_ _) | (with_reducible refine Below.drew ?_) | (with_reducible refine below_drewN ?_ _) | (with_reducible refine Below.setCell ?_ ?_ _) | (with_reducible exact Nat.le_refl _) | omega | (simp only [World.size_alloc, World.size_setCell, World.size_drew, World.heap_drewN] at *; omega)))
  · have e : twoE yl yh xl xh = spanErr yl yh := if_neg h
    rw [e]
    have b1 : (spanErr yl yh != 0) = true := by simp; exact h
    have b0 : (spanErr yl yh == 0) = false := by simp; exact h
    clear h e H2
    generalize spanErr yl yh = x at *
    have hgen := sgen; have hgen2 := sgen2; have hgen3 := sgen3; go_enter Tryd.func15, Tryd.ntmps15
    go_wp2_with (first | (go_at_call 29; (with_reducible refine (H1.out _).mono ?_); rintro e w1 ⟨rfl, hb⟩; have hz := hb.size; (try simp only [World.size_alloc, World.size_setCell, World.size_drew, World.heap_drewN] at hz); (try have h_w_0 : w.heap.size < w1.heap.size := by omega); (try have e_w_0 : ¬ w.heap.size = w1.heap.size := by omega); (try have d_w_0 : ¬ w1.heap.size = w.heap.size := by omega); (try (refine bcUse (n := w.heap.size) hb ?_ ?_; (focus ((try simp only [World.size_alloc, World.size_setCell, World.size_drew, World.heap_drewN]); omega)); intro _ _)); (try have h_w_1 : w.heap.size + 1 < w1.heap.size := by omega); (try have e_w_1 : ¬ w.heap.size + 1 = w1.heap.size := by omega); (try have d_w_1 : ¬ w1.heap.size = w.heap.size + 1 := by omega); (try (refine bcUse (n := w.heap.size + 1) hb ?_ ?_; (focus ((try simp only [World.size_alloc, World.size_setCell, World.size_drew, World.heap_drewN]); omega)); intro _ _))))
    go_ret
    refine ⟨rfl, ?_⟩
    (repeat' (first | (with_reducible exact Below.refl _ _) | (with_reducible assumption) | (with_reducible refine Below.call ?_ ?_ (by with_reducible assumption)) | (with_reducible refine Below.alloc ?_ ?_ _) | (with_reducible refine Below.drew ?_) | (with_reducible refine below_drewN ?_ _) | (with_reducible refine Below.setCell ?_ ?_ _) | (with_reducible exact Nat.le_refl _) | omega | (simp only [World.size_alloc, World.size_setCell, World.size_drew, World.heap_drewN] at *; omega)))
theorem fm_rng {a b : Int} (a1 : -1160000000000000000 ≤ a) (a2 : a ≤ 1160000000000000000) (b1 : -1160000000000000000 ≤ b) (b2 : b ≤ 1160000000000000000) : -1168000000000000000 ≤ fm a b ∧ fm a b ≤ 1168000000000000000 :=
  fm_le a1 a2 b1 b2 1168000000000000000 (by decide +kernel)
end Go.Proofs.YtmjdcabniefifaaDoor
