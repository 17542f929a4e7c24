/- The fact leapWorks of the laws. -/
import Derived.Test.YtpjgoojaahbglaaPlainInst
set_option linter.unusedVariables false
set_option linter.unusedSimpArgs false
namespace Go.Proofs.Ytpjgoojaahbglaa
open Go.RowKit
theorem lw_slice {W : World} {b : Nat} (h : b < W.heap.size) (c0 : W.cell? ⟨b, 0, none⟩ = some (.int .i64 100)) (c1 : W.cell? ⟨b, 1, none⟩ = some (.int .i64 1)) : LpSlice W (some ⟨b, 0, none⟩) [⟨100, 1⟩] := by
  intro k hk
  obtain rfl : k = 0 := by simpa using hk
  exact ⟨b, 0, rfl, h, c0, c1⟩
theorem c_lw_count (b : Nat) (W : World) (h : b < W.heap.size) (c0 : W.cell? ⟨b, 0, none⟩ = some (.int .i64 100)) (c1 : W.cell? ⟨b, 1, none⟩ = some (.int .i64 1)) :
    Calls Try.prog 43 #[.slice (some ⟨b, 0, none⟩) 1 1, .int .i64 8726400000] W fun e w' => e = .returned (.tuple #[.int .i64 8726401000, .int .i64 0]) ∧ Below W.heap.size W w' := by
  have := c_leapCount (some ⟨b, 0, none⟩) 1 [⟨100, 1⟩] 8726400000 W (by simp) (by decide) (lw_slice h c0 c1) (by omega) (by omega) (by decide)
  refine this.mono ?_
  rintro e w' ⟨hb, hc⟩
  rcases hc with ⟨hg, _⟩ | ⟨_, he⟩
  · exact absurd hg (by decide)
  · exact ⟨he, hb⟩
theorem c_lw_inst (b : Nat) (W : World) (h : b < W.heap.size) (c0 : W.cell? ⟨b, 0, none⟩ = some (.int .i64 100)) (c1 : W.cell? ⟨b, 1, none⟩ = some (.int .i64 1)) :
    Calls Try.prog 40 #[.slice (some ⟨b, 0, none⟩) 1 1, .int .i64 8726400500] W fun e w' => e = .returned (.tuple #[.int .i64 8726399999, .bool true, .int .i64 0]) ∧ Below W.heap.size W w' :=
  c_inst_ok (some ⟨b, 0, none⟩) 1 [⟨100, 1⟩] 8726400500 W (by simp) (by decide) (lw_slice h c0 c1) (by decide)
theorem c_leapWorks (w : World) : Calls Try.prog 39 #[] w fun e w' => e = .returned (.bool true) ∧ Below w.heap.size w w' := by
  have hgen := sgen; have hgen2 := sgen2; have hgen3 := sgen3; go_enter Try.func39, Try.ntmps39
  go_wp2_with (first | (go_at_call 43; refine (c_lw_count _ _ (by go_simp) (by go_simp) (by go_simp)).mono ?_; rintro e w1 ⟨rfl, hb⟩; have hz := hb.size; (try simp only [World.size_alloc, World.size_setCell, World.size_drew, World.heap_drewN] at hz); (try have h_w_0 : w.heap.size < w1.heap.size := by omega); (try have e_w_0 : ¬ w.heap.size = w1.heap.size := by omega); (try have d_w_0 : ¬ w1.heap.size = w.heap.size := by omega); (try (refine bcUse (n := w.heap.size) hb ?_ ?_; (focus ((try simp only [World.size_alloc, World.size_setCell, World.size_drew, World.heap_drewN]); omega)); intro _ _))) | (go_at_call 40; refine (c_lw_inst _ _ (by go_simp) (by go_simp) (by go_simp)).mono ?_; rintro e w2 ⟨rfl, hb⟩; have hz := hb.size; (try simp only [World.size_alloc, World.size_setCell, World.size_drew, World.heap_drewN] at hz); (try have h_w_0 : w.heap.size < w2.heap.size := by omega); (try have e_w_0 : ¬ w.heap.size = w2.heap.size := by omega); (try have d_w_0 : ¬ w2.heap.size = w.heap.size := by omega); (try (refine bcUse (n := w.heap.size) hb ?_ ?_; (focus ((try simp only [World.size_alloc, World.size_setCell, World.size_drew, World.heap_drewN]); omega)); intro _ _))))
  go_ret
  refine ⟨rfl, ?_⟩
  (repeat' (first | (with_reducible exact Below.refl _ _) | (with_reducible assumption) | (with_reducible refine Below.call ?_ ?_ (by with_reducible assumption)) | (with_reducible refine Below.alloc ?_ ?_ _) | (with_reducible refine Below.drew ?_) | (with_reducible refine below_drewN ?_ _) | (with_reducible refine Below.setCell ?_ ?_ _) | (with_reducible exact Nat.le_refl _) | omega | (simp only [World.size_alloc, World.size_setCell, World.size_drew, World.heap_drewN] at *; omega)))
end Go.Proofs.Ytpjgoojaahbglaa
