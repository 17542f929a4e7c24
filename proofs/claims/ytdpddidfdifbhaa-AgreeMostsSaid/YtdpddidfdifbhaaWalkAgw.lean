/- The fact agreeWorks of the laws. -/
import Derived.Test.YtdpddidfdifbhaaWalkOutside
set_option linter.unusedVariables false
set_option linter.unusedSimpArgs false
namespace Go.Proofs.Ytdpddidfdifbhaa
open Go.RowKit
def awL : List Sp := [⟨0, 10⟩, ⟨5, 15⟩, ⟨8, 20⟩, ⟨30, 40⟩]
def AwCells (W : World) (b : Nat) : Prop := b < W.heap.size ∧ W.cell? ⟨b, 0, none⟩ = some (.int .i64 0) ∧ W.cell? ⟨b, 1, none⟩ = some (.int .i64 10) ∧ W.cell? ⟨b, 2, none⟩ = some (.int .i64 5) ∧ W.cell? ⟨b, 3, none⟩ = some (.int .i64 15) ∧ W.cell? ⟨b, 4, none⟩ = some (.int .i64 8) ∧ W.cell? ⟨b, 5, none⟩ = some (.int .i64 20) ∧ W.cell? ⟨b, 6, none⟩ = some (.int .i64 30) ∧ W.cell? ⟨b, 7, none⟩ = some (.int .i64 40)
theorem aw_slice {W : World} {b : Nat} (h : AwCells W b) : SpSlice W (some ⟨b, 0, none⟩) awL := by
  obtain ⟨h0, c0, c1, c2, c3, c4, c5, c6, c7⟩ := h
  intro k hk
  have hk' : k < 4 := hk
  match k, hk' with
  | 0, _ => exact ⟨b, 0, rfl, h0, c0, c1⟩
  | 1, _ => exact ⟨b, 0, rfl, h0, c2, c3⟩
  | 2, _ => exact ⟨b, 0, rfl, h0, c4, c5⟩
  | 3, _ => exact ⟨b, 0, rfl, h0, c6, c7⟩
theorem c_aw_most (b : Nat) (W : World) (h : AwCells W b) :
    Calls Try.prog 15 #[.slice (some ⟨b, 0, none⟩) 4 4] W fun e w' => e = .returned (.tuple #[.agg #[.int .i64 8, .int .i64 10], .int .i64 3, .int .i64 0]) ∧ Below W.heap.size W w' :=
  c_Most_ok (some ⟨b, 0, none⟩) 4 awL W (by decide) (aw_slice h) (by decide)
theorem c_aw_within (b : Nat) (W : World) (h : AwCells W b) :
    Calls Try.prog 21 #[.slice (some ⟨b, 0, none⟩) 4 4, .int .i64 2] W fun e w' => e = .returned (.tuple #[.agg #[.int .i64 5, .int .i64 15], .int .i64 0]) ∧ Below W.heap.size W w' :=
  c_Within_ok (some ⟨b, 0, none⟩) 4 awL 2 W (by decide) (aw_slice h) (by decide) (by decide) (by decide) 5 15 0 (.inr (by decide))
theorem c_aw_outside (b : Nat) (W : World) (h : AwCells W b) :
    Calls Try.prog 23 #[.slice (some ⟨b, 0, none⟩) 4 4] W fun e w' => ∃ b' off cap', e = .returned (.tuple #[.slice (some ⟨b', off, none⟩) 1 cap', .int .i64 0]) ∧ b' < w'.heap.size ∧ w'.cell? ⟨b', off, none⟩ = some (.int .i64 3) ∧ Below W.heap.size W w' := by
  refine (c_Outside_ok (some ⟨b, 0, none⟩) 4 awL W (by decide) (aw_slice h) (by decide)).mono ?_
  rintro e w' ⟨hb, a', cap', he, _, hs⟩
  obtain ⟨b', off, ha, hl, hc⟩ := hs 0 (by decide)
  subst ha
  exact ⟨b', off, cap', he, hl, hc, hb⟩
theorem c_agreeWorks (w : World) : Calls Try.prog 14 #[] w fun e w' => e = .returned (.bool true) ∧ Below w.heap.size w w' := by
  have hgen := sgen; have hgen2 := sgen2; have hgen3 := sgen3; go_enter Try.func14, Try.ntmps14
  go_wp2_with (first | (go_at_call 15; refine (c_aw_most _ _ (by refine ⟨?_, ?_, ?_, ?_, ?_, ?_, ?_, ?_, ?_⟩ <;> go_simp)).mono ?_; rintro e w1 ⟨rfl, hb⟩; have hz := hb.size; (try simp only [World.size_alloc, World.size_setCell, World.size_drew, World.heap_drewN] at hz); (try have h_w_0 : w.heap.size < w1.heap.size := by omega); (try have e_w_0 : ¬ w.heap.size = w1.heap.size := by omega); (try have d_w_0 : ¬ w1.heap.size = w.heap.size := by omega); (try (refine bcUse (n := w.heap.size) hb ?_ ?_; (focus ((try simp only [World.size_alloc, World.size_setCell, World.size_drew, World.heap_drewN]); omega)); intro _ _))) | (go_at_call 21; refine (c_aw_within _ _ (by refine ⟨?_, ?_, ?_, ?_, ?_, ?_, ?_, ?_, ?_⟩ <;> go_simp)).mono ?_; rintro e w2 ⟨rfl, hb⟩; have hz := hb.size; (try simp only [World.size_alloc, World.size_setCell, World.size_drew, World.heap_drewN] at hz); (try have h_w_0 : w.heap.size < w2.heap.size := by omega); (try have e_w_0 : ¬ w.heap.size = w2.heap.size := by omega); (try have d_w_0 : ¬ w2.heap.size = w.heap.size := by omega); (try (refine bcUse (n := w.heap.size) hb ?_ ?_; (focus ((try simp only [World.size_alloc, World.size_setCell, World.size_drew, World.heap_drewN]); omega)); intro _ _)); (try have h_w1_0 : w1.heap.size < w2.heap.size := by omega); (try have e_w1_0 : ¬ w1.heap.size = w2.heap.size := by omega); (try have d_w1_0 : ¬ w2.heap.size = w1.heap.size := by omega); (try (refine bcUse (n := w1.heap.size) hb ?_ ?_; (focus ((try simp only [World.size_alloc, World.size_setCell, World.size_drew, World.heap_drewN]); omega)); intro _ _))) | (go_at_call 23; refine (c_aw_outside _ _ (by refine ⟨?_, ?_, ?_, ?_, ?_, ?_, ?_, ?_, ?_⟩ <;> go_simp)).mono ?_; rintro e w3 ⟨b', off, cap', rfl, hl', hc', hb⟩; have hz := hb.size; (try simp only [World.size_alloc, World.size_setCell, World.size_drew, World.heap_drewN] at hz); (try have h_w_0 : w.heap.size < w3.heap.size := by omega); (try have e_w_0 : ¬ w.heap.size = w3.heap.size := by omega); (try have d_w_0 : ¬ w3.heap.size = w.heap.size := by omega); (try (refine bcUse (n := w.heap.size) hb ?_ ?_; (focus ((try simp only [World.size_alloc, World.size_setCell, World.size_drew, World.heap_drewN]); omega)); intro _ _)); (try have h_w1_0 : w1.heap.size < w3.heap.size := by omega); (try have e_w1_0 : ¬ w1.heap.size = w3.heap.size := by omega); (try have d_w1_0 : ¬ w3.heap.size = w1.heap.size := by omega); (try (refine bcUse (n := w1.heap.size) hb ?_ ?_; (focus ((try simp only [World.size_alloc, World.size_setCell, World.size_drew, World.heap_drewN]); omega)); intro _ _)); (try have h_w2_0 : w2.heap.size < w3.heap.size := by omega); (try have e_w2_0 : ¬ w2.heap.size = w3.heap.size := by omega); (try have d_w2_0 : ¬ w3.heap.size = w2.heap.size := by omega); (try (refine bcUse (n := w2.heap.size) hb ?_ ?_; (focus ((try simp only [World.size_alloc, World.size_setCell, World.size_drew, World.heap_drewN]); omega)); intro _ _))))
  go_ret
  refine ⟨rfl, ?_⟩
  (repeat' (first | (with_reducible exact Below.refl _ _) | (with_reducible assumption) | (with_reducible refine Below.call ?_ ?_ (by with_reducible assumption)) | (with_reducible refine Below.alloc ?_ ?_ _) | (with_reducible refine Below.drew ?_) | (with_reducible refine below_drewN ?_ _) | (with_reducible refine Below.setCell ?_ ?_ _) | (with_reducible exact Nat.le_refl _) | omega | (simp only [World.size_alloc, World.size_setCell, World.size_drew, World.heap_drewN] at *; omega)))
end Go.Proofs.Ytdpddidfdifbhaa
