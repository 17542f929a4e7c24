/- The fact chronWorks of the laws. -/
import Derived.Test.YtdpddidfdifbhaaWalkEarly
set_option linter.unusedVariables false
set_option linter.unusedSimpArgs false
namespace Go.Proofs.Ytdpddidfdifbhaa
open Go.RowKit
def thL : List Bd := [⟨0, 1, 10, 20⟩, ⟨1, 2, 5, 5⟩]
theorem th_err : chErr 3 thL = 0 := by decide
theorem th_ok : BdOk 3 thL := by
  obtain ⟨m, hm, h⟩ := bdOk_of th_err
  obtain rfl : m = 3 := by omega
  exact h
theorem th_fw : FwOk 3 thL := by
  have h : ∀ k, k < 3 → ∀ i, i < 3 → 0 ≤ fw thL (k + 1) i i := by decide
  exact h
def ThCells (W : World) (b : Nat) : Prop := b < W.heap.size ∧ W.cell? ⟨b, 0, none⟩ = some (.int .i64 0) ∧ W.cell? ⟨b, 1, none⟩ = some (.int .i64 1) ∧ W.cell? ⟨b, 2, none⟩ = some (.int .i64 10) ∧ W.cell? ⟨b, 3, none⟩ = some (.int .i64 20) ∧ W.cell? ⟨b, 4, none⟩ = some (.int .i64 1) ∧ W.cell? ⟨b, 5, none⟩ = some (.int .i64 2) ∧ W.cell? ⟨b, 6, none⟩ = some (.int .i64 5) ∧ W.cell? ⟨b, 7, none⟩ = some (.int .i64 5)
theorem th_slice {W : World} {b : Nat} (h : ThCells W b) : BdSlice W (some ⟨b, 0, none⟩) thL := by
  obtain ⟨h0, c0, c1, c2, c3, c4, c5, c6, c7⟩ := h
  intro k hk
  have hk' : k < 2 := hk
  match k, hk' with
  | 0, _ => exact ⟨b, 0, rfl, h0, c0, c1, c2, c3⟩
  | 1, _ => exact ⟨b, 0, rfl, h0, c4, c5, c6, c7⟩
theorem c_three (w : World) : Calls Try.prog 52 #[] w fun e w' => e = .returned (.slice (some ⟨w.heap.size, 0, none⟩) 2 2) ∧ ThCells w' w.heap.size ∧ Below w.heap.size w w' := by
  have hgen := sgen; have hgen2 := sgen2; have hgen3 := sgen3; go_enter Try.func52, Try.ntmps52
  go_wp2
  go_ret
  refine ⟨rfl, ?_, ?_⟩
  · refine ⟨?_, ?_, ?_, ?_, ?_, ?_, ?_, ?_, ?_⟩ <;> go_simp
  · (repeat' (first | (with_reducible exact Below.refl _ _) | (with_reducible assumption) | (with_reducible refine Below.call ?_ ?_ (by with_reducible assumption)) | (with_reducible refine Below.alloc ?_ ?_ _) | (with_reducible refine Below.drew ?_) | (with_reducible refine below_drewN ?_ _) | (with_reducible refine Below.setCell ?_ ?_ _) | (with_reducible exact Nat.le_refl _) | omega | (simp only [World.size_alloc, World.size_setCell, World.size_drew, World.heap_drewN] at *; omega)))
/-- The parts of what Tightest tells that the fact looks at. -/
def Tig3 (w : World) (a : Option Addr) (cap : Nat) : Prop := ∃ b off b2 off2 rc, a = some ⟨b, off, none⟩ ∧ 3 ≤ cap ∧ b < w.heap.size ∧ w.cell? ⟨b, off, none⟩ = some (.slice (some ⟨b2, off2, none⟩) 3 rc) ∧ 3 ≤ rc ∧ b2 < w.heap.size ∧ w.cell? ⟨b2, off2 + 4, none⟩ = some (.int .i64 15) ∧ w.cell? ⟨b2, off2 + 5, none⟩ = some (.int .i64 25)
theorem th_tight (b : Nat) (W : World) (h : ThCells W b) :
    Calls Try.prog 28 #[.int .i64 (3 : Nat), .slice (some ⟨b, 0, none⟩) 2 2] W fun e w' => ∃ a' cap', e = .returned (.tuple #[.slice a' 3 cap', .int .i64 0]) ∧ 3 ≤ cap' ∧ SpMat w' a' (tgt 3 (fw thL 3)) ∧ Below W.heap.size W w' :=
  c_Tight_ok 3 (some ⟨b, 0, none⟩) 2 thL W (by decide) th_err th_ok th_fw (th_slice h)
theorem c_cw_tight (b : Nat) (W : World) (h : ThCells W b) :
    Calls Try.prog 28 #[.int .i64 3, .slice (some ⟨b, 0, none⟩) 2 2] W fun e w' => ∃ b1 off1 b2 off2 rc cap', e = .returned (.tuple #[.slice (some ⟨b1, off1, none⟩) 3 cap', .int .i64 0]) ∧ b1 < w'.heap.size ∧ w'.cell? ⟨b1, off1, none⟩ = some (.slice (some ⟨b2, off2, none⟩) 3 rc) ∧ b2 < w'.heap.size ∧ w'.cell? ⟨b2, off2 + 4, none⟩ = some (.int .i64 15) ∧ w'.cell? ⟨b2, off2 + 5, none⟩ = some (.int .i64 25) ∧ Below W.heap.size W w' := by
  refine (th_tight b W h).mono ?_
  rintro e w' ⟨a', cap', he, hcap, hm, hb⟩
  obtain ⟨b1, off1, ra, rc, ha, hl, hc, hrl, hs⟩ := hm 0 (by decide)
  obtain ⟨b2, off2, hra, hl2, d0, d1⟩ := hs 2 (by decide)
  subst ha hra
  exact ⟨b1, off1, b2, off2, rc, cap', he, hl, hc, hl2, d0, d1, hb⟩
theorem c_cw_early (b : Nat) (W : World) (h : ThCells W b) :
    Calls Try.prog 32 #[.int .i64 3, .slice (some ⟨b, 0, none⟩) 2 2, .int .i64 0, .int .i64 100] W fun e w' => ∃ b1 off1 cap', e = .returned (.tuple #[.slice (some ⟨b1, off1, none⟩) 3 cap', .int .i64 0]) ∧ b1 < w'.heap.size ∧ w'.cell? ⟨b1, off1 + 2, none⟩ = some (.int .i64 115) ∧ Below W.heap.size W w' := by
  refine (c_early_ok 3 0 100 (some ⟨b, 0, none⟩) 2 2 (fw thL 3) W (by omega) (by omega) (by omega) (by omega) (Lib.hid fun i j => fw_low12 th_ok (by omega) i j) (Lib.hid fun i j hi hj => (good_fw th_ok 3 (Nat.le_refl _) (fun m hm => th_fw m hm)).far i j hi hj) (Lib.hid (th_tight b W h))).mono ?_
  rintro e w' ⟨hb, ⟨⟨k, hk, hd⟩, _⟩ | ⟨_, a', cap', he, _, hs⟩⟩
  · exact absurd hd (by revert k; decide)
  · obtain ⟨b1, off1, ha, hl, hc⟩ := hs 2 (by decide)
    subst ha
    exact ⟨b1, off1, cap', he, hl, hc, hb⟩
set_option maxRecDepth 100000 in
theorem c_chronWorks (w : World) : Calls Try.prog 24 #[] w fun e w' => e = .returned (.bool true) ∧ Below w.heap.size w w' := by
  have hgen := sgen; have hgen2 := sgen2; have hgen3 := sgen3; go_enter Try.func24, Try.ntmps24
  go_wp2_with (go_at_call 52; (refine (c_three _).mono ?_); rintro e w1 ⟨rfl, hth, hb⟩; have hz := hb.size; (try simp only [World.size_alloc, World.size_setCell, World.size_drew, World.heap_drewN] at hz); (try have h_w_0 : w.heap.size < w1.heap.size := by omega); (try have e_w_0 : ¬ w.heap.size = w1.heap.size := by omega); (try have d_w_0 : ¬ w1.heap.size = w.heap.size := by omega); (try (refine bcUse (n := w.heap.size) hb ?_ ?_; (focus ((try simp only [World.size_alloc, World.size_setCell, World.size_drew, World.heap_drewN]); omega)); intro _ _)))
  refine (c_cw_tight _ _ hth).mono ?_
  rintro e w2 ⟨b1, off1, b2, off2, rc, cap', rfl, hl1, hc1, hl2, d0, d1, hb2⟩
  have hbw2 : Below w.heap.size w w2 := by (repeat' (first | (with_reducible exact Below.refl _ _) | (with_reducible assumption) | (with_reducible refine Below.call ?_ ?_ (by with_reducible assumption)) | (with_reducible refine Below.alloc ?_ ?_ _) | (with_reducible refine Below.drew ?_) | (with_reducible refine below_drewN ?_ _) | (with_reducible refine Below.setCell ?_ ?_ _) | (with_reducible exact Nat.le_refl _) | omega | (simp only [World.size_alloc, World.size_setCell, World.size_drew, World.heap_drewN] at *; omega)))
  have hz2 := hbw2.size
  clear hth
  go_wp2_with (first | (go_at_call 52; (refine (c_three _).mono ?_); rintro e w3 ⟨rfl, hth, hb⟩; have hz := hb.size; (try simp only [World.size_alloc, World.size_setCell, World.size_drew, World.heap_drewN] at hz); (try have h_w_0 : w.heap.size < w3.heap.size := by omega); (try have e_w_0 : ¬ w.heap.size = w3.heap.size := by omega); (try have d_w_0 : ¬ w3.heap.size = w.heap.size := by omega); (try (refine bcUse (n := w.heap.size) hb ?_ ?_; (focus ((try simp only [World.size_alloc, World.size_setCell, World.size_drew, World.heap_drewN]); omega)); intro _ _)); (try have h_bb1_0 : b1 < w3.heap.size := by omega); (try have e_bb1_0 : ¬ b1 = w3.heap.size := by omega); (try have d_bb1_0 : ¬ w3.heap.size = b1 := by omega); (try (refine bcUse (n := b1) hb ?_ ?_; (focus ((try simp only [World.size_alloc, World.size_setCell, World.size_drew, World.heap_drewN]); omega)); intro _ _)); (try have h_bb2_0 : b2 < w3.heap.size := by omega); (try have e_bb2_0 : ¬ b2 = w3.heap.size := by omega); (try have d_bb2_0 : ¬ w3.heap.size = b2 := by omega); (try (refine bcUse (n := b2) hb ?_ ?_; (focus ((try simp only [World.size_alloc, World.size_setCell, World.size_drew, World.heap_drewN]); omega)); intro _ _))) | (go_at_call 32; (refine (c_cw_early _ _ hth).mono ?_); rintro e w4 ⟨b3, off3, cap3, rfl, hl3, hc3, hb⟩; have hz := hb.size; (try simp only [World.size_alloc, World.size_setCell, World.size_drew, World.heap_drewN] at hz); (try have h_w_0 : w.heap.size < w4.heap.size := by omega); (try have e_w_0 : ¬ w.heap.size = w4.heap.size := by omega); (try have d_w_0 : ¬ w4.heap.size = w.heap.size := by omega); (try (refine bcUse (n := w.heap.size) hb ?_ ?_; (focus ((try simp only [World.size_alloc, World.size_setCell, World.size_drew, World.heap_drewN]); omega)); intro _ _)); (try have h_bb1_0 : b1 < w4.heap.size := by omega); (try have e_bb1_0 : ¬ b1 = w4.heap.size := by omega); (try have d_bb1_0 : ¬ w4.heap.size = b1 := by omega); (try (refine bcUse (n := b1) hb ?_ ?_; (focus ((try simp only [World.size_alloc, World.size_setCell, World.size_drew, World.heap_drewN]); omega)); intro _ _)); (try have h_bb2_0 : b2 < w4.heap.size := by omega); (try have e_bb2_0 : ¬ b2 = w4.heap.size := by omega); (try have d_bb2_0 : ¬ w4.heap.size = b2 := by omega); (try (refine bcUse (n := b2) hb ?_ ?_; (focus ((try simp only [World.size_alloc, World.size_setCell, World.size_drew, World.heap_drewN]); omega)); intro _ _))))
  go_ret
  refine ⟨rfl, ?_⟩
  (repeat' (first | (with_reducible exact Below.refl _ _) | (with_reducible assumption) | (with_reducible refine Below.call ?_ ?_ (by with_reducible assumption)) | (with_reducible refine Below.alloc ?_ ?_ _) | (with_reducible refine Below.drew ?_) | (with_reducible refine below_drewN ?_ _) | (with_reducible refine Below.setCell ?_ ?_ _) | (with_reducible exact Nat.le_refl _) | omega | (simp only [World.size_alloc, World.size_setCell, World.size_drew, World.heap_drewN] at *; omega)))
end Go.Proofs.Ytdpddidfdifbhaa
