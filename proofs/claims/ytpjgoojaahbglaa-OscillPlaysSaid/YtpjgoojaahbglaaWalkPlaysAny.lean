/- The walk through the law OscillPlays, whatever the drift. -/
import Derived.Test.YtpjgoojaahbglaaWalkPlays
set_option linter.unusedVariables false
set_option linter.unusedSimpArgs false
namespace Go.Proofs.Ytpjgoojaahbglaa
open Go.RowKit
theorem walk_plays_bad (d : Int) (v1 v2 : Value) (w : World) (dB : driftB d = false) :
    Calls Try.prog 5 #[.int .i64 d, v1, v2] w fun e w' => e = .returned (.bool true) ∧ Below w.heap.size w w' := by
  have hd : d < 0 ∨ 100000 < d := by
    by_cases h : d < 0 ∨ 100000 < d
    · exact h
    · have := driftB_true (n := d) (by omega) (by omega); rw [this] at dB; contradiction
  rcases hd with hd | hd
  all_goals
    have hgen := sgen; have hgen2 := sgen2; have hgen3 := sgen3; go_enter Try.func5, Try.ntmps5
    go_wp2_with (first | (go_at_call 18; refine (c_oscillWorks _).mono ?_; rintro e w1 ⟨rfl, hb⟩; have hz := hb.size; (try simp only [World.size_alloc, World.size_setCell, World.size_drew, World.heap_drewN] at hz); (try have h_w_0 : w.heap.size < w1.heap.size := by omega); (try have e_w_0 : ¬ w.heap.size = w1.heap.size := by omega); (try have d_w_0 : ¬ w1.heap.size = w.heap.size := by omega); (try (refine bcUse (n := w.heap.size) hb ?_ ?_; (focus ((try simp only [World.size_alloc, World.size_setCell, World.size_drew, World.heap_drewN]); omega)); intro _ _))) | (go_at_call 23; refine (c_new_bad _ _ dB).mono ?_; rintro e w2 ⟨rfl, hb⟩; have hz := hb.size; (try simp only [World.size_alloc, World.size_setCell, World.size_drew, World.heap_drewN] at hz); (try have h_w_0 : w.heap.size < w2.heap.size := by omega); (try have e_w_0 : ¬ w.heap.size = w2.heap.size := by omega); (try have d_w_0 : ¬ w2.heap.size = w.heap.size := by omega); (try (refine bcUse (n := w.heap.size) hb ?_ ?_; (focus ((try simp only [World.size_alloc, World.size_setCell, World.size_drew, World.heap_drewN]); omega)); intro _ _)); (try have h_w1_0 : w1.heap.size < w2.heap.size := by omega); (try have e_w1_0 : ¬ w1.heap.size = w2.heap.size := by omega); (try have d_w1_0 : ¬ w2.heap.size = w1.heap.size := by omega); (try (refine bcUse (n := w1.heap.size) hb ?_ ?_; (focus ((try simp only [World.size_alloc, World.size_setCell, World.size_drew, World.heap_drewN]); omega)); intro _ _))))
    go_ret
    refine ⟨rfl, ?_⟩
    (repeat' (first | (with_reducible exact Below.refl _ _) | (with_reducible assumption) | (with_reducible refine Below.call ?_ ?_ (by with_reducible assumption)) | (with_reducible refine Below.alloc ?_ ?_ _) | (with_reducible refine Below.drew ?_) | (with_reducible refine below_drewN ?_ _) | (with_reducible refine Below.setCell ?_ ?_ _) | (with_reducible exact Nat.le_refl _) | omega | (simp only [World.size_alloc, World.size_setCell, World.size_drew, World.heap_drewN] at *; omega)))
theorem walk_plays_any (d : Int) (a1 a2 : Option Addr) (len1 len2 cap1 cap2 : Nat) (ls : List Int) (ts : List Sp) (w : World) (h1 : ls.length = len1) (hc1 : len1 ≤ cap1) (hm1 : cap1 ≤ maxLen) (h2 : ts.length = len2) (hc2 : len2 ≤ cap2) (hm2 : cap2 ≤ maxLen)
    (hs1 : IntSlice w a1 ls) (hs2 : SpSlice w a2 ts) :
    Calls Try.prog 5 #[.int .i64 d, .slice a1 len1 cap1, .slice a2 len2 cap2] w fun e w' => e = .returned (.bool true) ∧ Below w.heap.size w w' := by
  subst h1 h2
  unfold maxLen at hm1 hm2
  cases dB : driftB d with
  | false => exact walk_plays_bad d _ _ w dB
  | true => exact walk_plays d a1 a2 cap1 cap2 ls ts w hc1 hm1 hc2 hm2 hs1 hs2 dB
end Go.Proofs.Ytpjgoojaahbglaa
