/- The contract of (*discipline.Keeper).Feed where it takes the reading. -/
import Derived.Test.YtdpddidfdifbhaaWalkFeed
set_option linter.unusedVariables false
set_option linter.unusedSimpArgs false
namespace Go.Proofs.Ytdpddidfdifbhaa
open Go.RowKit
set_option maxHeartbeats 1000000 in
theorem c_feed_ok (b rb gb n : Nat) (d f last : Int) (R : Nat → Rd) (H : Nat → Bool) (k : Nat) (x : Rd) (w : World) (hK : KeepAt w b rb gb n d f last R H) (hn : n ≤ 40) (h2 : k < n) (hr : readErr x.tk x.lo x.hi = 0) (hl : last ≤ x.tk) :
    Calls Try.prog 41 #[.pointer (some ⟨b, 0, none⟩), .int .i64 (k : Int), .agg #[.int .i64 x.tk, .int .i64 x.lo, .int .i64 x.hi]] w fun e w' => e = .returned (.int .i64 0) ∧ Touch3 b rb gb w w' ∧ KeepAt w' b rb gb n d f x.tk (upd R k x) (upd H k true) := by
  have c2 := hK.r0.cell (i := 2) (by omega)
  have c3 := hK.r0.cell (i := 3) (by omega)
  have c4 := hK.r0.cell (i := 4) (by omega)
  have f4 := hK.r0.frozen 4
  have g0 := hK.r1.frozen (k * 3)
  have g1 := hK.r1.frozen (k * 3 + 1)
  have g2 := hK.r1.frozen (k * 3 + 2)
  have d0 := hK.r1.cell (i := k * 3) (by omega)
  have d1 := hK.r1.cell (i := k * 3 + 1) (by omega)
  have d2 := hK.r1.cell (i := k * 3 + 2) (by omega)
  rw [rdF_0] at d0
  rw [rdF_1] at d1
  rw [rdF_2] at d2
  have i0 := hK.r2.cell h2
  have j0 := hK.r2.frozen k
  have hlt := hK.r0.lt
  have hlt1 := hK.r1.lt
  have hlt2 := hK.r2.lt
  simp only [kpF] at c2 c3 c4
  have n0 : ¬ b = w.heap.size := by omega
  have n2 : ¬ w.heap.size = b := by omega
  have n3 : ¬ rb = w.heap.size := by omega
  have n4 : ¬ w.heap.size = rb := by omega
  have n5 : ¬ gb = w.heap.size := by omega
  have n6 : ¬ w.heap.size = gb := by omega
  have ne1 := hK.ne1
  have ne2 := hK.ne2
  have ne3 := hK.ne3
  have ne4 := Ne.symm ne1
  have ne5 := Ne.symm ne2
  have ne6 := Ne.symm ne3
  have hk1 : (k : Int) < (n : Int) := by omega
  have x1 : (readErr x.tk x.lo x.hi != 0) = false := by simp [hr]
  have HR := Lib.hid hr
  have HK := Lib.hid hK
  clear hr hK
  have hgen := sgen; have hgen2 := sgen2; have hgen3 := sgen3; go_enter Try.func41, Try.ntmps41
  go_wp2_with (go_at_call 59; (refine (c_srcCheck _ _ _ _).mono ?_); rintro e w1 ⟨rfl, hb⟩; have hz := hb.size; (try simp only [World.size_alloc, World.size_setCell, World.size_drew, World.heap_drewN] at hz); (try have h_w_0 : w.heap.size < w1.heap.size := by omega); (try have e_w_0 : ¬ w.heap.size = w1.heap.size := by omega); (try have d_w_0 : ¬ w1.heap.size = w.heap.size := by omega); (try (refine bcUse (n := w.heap.size) hb ?_ ?_; (focus ((try simp only [World.size_alloc, World.size_setCell, World.size_drew, World.heap_drewN]); omega)); intro _ _)); (try have h_bb_0 : b < w1.heap.size := by omega); (try have e_bb_0 : ¬ b = w1.heap.size := by omega); (try have d_bb_0 : ¬ w1.heap.size = b := by omega); (try (refine bcUse (n := b) hb ?_ ?_; (focus ((try simp only [World.size_alloc, World.size_setCell, World.size_drew, World.heap_drewN]); omega)); intro _ _)); (try have h_brb_0 : rb < w1.heap.size := by omega); (try have e_brb_0 : ¬ rb = w1.heap.size := by omega); (try have d_brb_0 : ¬ w1.heap.size = rb := by omega); (try (refine bcUse (n := rb) hb ?_ ?_; (focus ((try simp only [World.size_alloc, World.size_setCell, World.size_drew, World.heap_drewN]); omega)); intro _ _)); (try have h_bgb_0 : gb < w1.heap.size := by omega); (try have e_bgb_0 : ¬ gb = w1.heap.size := by omega); (try have d_bgb_0 : ¬ w1.heap.size = gb := by omega); (try (refine bcUse (n := gb) hb ?_ ?_; (focus ((try simp only [World.size_alloc, World.size_setCell, World.size_drew, World.heap_drewN]); omega)); intro _ _)))
  go_quiet (fail)
  go_wp2_with fail
  have hsz1 : w.heap.size < w1.heap.size := by omega
  have hbel : Below w.heap.size w w1 := by (repeat' (first | (with_reducible exact Below.refl _ _) | (with_reducible assumption) | (with_reducible refine Below.call ?_ ?_ (by with_reducible assumption)) | (with_reducible refine Below.alloc ?_ ?_ _) | (with_reducible refine Below.drew ?_) | (with_reducible refine below_drewN ?_ _) | (with_reducible refine Below.setCell ?_ ?_ _) | (with_reducible exact Nat.le_refl _) | omega | (simp only [World.size_alloc, World.size_setCell, World.size_drew, World.heap_drewN] at *; omega)))
  go_region
  all_goals go_wp2_with fail
  all_goals go_ret
  have hK1 := HK.out.below hbel
  have Q0 := hK1.r0
  have Q1 := hK1.r1
  have Q2 := hK1.r2
  refine ⟨rfl, ?_, ⟨?p0, ?p1, ?p2, ne1, ne2, ne3⟩⟩
  · have HB := Touch3.of_below (b := b) (c := rb) (g := gb) hbel
    (repeat' (first | (with_reducible assumption) | (with_reducible refine Touch3.alloc ?_ _) | (with_reducible refine Touch3.drew ?_) | (with_reducible refine Touch3.drewN ?_ _) | (with_reducible refine Touch3.setCell ?_ ?_ _) | (with_reducible refine Touch3.call ?_ (by with_reducible assumption)) | (with_reducible exact Touch3.of_below (Below.refl _ _)) | (left; rfl) | (right; left; rfl) | (right; right; left; rfl) | omega))
  case p0 =>
    apply World.rowIs.congr
    · (repeat' (first | (with_reducible exact Q0) | (with_reducible exact Q1) | (with_reducible exact Q2) | (with_reducible assumption) | (with_reducible apply World.rowIs.drew) | (with_reducible apply rowIs_drewN) | (with_reducible apply World.rowIs.set) | (with_reducible apply rowIs_other)))
    · intro i hi
      simp only [kpF]
      by_cases e : i = 4
      · subst e; simp
      · rw [if_neg e]
        repeat' split
        all_goals first | rfl | omega
  case p1 =>
    apply World.rowIs.congr
    · (repeat' (first | (with_reducible exact Q0) | (with_reducible exact Q1) | (with_reducible exact Q2) | (with_reducible assumption) | (with_reducible apply World.rowIs.drew) | (with_reducible apply rowIs_drewN) | (with_reducible apply World.rowIs.set) | (with_reducible apply rowIs_other)))
    · intro i hi
      rw [rdF_upd]
  case p2 =>
    apply World.rowIs.congr
    · (repeat' (first | (with_reducible exact Q0) | (with_reducible exact Q1) | (with_reducible exact Q2) | (with_reducible assumption) | (with_reducible apply World.rowIs.drew) | (with_reducible apply rowIs_drewN) | (with_reducible apply World.rowIs.set) | (with_reducible apply rowIs_other)))
    · intro i hi
      show (if i = k then _ else _) = Value.bool (upd H k true i)
      unfold upd
      by_cases e : i = k
      · rw [if_pos e, if_pos e]
      · rw [if_neg e, if_neg e]
end Go.Proofs.Ytdpddidfdifbhaa
