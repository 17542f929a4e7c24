/- Contracts of series.Side and of the functions that tell on which side of a passage an instant is. -/
import Derived.Test.YtplhegjgkmabiaaDoorWalkNar2
import Derived.Test.YtplhegjgkmabiaaDoorWalkMoonE
import Derived.Test.YtplhegjgkmabiaaDoorPlainSeas
set_option linter.unusedVariables false
set_option linter.unusedSimpArgs false
namespace Go.Proofs.YtplhegjgkmabiaaDoor
open Go.RowKit
set_option maxHeartbeats 1000000 in
theorem c_Side (lo hi tg : Int) (w : World) (l0 : 0 ≤ lo) (l1 : lo < 1000000000) (h0 : lo ≤ hi) (h1 : hi ≤ 3000000000) (t0 : 0 ≤ tg) (t1 : tg < 1000000000) :
    Calls Tryd.prog 66 #[.agg #[.int .i64 lo, .int .i64 hi], .int .i64 tg] w fun e w' => e = .returned (.int .i64 (sideV lo hi tg)) ∧ Below w.heap.size w w' := by
  have HM := Lib.hid (fun w1 => c_mod (lo - tg) 1000000000 w1 (by omega) (by omega) (by omega) (by omega))
  have q0 := Int.emod_nonneg (lo - tg) (show (1000000000 : Int) ≠ 0 by omega)
  have q1 := Int.emod_lt_of_pos (lo - tg) (show (0 : Int) < 1000000000 by omega)
  obtain ⟨v, hv⟩ : ∃ v, v = sideV lo hi tg := ⟨_, rfl⟩
  rw [← hv]
  unfold sideV at hv
  generalize (lo - tg) % 1000000000 = q at *
  have HV := Lib.hid hv
  clear hv
  have cases : (q = 0 ∧ v = 0) ∨ (q ≠ 0 ∧ 1000000000 ≤ q + (hi - lo) ∧ v = 0) ∨ (q ≠ 0 ∧ q + (hi - lo) < 1000000000 ∧ q ≤ 500000000 ∧ 500000000 ≤ q + (hi - lo) ∧ v = 2) ∨ (q ≠ 0 ∧ q + (hi - lo) < 1000000000 ∧ q < 500000000 ∧ q + (hi - lo) < 500000000 ∧ v = 1) ∨ (q ≠ 0 ∧ q + (hi - lo) < 1000000000 ∧ 500000000 < q ∧ v = -1) := by
    have hv := HV.out
    by_cases a : q = 0 ∨ 1000000000 ≤ q + (hi - lo)
    · rw [if_pos a] at hv; omega
    · rw [if_neg a] at hv
      by_cases b : q ≤ 500000000 ∧ 500000000 ≤ q + (hi - lo)
      · rw [if_pos b] at hv; omega
      · rw [if_neg b] at hv
        by_cases c : q < 500000000
        · rw [if_pos c] at hv; omega
        · rw [if_neg c] at hv; omega
  clear HV
  rcases cases with ⟨a1, rfl⟩ | ⟨a1, a2, rfl⟩ | ⟨a1, a2, a3, a4, rfl⟩ | ⟨a1, a2, a3, a4, rfl⟩ | ⟨a1, a2, a3, rfl⟩
  · subst a1
    have hgen := sgen; have hgen2 := sgen2; have hgen3 := sgen3; go_enter Tryd.func66, Tryd.ntmps66
    go_wp2_with (go_at_call 67; (refine (Calls.belowOf (HM.out _)).mono ?_); rintro e w1 ⟨rfl, hb⟩; have hz := hb.size; (try simp only [World.size_alloc, World.size_setCell, World.size_drew, World.heap_drewN] at hz); (try have h_w_0 : w.heap.size < w1.heap.size := by omega); (try have e_w_0 : ¬ w.heap.size = w1.heap.size := by omega); (try have d_w_0 : ¬ w1.heap.size = w.heap.size := by omega); (try (refine bcUse (n := w.heap.size) hb ?_ ?_; (focus ((try simp only [World.size_alloc, World.size_setCell, World.size_drew, World.heap_drewN]); omega)); intro _ _)))
    go_ret
    refine ⟨rfl, ?_⟩
    (repeat' (first | (with_reducible exact Below.refl _ _) | (with_reducible assumption) | (with_reducible refine Below.call ?_ ?_ (by with_reducible assumption)) | (with_reducible refine Below.alloc ?_ ?_ _) | (with_reducible refine Below.drew ?_) | (with_reducible refine below_drewN ?_ _) | (with_reducible refine Below.setCell ?_ ?_ _) | (with_reducible exact Nat.le_refl _) | omega | (simp only [World.size_alloc, World.size_setCell, World.size_drew, World.heap_drewN] at *; omega)))
  · have f1 : (q == 0) = false := by simpa using a1
    have f2 : decide (1000000000 ≤ q + (hi - lo)) = true := decide_eq_true a2
    have hgen := sgen; have hgen2 := sgen2; have hgen3 := sgen3; go_enter Tryd.func66, Tryd.ntmps66
    go_wp2_with (go_at_call 67; (refine (Calls.belowOf (HM.out _)).mono ?_); rintro e w1 ⟨rfl, hb⟩; have hz := hb.size; (try simp only [World.size_alloc, World.size_setCell, World.size_drew, World.heap_drewN] at hz); (try have h_w_0 : w.heap.size < w1.heap.size := by omega); (try have e_w_0 : ¬ w.heap.size = w1.heap.size := by omega); (try have d_w_0 : ¬ w1.heap.size = w.heap.size := by omega); (try (refine bcUse (n := w.heap.size) hb ?_ ?_; (focus ((try simp only [World.size_alloc, World.size_setCell, World.size_drew, World.heap_drewN]); omega)); intro _ _)))
    go_ret
    refine ⟨rfl, ?_⟩
    (repeat' (first | (with_reducible exact Below.refl _ _) | (with_reducible assumption) | (with_reducible refine Below.call ?_ ?_ (by with_reducible assumption)) | (with_reducible refine Below.alloc ?_ ?_ _) | (with_reducible refine Below.drew ?_) | (with_reducible refine below_drewN ?_ _) | (with_reducible refine Below.setCell ?_ ?_ _) | (with_reducible exact Nat.le_refl _) | omega | (simp only [World.size_alloc, World.size_setCell, World.size_drew, World.heap_drewN] at *; omega)))
  · have f1 : (q == 0) = false := by simpa using a1
    have f2 : decide (1000000000 ≤ q + (hi - lo)) = false := decide_eq_false (by omega)
    have f3 : decide (q ≤ 500000000) = true := decide_eq_true a3
    have f4 : decide (500000000 ≤ q + (hi - lo)) = true := decide_eq_true a4
    have hgen := sgen; have hgen2 := sgen2; have hgen3 := sgen3; go_enter Tryd.func66, Tryd.ntmps66
    go_wp2_with (go_at_call 67; (refine (Calls.belowOf (HM.out _)).mono ?_); rintro e w1 ⟨rfl, hb⟩; have hz := hb.size; (try simp only [World.size_alloc, World.size_setCell, World.size_drew, World.heap_drewN] at hz); (try have h_w_0 : w.heap.size < w1.heap.size := by omega); (try have e_w_0 : ¬ w.heap.size = w1.heap.size := by omega); (try have d_w_0 : ¬ w1.heap.size = w.heap.size := by omega); (try (refine bcUse (n := w.heap.size) hb ?_ ?_; (focus ((try simp only [World.size_alloc, World.size_setCell, World.size_drew, World.heap_drewN]); omega)); intro _ _)))
    go_ret
    refine ⟨rfl, ?_⟩
    (repeat' (first | (with_reducible exact Below.refl _ _) | (with_reducible assumption) | (with_reducible refine Below.call ?_ ?_ (by with_reducible assumption)) | (with_reducible refine Below.alloc ?_ ?_ _) | (with_reducible refine Below.drew ?_) | (with_reducible refine below_drewN ?_ _) | (with_reducible refine Below.setCell ?_ ?_ _) | (with_reducible exact Nat.le_refl _) | omega | (simp only [World.size_alloc, World.size_setCell, World.size_drew, World.heap_drewN] at *; omega)))
  · have f1 : (q == 0) = false := by simpa using a1
    have f2 : decide (1000000000 ≤ q + (hi - lo)) = false := decide_eq_false (by omega)
    have f3 : decide (q ≤ 500000000) = true := decide_eq_true (by omega)
    have f4 : decide (500000000 ≤ q + (hi - lo)) = false := decide_eq_false (by omega)
    have f5 : decide (q < 500000000) = true := decide_eq_true a3
    have hgen := sgen; have hgen2 := sgen2; have hgen3 := sgen3; go_enter Tryd.func66, Tryd.ntmps66
    go_wp2_with (go_at_call 67; (refine (Calls.belowOf (HM.out _)).mono ?_); rintro e w1 ⟨rfl, hb⟩; have hz := hb.size; (try simp only [World.size_alloc, World.size_setCell, World.size_drew, World.heap_drewN] at hz); (try have h_w_0 : w.heap.size < w1.heap.size := by omega); (try have e_w_0 : ¬ w.heap.size = w1.heap.size := by omega); (try have d_w_0 : ¬ w1.heap.size = w.heap.size := by omega); (try (refine bcUse (n := w.heap.size) hb ?_ ?_; (focus ((try simp only [World.size_alloc, World.size_setCell, World.size_drew, World.heap_drewN]); omega)); intro _ _)))
    go_ret
    refine ⟨rfl, ?_⟩
    (repeat' (first | (with_reducible exact Below.refl _ _) | (with_reducible assumption) | (with_reducible refine Below.call ?_ ?_ (by with_reducible assumption)) | (with_reducible refine Below.alloc ?_ ?_ _) | (with_reducible refine Below.drew ?_) | (with_reducible refine below_drewN ?_ _) | (with_reducible refine Below.setCell ?_ ?_ _) | (with_reducible exact Nat.le_refl _) | omega | (simp only [World.size_alloc, World.size_setCell, World.size_drew, World.heap_drewN] at *; omega)))
  · have f1 : (q == 0) = false := by simpa using a1
    have f2 : decide (1000000000 ≤ q + (hi - lo)) = false := decide_eq_false (by omega)
    have f3 : decide (q ≤ 500000000) = false := decide_eq_false (by omega)
    have f5 : decide (q < 500000000) = false := decide_eq_false (by omega)
    have hgen := sgen; have hgen2 := sgen2; have hgen3 := sgen3; go_enter Tryd.func66, Tryd.ntmps66
    go_wp2_with (go_at_call 67; (refine (Calls.belowOf (HM.out _)).mono ?_); rintro e w1 ⟨rfl, hb⟩; have hz := hb.size; (try simp only [World.size_alloc, World.size_setCell, World.size_drew, World.heap_drewN] at hz); (try have h_w_0 : w.heap.size < w1.heap.size := by omega); (try have e_w_0 : ¬ w.heap.size = w1.heap.size := by omega); (try have d_w_0 : ¬ w1.heap.size = w.heap.size := by omega); (try (refine bcUse (n := w.heap.size) hb ?_ ?_; (focus ((try simp only [World.size_alloc, World.size_setCell, World.size_drew, World.heap_drewN]); omega)); intro _ _)))
    go_ret
    refine ⟨rfl, ?_⟩
    (repeat' (first | (with_reducible exact Below.refl _ _) | (with_reducible assumption) | (with_reducible refine Below.call ?_ ?_ (by with_reducible assumption)) | (with_reducible refine Below.alloc ?_ ?_ _) | (with_reducible refine Below.drew ?_) | (with_reducible refine below_drewN ?_ _) | (with_reducible refine Below.setCell ?_ ?_ _) | (with_reducible exact Nat.le_refl _) | omega | (simp only [World.size_alloc, World.size_setCell, World.size_drew, World.heap_drewN] at *; omega)))
theorem c_next1 (b : Nat) (tg x : Int) (w : World) (hT : Tab w) (hx : instB x = true) (hbl : b < w.heap.size) (hc : w.cell? ⟨b, 0, none⟩ = some (.int .i64 tg)) (t0 : 0 ≤ tg) (t1 : tg < 1000000000) :
    Calls Tryd.prog 65 #[.int .i64 x, .pointer (some ⟨b, 0, none⟩)] w fun e w' => e = .returned (.int .i64 (sunSide tg x)) ∧ Below w.heap.size w w' := by
  obtain ⟨q1, q2, -, q3, -, -, q6⟩ := sun_facts x
  have HB := Lib.hid (fun w1 (h : Tab w1) => c_sunLongitude x w1 h hx)
  have HS := Lib.hid (fun w1 => c_Side (sunLo x) (sunHi x) tg w1 q1 q2 q6 (by omega) t0 t1)
  rw [show sideV (sunLo x) (sunHi x) tg = sunSide tg x from rfl] at HS
  have HT := Lib.hid hT
  clear hT hx q1 q2 q3 q6
  generalize sunSide tg x = sv at *
  generalize sunLo x = b1 at *
  generalize sunHi x = b2 at *
  have hgen := sgen; have hgen2 := sgen2; have hgen3 := sgen3; go_enter Tryd.func65, Tryd.ntmps65
  go_wp2_with (first | (go_at_call 35; (refine (HB.out _ (HT.out.below (by (repeat' (first | (with_reducible exact Below.refl _ _) | (with_reducible assumption) | (with_reducible refine Below.call ?_ ?_ (by with_reducible assumption)) | (with_reducible refine Below.alloc ?_ ?_ _) | (with_reducible refine Below.drew ?_) | (with_reducible refine below_drewN ?_ _) | (with_reducible refine Below.setCell ?_ ?_ _) | (with_reducible exact Nat.le_refl _) | omega | (simp only [World.size_alloc, World.size_setCell, World.size_drew, World.heap_drewN] at *; omega)))))).mono ?_); rintro e w1 ⟨rfl, hb⟩; have hz := hb.size; (try simp only [World.size_alloc, World.size_setCell, World.size_drew, World.heap_drewN] at hz); (try have h_bb_0 : b < w1.heap.size := by omega); (try have e_bb_0 : ¬ b = w1.heap.size := by omega); (try have d_bb_0 : ¬ w1.heap.size = b := by omega); (try (refine bcUse (n := b) hb ?_ ?_; (focus ((try simp only [World.size_alloc, World.size_setCell, World.size_drew, World.heap_drewN]); omega)); intro _ _)); (try have h_w_0 : w.heap.size < w1.heap.size := by omega); (try have e_w_0 : ¬ w.heap.size = w1.heap.size := by omega); (try have d_w_0 : ¬ w1.heap.size = w.heap.size := by omega); (try (refine bcUse (n := w.heap.size) hb ?_ ?_; (focus ((try simp only [World.size_alloc, World.size_setCell, World.size_drew, World.heap_drewN]); omega)); intro _ _))) | (go_at_call 66; (refine (HS.out _).mono ?_); rintro e w2 ⟨rfl, hb⟩; have hz := hb.size; (try simp only [World.size_alloc, World.size_setCell, World.size_drew, World.heap_drewN] at hz); (try have h_bb_0 : b < w2.heap.size := by omega); (try have e_bb_0 : ¬ b = w2.heap.size := by omega); (try have d_bb_0 : ¬ w2.heap.size = b := by omega); (try (refine bcUse (n := b) hb ?_ ?_; (focus ((try simp only [World.size_alloc, World.size_setCell, World.size_drew, World.heap_drewN]); omega)); intro _ _)); (try have h_w_0 : w.heap.size < w2.heap.size := by omega); (try have e_w_0 : ¬ w.heap.size = w2.heap.size := by omega); (try have d_w_0 : ¬ w2.heap.size = w.heap.size := by omega); (try (refine bcUse (n := w.heap.size) hb ?_ ?_; (focus ((try simp only [World.size_alloc, World.size_setCell, World.size_drew, World.heap_drewN]); omega)); intro _ _)); (try have h_w1_0 : w1.heap.size < w2.heap.size := by omega); (try have e_w1_0 : ¬ w1.heap.size = w2.heap.size := by omega); (try have d_w1_0 : ¬ w2.heap.size = w1.heap.size := by omega); (try (refine bcUse (n := w1.heap.size) hb ?_ ?_; (focus ((try simp only [World.size_alloc, World.size_setCell, World.size_drew, World.heap_drewN]); omega)); intro _ _))))
  go_ret
  refine ⟨rfl, ?_⟩
  (repeat' (first | (with_reducible exact Below.refl _ _) | (with_reducible assumption) | (with_reducible refine Below.call ?_ ?_ (by with_reducible assumption)) | (with_reducible refine Below.alloc ?_ ?_ _) | (with_reducible refine Below.drew ?_) | (with_reducible refine below_drewN ?_ _) | (with_reducible refine Below.setCell ?_ ?_ _) | (with_reducible exact Nat.le_refl _) | omega | (simp only [World.size_alloc, World.size_setCell, World.size_drew, World.heap_drewN] at *; omega)))
theorem call_next1 (args : Array Value) (w : World) : (callFunc 65 args).run Tryd.prog w = .ok (.enter 65 args) w := by
  go_simp
def elSide (tg x : Int) : Int := sideV (elLo x) (elHi x) tg
theorem c_pfind1 (b : Nat) (q x : Int) (w : World) (hT : Tab w) (hx : instB x = true) (hbl : b < w.heap.size) (hc : w.cell? ⟨b, 0, none⟩ = some (.int .i64 q)) (t0 : 0 ≤ q) (t1 : q ≤ 3) :
    Calls Tryd.prog 95 #[.int .i64 x, .pointer (some ⟨b, 0, none⟩)] w fun e w' => e = .returned (.int .i64 (elSide (q * 250000000) x)) ∧ Below w.heap.size w w' := by
  obtain ⟨p1, p2, -, p3, p4, p5, p6⟩ := moon_facts x
  obtain ⟨q1, q2, -, q3, q4, q5, q6⟩ := sun_facts x
  have g0 : 0 ≤ elLo x := by unfold elLo; omega
  have g1 : elLo x < 1000000000 := by unfold elLo; omega
  have g2 : elHi x - elLo x ≤ 44006 := by unfold elHi; omega
  have g3 : elLo x ≤ elHi x := by unfold elHi; omega
  have HB := Lib.hid (fun w1 (h : Tab w1) => c_Elongation x w1 h hx)
  have HS := Lib.hid (fun w1 => c_Side (elLo x) (elHi x) (q * 250000000) w1 g0 g1 g3 (by omega) (by omega) (by omega))
  rw [show sideV (elLo x) (elHi x) (q * 250000000) = elSide (q * 250000000) x from rfl] at HS
  have HT := Lib.hid hT
  have e1 : q * 1000000000 / 4 = q * 250000000 := by omega
  have e2 : (q * 1000000000).tdiv 4 = q * 250000000 := by rw [Int.tdiv_eq_ediv_of_nonneg (by omega)]; omega
  clear hT hx q1 q2 q3 q4 q5 q6 p1 p2 p3 p4 p5 p6 g0 g1 g2 g3
  generalize elSide (q * 250000000) x = sv at *
  generalize elLo x = b1 at *
  generalize elHi x = b2 at *
  have hgen := sgen; have hgen2 := sgen2; have hgen3 := sgen3; go_enter Tryd.func95, Tryd.ntmps95
  go_wp2_with (first | (go_at_call 74; (refine (HB.out _ (HT.out.below (by (repeat' (first | (with_reducible exact Below.refl _ _) | (with_reducible assumption) | (with_reducible refine Below.call ?_ ?_ (by with_reducible assumption)) | (with_reducible refine Below.alloc ?_ ?_ _) | (with_reducible refine Below.drew ?_) | (with_reducible refine below_drewN ?_ _) | (with_reducible refine Below.setCell ?_ ?_ _) | (with_reducible exact Nat.le_refl _) | omega | (simp only [World.size_alloc, World.size_setCell, World.size_drew, World.heap_drewN] at *; omega)))))).mono ?_); rintro e w1 ⟨rfl, hb⟩; have hz := hb.size; (try simp only [World.size_alloc, World.size_setCell, World.size_drew, World.heap_drewN] at hz); (try have h_bb_0 : b < w1.heap.size := by omega); (try have e_bb_0 : ¬ b = w1.heap.size := by omega); (try have d_bb_0 : ¬ w1.heap.size = b := by omega); (try (refine bcUse (n := b) hb ?_ ?_; (focus ((try simp only [World.size_alloc, World.size_setCell, World.size_drew, World.heap_drewN]); omega)); intro _ _)); (try have h_w_0 : w.heap.size < w1.heap.size := by omega); (try have e_w_0 : ¬ w.heap.size = w1.heap.size := by omega); (try have d_w_0 : ¬ w1.heap.size = w.heap.size := by omega); (try (refine bcUse (n := w.heap.size) hb ?_ ?_; (focus ((try simp only [World.size_alloc, World.size_setCell, World.size_drew, World.heap_drewN]); omega)); intro _ _))) | (go_at_call 66; (refine (HS.out _).mono ?_); rintro e w2 ⟨rfl, hb⟩; have hz := hb.size; (try simp only [World.size_alloc, World.size_setCell, World.size_drew, World.heap_drewN] at hz); (try have h_bb_0 : b < w2.heap.size := by omega); (try have e_bb_0 : ¬ b = w2.heap.size := by omega); (try have d_bb_0 : ¬ w2.heap.size = b := by omega); (try (refine bcUse (n := b) hb ?_ ?_; (focus ((try simp only [World.size_alloc, World.size_setCell, World.size_drew, World.heap_drewN]); omega)); intro _ _)); (try have h_w_0 : w.heap.size < w2.heap.size := by omega); (try have e_w_0 : ¬ w.heap.size = w2.heap.size := by omega); (try have d_w_0 : ¬ w2.heap.size = w.heap.size := by omega); (try (refine bcUse (n := w.heap.size) hb ?_ ?_; (focus ((try simp only [World.size_alloc, World.size_setCell, World.size_drew, World.heap_drewN]); omega)); intro _ _)); (try have h_w1_0 : w1.heap.size < w2.heap.size := by omega); (try have e_w1_0 : ¬ w1.heap.size = w2.heap.size := by omega); (try have d_w1_0 : ¬ w2.heap.size = w1.heap.size := by omega); (try (refine bcUse (n := w1.heap.size) hb ?_ ?_; (focus ((try simp only [World.size_alloc, World.size_setCell, World.size_drew, World.heap_drewN]); omega)); intro _ _))))
  go_ret
  refine ⟨rfl, ?_⟩
  (repeat' (first | (with_reducible exact Below.refl _ _) | (with_reducible assumption) | (with_reducible refine Below.call ?_ ?_ (by with_reducible assumption)) | (with_reducible refine Below.alloc ?_ ?_ _) | (with_reducible refine Below.drew ?_) | (with_reducible refine below_drewN ?_ _) | (with_reducible refine Below.setCell ?_ ?_ _) | (with_reducible exact Nat.le_refl _) | omega | (simp only [World.size_alloc, World.size_setCell, World.size_drew, World.heap_drewN] at *; omega)))
theorem call_pfind1 (args : Array Value) (w : World) : (callFunc 95 args).run Tryd.prog w = .ok (.enter 95 args) w := by
  go_simp
end Go.Proofs.YtplhegjgkmabiaaDoor
