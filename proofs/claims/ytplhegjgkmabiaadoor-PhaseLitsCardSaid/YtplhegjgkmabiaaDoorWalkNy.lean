/- Contracts of line.NewYear, of the reference's NewYear, of the law's ahead and beyond. -/
import Derived.Test.YtplhegjgkmabiaaDoorWkA
import Derived.Test.YtplhegjgkmabiaaDoorWkD
import Derived.Deep.LoopGhost
set_option linter.unusedVariables false
set_option linter.unusedSimpArgs false
namespace Go.Proofs.YtplhegjgkmabiaaDoor
open Go.RowKit
def nyD (y : Int) : Int := 365 * (y - 1) + (y - 1) / 4 - (y - 1) / 100 + (y - 1) / 400 + 1
theorem nyD_shift (y : Int) : nyD (y + 400) = nyD y + 146097 := by unfold nyD; omega
theorem nyD_bd (y : Int) : 146097 * (y - 1) - 300 ≤ 400 * nyD y ∧ 400 * nyD y ≤ 146097 * (y - 1) + 800 := by unfold nyD; omega
theorem c_lNewYear (y : Int) (w : World) (h1 : -20000 ≤ y) (h2 : y ≤ 20000) :
    Calls Tryd.prog 62 #[.int .i64 y] w fun e w' => e = .returned (.int .i64 (nyD y)) ∧ Below w.heap.size w w' := by
  have h3 := fun w1 => c_down (y - 1) 4 w1 (by omega) (by omega) (by omega) (by omega)
  have h4 := fun w1 => c_down (y - 1) 100 w1 (by omega) (by omega) (by omega) (by omega)
  have h5 := fun w1 => c_down (y - 1) 400 w1 (by omega) (by omega) (by omega) (by omega)
  have H3 := Lib.hid h3
  have H4 := Lib.hid h4
  have H5 := Lib.hid h5
  have e : nyD y = 365 * (y - 1) + (y - 1) / 4 - (y - 1) / 100 + (y - 1) / 400 + 1 := rfl
  rw [e]
  clear h3 h4 h5 e
  have b1 : -6000 ≤ (y - 1) / 4 ∧ (y - 1) / 4 ≤ 6000 := by omega
  have b2 : -6000 ≤ (y - 1) / 100 ∧ (y - 1) / 100 ≤ 6000 := by omega
  have b3 : -6000 ≤ (y - 1) / 400 ∧ (y - 1) / 400 ≤ 6000 := by omega
  generalize (y - 1) / 4 = q4 at *
  generalize (y - 1) / 100 = q1 at *
  generalize (y - 1) / 400 = q2 at *
  have hgen := sgen; have hgen2 := sgen2; have hgen3 := sgen3; go_enter Tryd.func62, Tryd.ntmps62
  go_wp2_with (first | (go_at_call 73; (with_reducible refine (Calls.belowOf (H3.out _)).mono ?_); rintro e w1 ⟨rfl, hb⟩; have hz := hb.size; (try simp only [World.size_alloc, World.size_setCell, World.size_drew, World.heap_drewN] at hz); (try have h_w_0 : w.heap.size < w1.heap.size := by omega); (try have e_w_0 : ¬ w.heap.size = w1.heap.size := by omega); (try have d_w_0 : ¬ w1.heap.size = w.heap.size := by omega); (try (refine bcUse (n := w.heap.size) hb ?_ ?_; (focus ((try simp only [World.size_alloc, World.size_setCell, World.size_drew, World.heap_drewN]); omega)); intro _ _))) | (go_at_call 73; (with_reducible refine (Calls.belowOf (H4.out _)).mono ?_); rintro e w2 ⟨rfl, hb⟩; have hz := hb.size; (try simp only [World.size_alloc, World.size_setCell, World.size_drew, World.heap_drewN] at hz); (try have h_w_0 : w.heap.size < w2.heap.size := by omega); (try have e_w_0 : ¬ w.heap.size = w2.heap.size := by omega); (try have d_w_0 : ¬ w2.heap.size = w.heap.size := by omega); (try (refine bcUse (n := w.heap.size) hb ?_ ?_; (focus ((try simp only [World.size_alloc, World.size_setCell, World.size_drew, World.heap_drewN]); omega)); intro _ _)); (try have h_w1_0 : w1.heap.size < w2.heap.size := by omega); (try have e_w1_0 : ¬ w1.heap.size = w2.heap.size := by omega); (try have d_w1_0 : ¬ w2.heap.size = w1.heap.size := by omega); (try (refine bcUse (n := w1.heap.size) hb ?_ ?_; (focus ((try simp only [World.size_alloc, World.size_setCell, World.size_drew, World.heap_drewN]); omega)); intro _ _))) | (go_at_call 73; (with_reducible refine (Calls.belowOf (H5.out _)).mono ?_); rintro e w3 ⟨rfl, hb⟩; have hz := hb.size; (try simp only [World.size_alloc, World.size_setCell, World.size_drew, World.heap_drewN] at hz); (try have h_w_0 : w.heap.size < w3.heap.size := by omega); (try have e_w_0 : ¬ w.heap.size = w3.heap.size := by omega); (try have d_w_0 : ¬ w3.heap.size = w.heap.size := by omega); (try (refine bcUse (n := w.heap.size) hb ?_ ?_; (focus ((try simp only [World.size_alloc, World.size_setCell, World.size_drew, World.heap_drewN]); omega)); intro _ _)); (try have h_w1_0 : w1.heap.size < w3.heap.size := by omega); (try have e_w1_0 : ¬ w1.heap.size = w3.heap.size := by omega); (try have d_w1_0 : ¬ w3.heap.size = w1.heap.size := by omega); (try (refine bcUse (n := w1.heap.size) hb ?_ ?_; (focus ((try simp only [World.size_alloc, World.size_setCell, World.size_drew, World.heap_drewN]); omega)); intro _ _)); (try have h_w2_0 : w2.heap.size < w3.heap.size := by omega); (try have e_w2_0 : ¬ w2.heap.size = w3.heap.size := by omega); (try have d_w2_0 : ¬ w3.heap.size = w2.heap.size := by omega); (try (refine bcUse (n := w2.heap.size) hb ?_ ?_; (focus ((try simp only [World.size_alloc, World.size_setCell, World.size_drew, World.heap_drewN]); omega)); intro _ _))))
  go_ret
  refine ⟨rfl, ?_⟩
  (repeat' (first | (with_reducible exact Below.refl _ _) | (with_reducible assumption) | (with_reducible refine Below.call ?_ ?_ (by with_reducible assumption)) | (with_reducible refine Below.alloc ?_ ?_ _) | (with_reducible refine Below.drew ?_) | (with_reducible refine below_drewN ?_ _) | (with_reducible refine Below.setCell ?_ ?_ _) | (with_reducible exact Nat.le_refl _) | omega | (simp only [World.size_alloc, World.size_setCell, World.size_drew, World.heap_drewN] at *; omega)))
theorem c_ahead (a b : Int) (w : World) (a1 : -4000000000000000 ≤ a) (a2 : a ≤ 4000000000000000) (b1 : -4000000000000000 ≤ b) (b2 : b ≤ 4000000000000000) :
    Calls Tryd.prog 32 #[.int .i64 a, .int .i64 b] w fun e w' => e = .returned (.int .i64 ((a - b + 524288000000000) % 1048576000000000 - 524288000000000)) ∧ w = w' := by
  have HM := Lib.hid (fun w1 => c_rMod (a - b + 524288000000000) 1048576000000000 w1 (by omega) (by omega) (by omega) (by omega))
  have q0 := Int.emod_nonneg (a - b + 524288000000000) (show (1048576000000000 : Int) ≠ 0 by omega)
  have q1 := Int.emod_lt_of_pos (a - b + 524288000000000) (show (0 : Int) < 1048576000000000 by omega)
  generalize (a - b + 524288000000000) % 1048576000000000 = q at *
  have hgen := sgen; have hgen2 := sgen2; have hgen3 := sgen3; go_enter Tryd.func32, Tryd.ntmps32
  go_wp2_with (go_at_call 36; (with_reducible refine (HM.out _).mono ?_); rintro e w' ⟨rfl, rfl⟩)
  go_ret
  exact ⟨rfl, rfl⟩
theorem c_bey1 (n m : Int) (w : World) (h : n < -m ∨ m < n) (m1 : 0 ≤ m) (m2 : m ≤ 9223372036854775807) : Calls Tryd.prog 29 #[.int .i64 n, .int .i64 m] w fun e w' => e = .returned (.bool true) ∧ w = w' := by
  rcases (show n < -m ∨ (-m ≤ n ∧ m < n) by omega) with h1 | ⟨h1, h2⟩
  · have d1 : decide (n < -m) = true := decide_eq_true h1
    have hgen := sgen; have hgen2 := sgen2; have hgen3 := sgen3; go_enter Tryd.func29, Tryd.ntmps29
    go_wp2
    go_ret
    exact ⟨rfl, rfl⟩
  · have d1 : decide (n < -m) = false := decide_eq_false (by omega)
    have d2 : decide (m < n) = true := decide_eq_true h2
    have hgen := sgen; have hgen2 := sgen2; have hgen3 := sgen3; go_enter Tryd.func29, Tryd.ntmps29
    go_wp2
    go_ret
    exact ⟨rfl, rfl⟩
theorem c_bey0 (n m : Int) (w : World) (h1 : -m ≤ n) (h2 : n ≤ m) (m1 : 0 ≤ m) (m2 : m ≤ 9223372036854775807) : Calls Tryd.prog 29 #[.int .i64 n, .int .i64 m] w fun e w' => e = .returned (.bool false) ∧ w = w' := by
  have d1 : decide (n < -m) = false := decide_eq_false (by omega)
  have d2 : decide (m < n) = false := decide_eq_false (by omega)
  have hgen := sgen; have hgen2 := sgen2; have hgen3 := sgen3; go_enter Tryd.func29, Tryd.ntmps29
  go_wp2
  go_ret
  exact ⟨rfl, rfl⟩
set_option maxHeartbeats 1000000 in
theorem c_rNewYear (y0 : Int) (w : World) (h1 : -10000 ≤ y0) (h2 : y0 ≤ 10000) :
    Calls Tryd.prog 31 #[.int .i64 y0] w fun e w' => e = .returned (.int .i64 (nyD y0)) ∧ w = w' := by
  obtain ⟨D, hD⟩ : ∃ D, D = nyD y0 := ⟨_, rfl⟩
  rw [← hD]
  have HD := Lib.hid hD
  clear hD
  have hgen := sgen; have hgen2 := sgen2; have hgen3 := sgen3; go_enter Tryd.func31, Tryd.ntmps31
  go_wp2_with fail
  go_loop [0, 3] (fun x0 x3 => ∃ y d : Int, x0 = .int .i64 y ∧ x3 = .int .i64 d ∧ -10000 ≤ y ∧ y ≤ 10000 ∧ -4000000 ≤ d ∧ d ≤ 4000000 ∧ d + nyD y = D + 1) (fun x0 _ => (intOf x0).toNat)
  case atStart => exact ⟨y0, 1, rfl, rfl, h1, h2, by omega, by omega, by rw [HD.out]; omega⟩
  case round =>
    obtain ⟨y, d, rfl, rfl, a1, a2, a3, a4, a5⟩ := hrel
    have HA := Lib.hid a5
    clear a5
    by_cases g : 400 < y
    · have f1 : decide (400 < y) = true := decide_eq_true g
      have hb : d ≤ 3700000 := by have h1 := HA.out; have h2 := HD.out; unfold nyD at h1 h2; omega
      go_wp2
      go_round
      case rel => exact ⟨y - 400, d + 146097, rfl, rfl, by omega, by omega, by omega, by omega, by have := HA.out; have h := nyD_shift (y - 400); rw [show y - 400 + 400 = y by omega] at h; omega⟩
      case measure => simp [intOf]; omega
    · have f1 : decide (400 < y) = false := decide_eq_false g
      go_wp2_with fail
      go_loop [0, 3] (fun x0 x3 => ∃ y d : Int, x0 = .int .i64 y ∧ x3 = .int .i64 d ∧ -10000 ≤ y ∧ y ≤ 400 ∧ -4000000 ≤ d ∧ d ≤ 4000000 ∧ d + nyD y = D + 1) (fun x0 _ => (1 - intOf x0).toNat)
      case atStart => exact ⟨y, d, rfl, rfl, a1, by omega, by omega, by omega, HA.out⟩
      case round =>
        clear HA f1 g a1 a2 a3 a4
        obtain ⟨y, d, rfl, rfl, a1, a2, a3, a4, a5⟩ := hrel
        have HA := Lib.hid a5
        clear a5
        by_cases g : y < 1
        · have f1 : decide (y < 1) = true := decide_eq_true g
          have hb : -3800000 ≤ d := by have h1 := HA.out; have h2 := HD.out; have h3 := nyD_bd y; have h4 := nyD_bd y0; omega
          go_wp2
          go_round
          case rel => exact ⟨y + 400, d - 146097, rfl, rfl, by omega, by omega, by omega, by omega, by have := HA.out; have h := nyD_shift y; omega⟩
          case measure => simp [intOf]; omega
        · have f1 : decide (y < 1) = false := decide_eq_false g
          go_wp2_with fail
          go_loop [3, 4] (fun x3 x4 => ∃ z c : Int, x4 = .int .i64 z ∧ x3 = .int .i64 c ∧ 1 ≤ z ∧ z ≤ y ∧ -4000000 ≤ c ∧ c ≤ 4000000 + 366 * z ∧ c = d + nyD z - 1) (fun _ x4 => (400 - intOf x4).toNat)
          case atStart => exact ⟨1, d, rfl, rfl, by omega, by omega, by omega, by omega, by unfold nyD; omega⟩
          case round =>
            obtain ⟨z, c, rfl, rfl, c1, c2, c3, c4, c5⟩ := hrel
            have HC := Lib.hid c5
            clear c5
            by_cases g2 : z < y
            · have f2 : decide (z < y) = true := decide_eq_true g2
              by_cases q4 : z % 4 = 0
              · have e4 : (z % 4 == 0) = true := by simpa using q4
                by_cases q1 : z % 100 = 0
                · have e1 : (z % 100 != 0) = false := by simpa using q1
                  by_cases q5 : z % 400 = 0
                  · have e5 : (z % 400 == 0) = true := by simpa using q5
                    have hs : nyD (z + 1) = nyD z + 366 := by unfold nyD; omega
                    have HS := Lib.hid hs
                    clear hs q4 q1 q5
                    go_wp2
                    go_round
                    case rel => exact ⟨z + 1, c + 365 + 1, rfl, rfl, by omega, by omega, by omega, by omega, by rw [HS.out]; have := HC.out; omega⟩
                    case measure => simp [intOf]; omega
                  · have e5 : (z % 400 == 0) = false := by simpa using q5
                    have hs : nyD (z + 1) = nyD z + 365 := by unfold nyD; omega
                    have HS := Lib.hid hs
                    clear hs q4 q1 q5
                    go_wp2
                    go_round
                    case rel => exact ⟨z + 1, c + 365, rfl, rfl, by omega, by omega, by omega, by omega, by rw [HS.out]; have := HC.out; omega⟩
                    case measure => simp [intOf]; omega
                · have e1 : (z % 100 != 0) = true := by simpa using q1
                  have hs : nyD (z + 1) = nyD z + 366 := by unfold nyD; omega
                  have HS := Lib.hid hs
                  clear hs q4 q1
                  go_wp2
                  go_round
                  case rel => exact ⟨z + 1, c + 365 + 1, rfl, rfl, by omega, by omega, by omega, by omega, by rw [HS.out]; have := HC.out; omega⟩
                  case measure => simp [intOf]; omega
              · have e4 : (z % 4 == 0) = false := by simpa using q4
                have q5 : ¬ z % 400 = 0 := by omega
                have e5 : (z % 400 == 0) = false := by simpa using q5
                have hs : nyD (z + 1) = nyD z + 365 := by unfold nyD; omega
                have HS := Lib.hid hs
                clear hs q4 q5
                go_wp2
                go_round
                case rel => exact ⟨z + 1, c + 365, rfl, rfl, by omega, by omega, by omega, by omega, by rw [HS.out]; have := HC.out; omega⟩
                case measure => simp [intOf]; omega
            · have f2 : decide (z < y) = false := decide_eq_false g2
              obtain rfl : z = y := by omega
              have hc : c = D := by have h1 := HC.out; have h2 := HA.out; omega
              subst hc
              go_wp2
              go_ret
              exact ⟨rfl, rfl⟩
end Go.Proofs.YtplhegjgkmabiaaDoor
