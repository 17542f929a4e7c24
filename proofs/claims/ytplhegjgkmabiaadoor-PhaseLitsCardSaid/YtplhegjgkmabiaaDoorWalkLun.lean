/- Contracts of phase.Number and phaseWorks; the walks through the laws PhaseFinds and PhaseNumbers. -/
import Derived.Test.YtplhegjgkmabiaaDoorPlainLun
import Derived.Test.YtplhegjgkmabiaaDoorWalkNy
import Derived.Deep.RegionHeld3
set_option linter.unusedVariables false
set_option linter.unusedSimpArgs false
namespace Go.Proofs.YtplhegjgkmabiaaDoor
open Go.RowKit
/-- What phase.Number answers. -/
def NumRes (t : Int) (e : Ending) : Prop :=
  (∃ k : Int, e = .returned (.tuple #[.int .i64 k, .int .i64 0]) ∧ -99999 ≤ k ∧ k ≤ 99999 ∧ (phR k 0).hi < t ∧ t < (phR (k + 1) 0).lo) ∨
  (e = .returned (.tuple #[.int .i64 0, .int .i64 11]) ∧ ∃ i : Int, (t - 977949455) / 2551442878 - 1 ≤ i ∧ i ≤ (t - 977949455) / 2551442878 + 1 ∧ (phR i 0).lo ≤ t ∧ t ≤ (phR i 0).hi)
theorem c_Number_time (t : Int) (w : World) (h : instB t = false) (i1 : -9223372036854775808 ≤ t) (i2 : t ≤ 9223372036854775807) :
    Calls Tryd.prog 40 #[.int .i64 t] w fun e w' => e = .returned (.tuple #[.int .i64 0, .int .i64 3]) ∧ Below w.heap.size w w' := by
  have HA := Lib.hid (fun w1 => c_isInst t w1 i1 i2)
  rw [h] at HA
  clear h
  have hgen := sgen; have hgen2 := sgen2; have hgen3 := sgen3; go_enter Tryd.func40, Tryd.ntmps40
  go_wp2_with (go_at_call 56; (refine (HA.out _).mono ?_); rintro e w1 ⟨rfl, hb⟩; have hz := hb.size; (try simp only [World.size_alloc, World.size_setCell, World.size_drew, World.heap_drewN] at hz); (try have h_w_0 : w.heap.size < w1.heap.size := by omega); (try have e_w_0 : ¬ w.heap.size = w1.heap.size := by omega); (try have d_w_0 : ¬ w1.heap.size = w.heap.size := by omega); (try (refine bcUse (n := w.heap.size) hb ?_ ?_; (focus ((try simp only [World.size_alloc, World.size_setCell, World.size_drew, World.heap_drewN]); omega)); intro _ _)))
  go_ret2
  refine ⟨rfl, ?_⟩
  (repeat' (first | (with_reducible exact Below.refl _ _) | (with_reducible assumption) | (with_reducible refine Below.call ?_ ?_ (by with_reducible assumption)) | (with_reducible refine Below.alloc ?_ ?_ _) | (with_reducible refine Below.drew ?_) | (with_reducible refine below_drewN ?_ _) | (with_reducible refine Below.setCell ?_ ?_ _) | (with_reducible exact Nat.le_refl _) | omega | (simp only [World.size_alloc, World.size_setCell, World.size_drew, World.heap_drewN] at *; omega)))
theorem c_Number_rng (t : Int) (w : World) (h : instB t = true) (hn : (t - 977949455) / 2551442878 < -99998 ∨ 99998 < (t - 977949455) / 2551442878) :
    Calls Tryd.prog 40 #[.int .i64 t] w fun e w' => e = .returned (.tuple #[.int .i64 0, .int .i64 3]) ∧ Below w.heap.size w w' := by
  obtain ⟨b1, b2⟩ := inst_bd h
  have HA := Lib.hid (fun w1 => c_isInst t w1 (by omega) (by omega))
  have HD := Lib.hid (fun w1 => c_down (t - 977949455) 2551442878 w1 (by omega) (by omega) (by omega) (by omega))
  rw [h] at HA
  generalize (t - 977949455) / 2551442878 = n at *
  clear h
  rcases (show n < -99998 ∨ (-99998 ≤ n ∧ 99998 < n) by omega) with h | ⟨h0, h⟩
  · have f1 : decide (n < -99998) = true := decide_eq_true h
    have hgen := sgen; have hgen2 := sgen2; have hgen3 := sgen3; go_enter Tryd.func40, Tryd.ntmps40
    go_wp2_with (first | (go_at_call 56; (refine (HA.out _).mono ?_); rintro e w1 ⟨rfl, hb⟩; have hz := hb.size; (try simp only [World.size_alloc, World.size_setCell, World.size_drew, World.heap_drewN] at hz); (try have h_w_0 : w.heap.size < w1.heap.size := by omega); (try have e_w_0 : ¬ w.heap.size = w1.heap.size := by omega); (try have d_w_0 : ¬ w1.heap.size = w.heap.size := by omega); (try (refine bcUse (n := w.heap.size) hb ?_ ?_; (focus ((try simp only [World.size_alloc, World.size_setCell, World.size_drew, World.heap_drewN]); omega)); intro _ _))) | (go_at_call 73; (refine (Calls.belowOf (HD.out _)).mono ?_); rintro e w2 ⟨rfl, hb⟩; have hz := hb.size; (try simp only [World.size_alloc, World.size_setCell, World.size_drew, World.heap_drewN] at hz); (try have h_w_0 : w.heap.size < w2.heap.size := by omega); (try have e_w_0 : ¬ w.heap.size = w2.heap.size := by omega); (try have d_w_0 : ¬ w2.heap.size = w.heap.size := by omega); (try (refine bcUse (n := w.heap.size) hb ?_ ?_; (focus ((try simp only [World.size_alloc, World.size_setCell, World.size_drew, World.heap_drewN]); omega)); intro _ _)); (try have h_w1_0 : w1.heap.size < w2.heap.size := by omega); (try have e_w1_0 : ¬ w1.heap.size = w2.heap.size := by omega); (try have d_w1_0 : ¬ w2.heap.size = w1.heap.size := by omega); (try (refine bcUse (n := w1.heap.size) hb ?_ ?_; (focus ((try simp only [World.size_alloc, World.size_setCell, World.size_drew, World.heap_drewN]); omega)); intro _ _))))
    go_ret2
    refine ⟨rfl, ?_⟩
    (repeat' (first | (with_reducible exact Below.refl _ _) | (with_reducible assumption) | (with_reducible refine Below.call ?_ ?_ (by with_reducible assumption)) | (with_reducible refine Below.alloc ?_ ?_ _) | (with_reducible refine Below.drew ?_) | (with_reducible refine below_drewN ?_ _) | (with_reducible refine Below.setCell ?_ ?_ _) | (with_reducible exact Nat.le_refl _) | omega | (simp only [World.size_alloc, World.size_setCell, World.size_drew, World.heap_drewN] at *; omega)))
  · have f1 : decide (n < -99998) = false := decide_eq_false (by omega)
    have f2 : decide (99998 < n) = true := decide_eq_true h
    have hgen := sgen; have hgen2 := sgen2; have hgen3 := sgen3; go_enter Tryd.func40, Tryd.ntmps40
    go_wp2_with (first | (go_at_call 56; (refine (HA.out _).mono ?_); rintro e w1 ⟨rfl, hb⟩; have hz := hb.size; (try simp only [World.size_alloc, World.size_setCell, World.size_drew, World.heap_drewN] at hz); (try have h_w_0 : w.heap.size < w1.heap.size := by omega); (try have e_w_0 : ¬ w.heap.size = w1.heap.size := by omega); (try have d_w_0 : ¬ w1.heap.size = w.heap.size := by omega); (try (refine bcUse (n := w.heap.size) hb ?_ ?_; (focus ((try simp only [World.size_alloc, World.size_setCell, World.size_drew, World.heap_drewN]); omega)); intro _ _))) | (go_at_call 73; (refine (Calls.belowOf (HD.out _)).mono ?_); rintro e w2 ⟨rfl, hb⟩; have hz := hb.size; (try simp only [World.size_alloc, World.size_setCell, World.size_drew, World.heap_drewN] at hz); (try have h_w_0 : w.heap.size < w2.heap.size := by omega); (try have e_w_0 : ¬ w.heap.size = w2.heap.size := by omega); (try have d_w_0 : ¬ w2.heap.size = w.heap.size := by omega); (try (refine bcUse (n := w.heap.size) hb ?_ ?_; (focus ((try simp only [World.size_alloc, World.size_setCell, World.size_drew, World.heap_drewN]); omega)); intro _ _)); (try have h_w1_0 : w1.heap.size < w2.heap.size := by omega); (try have e_w1_0 : ¬ w1.heap.size = w2.heap.size := by omega); (try have d_w1_0 : ¬ w2.heap.size = w1.heap.size := by omega); (try (refine bcUse (n := w1.heap.size) hb ?_ ?_; (focus ((try simp only [World.size_alloc, World.size_setCell, World.size_drew, World.heap_drewN]); omega)); intro _ _))))
    go_ret2
    refine ⟨rfl, ?_⟩
    (repeat' (first | (with_reducible exact Below.refl _ _) | (with_reducible assumption) | (with_reducible refine Below.call ?_ ?_ (by with_reducible assumption)) | (with_reducible refine Below.alloc ?_ ?_ _) | (with_reducible refine Below.drew ?_) | (with_reducible refine below_drewN ?_ _) | (with_reducible refine Below.setCell ?_ ?_ _) | (with_reducible exact Nat.le_refl _) | omega | (simp only [World.size_alloc, World.size_setCell, World.size_drew, World.heap_drewN] at *; omega)))
set_option maxHeartbeats 2000000 in
theorem c_Number (t : Int) (w : World) (hT : Tab w) (h : instB t = true) (n0 : -99998 ≤ (t - 977949455) / 2551442878) (n1 : (t - 977949455) / 2551442878 ≤ 99998) :
    Calls Tryd.prog 40 #[.int .i64 t] w fun e w' => NumRes t e ∧ Below w.heap.size w w' := by
  obtain ⟨b1, b2⟩ := inst_bd h
  have HA := Lib.hid (fun w1 => c_isInst t w1 (by omega) (by omega))
  have HD := Lib.hid (fun w1 => c_down (t - 977949455) 2551442878 w1 (by omega) (by omega) (by omega) (by omega))
  have hlo : 2551442878 * ((t - 977949455) / 2551442878) ≤ t - 977949455 := by omega
  have hhi : t - 977949455 < 2551442878 * ((t - 977949455) / 2551442878) + 2551442878 := by omega
  rw [h] at HA
  have HR : Hid (∀ e, NumRes t e = NumRes t e) := Lib.hid (fun e => rfl)
  obtain ⟨n, hn⟩ : ∃ n, n = (t - 977949455) / 2551442878 := ⟨_, rfl⟩
  have HN := Lib.hid hn
  rw [← hn] at HD n0 n1 hlo hhi
  have HP := Lib.hid (fun k (k0 : -100000 ≤ k) (k1 : k ≤ 100000) => phR_ok (n := k) (q := 0) k0 k1 (by omega) (by omega))
  have HF := Lib.hid (fun w1 k (h : Tab w1) (k0 : -100000 ≤ k) (k1 : k ≤ 100000) => c_pfind k 0 w1 h k0 k1 (by omega) (by omega))
  have HT := Lib.hid hT
  have f1 : decide (n < -99998) = false := decide_eq_false (by omega)
  have f2 : decide (99998 < n) = false := decide_eq_false (by omega)
  clear h hT hn
  have hgen := sgen; have hgen2 := sgen2; have hgen3 := sgen3; go_enter Tryd.func40, Tryd.ntmps40
  go_wp2_with (first | (go_at_call 56; (refine (HA.out _).mono ?_); rintro e w1 ⟨rfl, hb⟩; have hz := hb.size; (try simp only [World.size_alloc, World.size_setCell, World.size_drew, World.heap_drewN] at hz); (try have h_w_0 : w.heap.size < w1.heap.size := by omega); (try have e_w_0 : ¬ w.heap.size = w1.heap.size := by omega); (try have d_w_0 : ¬ w1.heap.size = w.heap.size := by omega); (try (refine bcUse (n := w.heap.size) hb ?_ ?_; (focus ((try simp only [World.size_alloc, World.size_setCell, World.size_drew, World.heap_drewN]); omega)); intro _ _))) | (go_at_call 73; (refine (Calls.belowOf (HD.out _)).mono ?_); rintro e w2 ⟨rfl, hb⟩; have hz := hb.size; (try simp only [World.size_alloc, World.size_setCell, World.size_drew, World.heap_drewN] at hz); (try have h_w_0 : w.heap.size < w2.heap.size := by omega); (try have e_w_0 : ¬ w.heap.size = w2.heap.size := by omega); (try have d_w_0 : ¬ w2.heap.size = w.heap.size := by omega); (try (refine bcUse (n := w.heap.size) hb ?_ ?_; (focus ((try simp only [World.size_alloc, World.size_setCell, World.size_drew, World.heap_drewN]); omega)); intro _ _)); (try have h_w1_0 : w1.heap.size < w2.heap.size := by omega); (try have e_w1_0 : ¬ w1.heap.size = w2.heap.size := by omega); (try have d_w1_0 : ¬ w2.heap.size = w1.heap.size := by omega); (try (refine bcUse (n := w1.heap.size) hb ?_ ?_; (focus ((try simp only [World.size_alloc, World.size_setCell, World.size_drew, World.heap_drewN]); omega)); intro _ _))))
  go_loopg [5] 3 (fun gk x5 wr => ∃ j : Nat, gk + j = 3 ∧ x5 = .int .i64 (n + 1 - j) ∧ Below w.heap.size w wr ∧ t < (phR (n + 2 - j) 0).lo)
  case atStart =>
    have hp := (HP.out (n + 2) (by omega) (by omega)).a
    exact ⟨0, rfl, by simp, by (repeat' (first | (with_reducible exact Below.refl _ _) | (with_reducible assumption) | (with_reducible refine Below.call ?_ ?_ (by with_reducible assumption)) | (with_reducible refine Below.alloc ?_ ?_ _) | (with_reducible refine Below.drew ?_) | (with_reducible refine below_drewN ?_ _) | (with_reducible refine Below.setCell ?_ ?_ _) | (with_reducible exact Nat.le_refl _) | omega | (simp only [World.size_alloc, World.size_setCell, World.size_drew, World.heap_drewN] at *; omega))), by unfold phMid at hp; rw [show n + 2 - ((0 : Nat) : Int) = n + 2 by omega]; omega⟩
  case round =>
    obtain ⟨j, hj, rfl, hbel, hlt⟩ := hrel
    have hsz := hbel.size
    have HL := Lib.hid hlt
    clear hlt
    have hj3 : j < 3 := by
      by_cases c : j < 3
      · exact c
      · have hp := (HP.out (n - 1) (by omega) (by omega)).c
        have hp2 := (HP.out (n - 1) (by omega) (by omega)).b
        have hl := HL.out
        rw [show n + 2 - (j : Int) = n - 1 by omega] at hl
        unfold phMid at hp
        omega
    have hp := HP.out (n + 1 - j) (by omega) (by omega)
    have hab := hp.b
    have ha := hp.a
    have hc := hp.c
    have HC := Lib.hid (fun w1 (h1 : Tab w1) => HF.out w1 (n + 1 - j) h1 (by omega) (by omega))
    clear hp
    obtain ⟨R, hR⟩ : ∃ R, R = phR (n + 1 - j) 0 := ⟨_, rfl⟩
    rw [← hR] at hab ha hc HC
    have HRR := Lib.hid hR
    clear hR
    unfold phMid at ha hc
    by_cases c1 : R.lo ≤ t
    · have g1 : decide (R.lo ≤ t) = true := decide_eq_true c1
      by_cases c2 : t ≤ R.hi
      · have g2 : decide (t ≤ R.hi) = true := decide_eq_true c2
        go_wp2_with (go_at_call 71; (refine (HC.out _ (HT.out.below (by (repeat' (first | (with_reducible exact Below.refl _ _) | (with_reducible assumption) | (with_reducible refine Below.call ?_ ?_ (by with_reducible assumption)) | (with_reducible refine Below.alloc ?_ ?_ _) | (with_reducible refine Below.drew ?_) | (with_reducible refine below_drewN ?_ _) | (with_reducible refine Below.setCell ?_ ?_ _) | (with_reducible exact Nat.le_refl _) | omega | (simp only [World.size_alloc, World.size_setCell, World.size_drew, World.heap_drewN] at *; omega)))))).mono ?_); rintro e w3 ⟨rfl, hb⟩; have hz := hb.size; (try simp only [World.size_alloc, World.size_setCell, World.size_drew, World.heap_drewN] at hz); (try have h_w_0 : w.heap.size < w3.heap.size := by omega); (try have e_w_0 : ¬ w.heap.size = w3.heap.size := by omega); (try have d_w_0 : ¬ w3.heap.size = w.heap.size := by omega); (try (refine bcUse (n := w.heap.size) hb ?_ ?_; (focus ((try simp only [World.size_alloc, World.size_setCell, World.size_drew, World.heap_drewN]); omega)); intro _ _)); (try have h_wr_0 : wr.heap.size < w3.heap.size := by omega); (try have e_wr_0 : ¬ wr.heap.size = w3.heap.size := by omega); (try have d_wr_0 : ¬ w3.heap.size = wr.heap.size := by omega); (try (refine bcUse (n := wr.heap.size) hb ?_ ?_; (focus ((try simp only [World.size_alloc, World.size_setCell, World.size_drew, World.heap_drewN]); omega)); intro _ _)))
        go_ret2
        refine ⟨.inr ⟨rfl, n + 1 - j, by have := HN.out; omega, by have := HN.out; omega, by rw [← HRR.out]; exact c1, by rw [← HRR.out]; exact c2⟩, ?_⟩
        (repeat' (first | (with_reducible exact Below.refl _ _) | (with_reducible assumption) | (with_reducible refine Below.call ?_ ?_ (by with_reducible assumption)) | (with_reducible refine Below.alloc ?_ ?_ _) | (with_reducible refine Below.drew ?_) | (with_reducible refine below_drewN ?_ _) | (with_reducible refine Below.setCell ?_ ?_ _) | (with_reducible exact Nat.le_refl _) | omega | (simp only [World.size_alloc, World.size_setCell, World.size_drew, World.heap_drewN] at *; omega)))
      · have g2 : decide (t ≤ R.hi) = false := decide_eq_false c2
        have g3 : decide (R.hi < t) = true := decide_eq_true (by omega)
        go_wp2_with (go_at_call 71; (refine (HC.out _ (HT.out.below (by (repeat' (first | (with_reducible exact Below.refl _ _) | (with_reducible assumption) | (with_reducible refine Below.call ?_ ?_ (by with_reducible assumption)) | (with_reducible refine Below.alloc ?_ ?_ _) | (with_reducible refine Below.drew ?_) | (with_reducible refine below_drewN ?_ _) | (with_reducible refine Below.setCell ?_ ?_ _) | (with_reducible exact Nat.le_refl _) | omega | (simp only [World.size_alloc, World.size_setCell, World.size_drew, World.heap_drewN] at *; omega)))))).mono ?_); rintro e w3 ⟨rfl, hb⟩; have hz := hb.size; (try simp only [World.size_alloc, World.size_setCell, World.size_drew, World.heap_drewN] at hz); (try have h_w_0 : w.heap.size < w3.heap.size := by omega); (try have e_w_0 : ¬ w.heap.size = w3.heap.size := by omega); (try have d_w_0 : ¬ w3.heap.size = w.heap.size := by omega); (try (refine bcUse (n := w.heap.size) hb ?_ ?_; (focus ((try simp only [World.size_alloc, World.size_setCell, World.size_drew, World.heap_drewN]); omega)); intro _ _)); (try have h_wr_0 : wr.heap.size < w3.heap.size := by omega); (try have e_wr_0 : ¬ wr.heap.size = w3.heap.size := by omega); (try have d_wr_0 : ¬ w3.heap.size = wr.heap.size := by omega); (try (refine bcUse (n := wr.heap.size) hb ?_ ?_; (focus ((try simp only [World.size_alloc, World.size_setCell, World.size_drew, World.heap_drewN]); omega)); intro _ _)))
        go_ret2
        refine ⟨.inl ⟨n + 1 - j, rfl, by omega, by omega, by rw [← HRR.out]; omega, by have := HL.out; rw [show n + 1 - (j : Int) + 1 = n + 2 - j by omega]; exact this⟩, ?_⟩
        (repeat' (first | (with_reducible exact Below.refl _ _) | (with_reducible assumption) | (with_reducible refine Below.call ?_ ?_ (by with_reducible assumption)) | (with_reducible refine Below.alloc ?_ ?_ _) | (with_reducible refine Below.drew ?_) | (with_reducible refine below_drewN ?_ _) | (with_reducible refine Below.setCell ?_ ?_ _) | (with_reducible exact Nat.le_refl _) | omega | (simp only [World.size_alloc, World.size_setCell, World.size_drew, World.heap_drewN] at *; omega)))
    · have g1 : decide (R.lo ≤ t) = false := decide_eq_false c1
      have g3 : decide (R.hi < t) = false := decide_eq_false (by omega)
      go_wp2_with (go_at_call 71; (refine (HC.out _ (HT.out.below (by (repeat' (first | (with_reducible exact Below.refl _ _) | (with_reducible assumption) | (with_reducible refine Below.call ?_ ?_ (by with_reducible assumption)) | (with_reducible refine Below.alloc ?_ ?_ _) | (with_reducible refine Below.drew ?_) | (with_reducible refine below_drewN ?_ _) | (with_reducible refine Below.setCell ?_ ?_ _) | (with_reducible exact Nat.le_refl _) | omega | (simp only [World.size_alloc, World.size_setCell, World.size_drew, World.heap_drewN] at *; omega)))))).mono ?_); rintro e w3 ⟨rfl, hb⟩; have hz := hb.size; (try simp only [World.size_alloc, World.size_setCell, World.size_drew, World.heap_drewN] at hz); (try have h_w_0 : w.heap.size < w3.heap.size := by omega); (try have e_w_0 : ¬ w.heap.size = w3.heap.size := by omega); (try have d_w_0 : ¬ w3.heap.size = w.heap.size := by omega); (try (refine bcUse (n := w.heap.size) hb ?_ ?_; (focus ((try simp only [World.size_alloc, World.size_setCell, World.size_drew, World.heap_drewN]); omega)); intro _ _)); (try have h_wr_0 : wr.heap.size < w3.heap.size := by omega); (try have e_wr_0 : ¬ wr.heap.size = w3.heap.size := by omega); (try have d_wr_0 : ¬ w3.heap.size = wr.heap.size := by omega); (try (refine bcUse (n := wr.heap.size) hb ?_ ?_; (focus ((try simp only [World.size_alloc, World.size_setCell, World.size_drew, World.heap_drewN]); omega)); intro _ _)))
      go_roundg (gk - 1)
      case measure => omega
      case rel => exact ⟨j + 1, by omega, by congr 1; omega, by (repeat' (first | (with_reducible exact Below.refl _ _) | (with_reducible assumption) | (with_reducible refine Below.call ?_ ?_ (by with_reducible assumption)) | (with_reducible refine Below.alloc ?_ ?_ _) | (with_reducible refine Below.drew ?_) | (with_reducible refine below_drewN ?_ _) | (with_reducible refine Below.setCell ?_ ?_ _) | (with_reducible exact Nat.le_refl _) | omega | (simp only [World.size_alloc, World.size_setCell, World.size_drew, World.heap_drewN] at *; omega))), by rw [show n + 2 - ((j + 1 : Nat) : Int) = n + 1 - j by omega, ← HRR.out]; omega⟩
end Go.Proofs.YtplhegjgkmabiaaDoor
