/- Contracts of phase.find, phase.Find, season.Next, line.NewYear and season.Find. -/
import Derived.Test.YtplhegjgkmabiaaDoorWalkSide
import Derived.Test.YtplhegjgkmabiaaDoorPlainWait
set_option linter.unusedVariables false
set_option linter.unusedSimpArgs false
namespace Go.Proofs.YtplhegjgkmabiaaDoor
open Go.RowKit
theorem kept_tab : Kept Tab := fun _ _ h hb => h.below hb
theorem inst_of {x : Int} (h1 : -345600000000000 ≤ x) (h2 : x < 345600086400000) : instB x = true := by unfold instB; exact decide_eq_true (by omega)
def phMid (n q : Int) : Int := 977949455 + 2551442878 * n + 637860719 * q
def phR (n q : Int) : NarR := narF (elSide (q * 250000000)) 600000 62 (phMid n q - 172800000) (phMid n q + 172800000)
set_option maxHeartbeats 1000000 in
theorem c_pfind (n q : Int) (w : World) (hT : Tab w) (n0 : -100000 ≤ n) (n1 : n ≤ 100000) (q0 : 0 ≤ q) (q1 : q ≤ 3) :
    Calls Tryd.prog 71 #[.int .i64 n, .int .i64 q] w fun e w' => e = .returned (.agg #[.int .i64 (phR n q).lo, .int .i64 (phR n q).hi]) ∧ Below w.heap.size w w' := by
  have HN := Lib.hid (fun w1 (hw : Tab w1 ∧ w.heap.size < w1.heap.size ∧ w1.cell? ⟨w.heap.size, 0, none⟩ = some (.int .i64 q)) => c_Narrow 95 (.pointer (some ⟨w.heap.size, 0, none⟩)) (elSide (q * 250000000)) _ (phMid n q - 172800000) (phMid n q + 172800000) 600000 w1 (kept_cell kept_tab w.heap.size (.int .i64 q)) hw (by unfold phMid; omega) (by omega) (by unfold phMid; omega) call_pfind1 (by omega) (by omega) (fun w2 x h2 x1 x2 => c_pfind1 w.heap.size q x w2 h2.1 (inst_of (by unfold phMid at *; omega) (by unfold phMid at *; omega)) h2.2.1 h2.2.2 q0 q1))
  rw [show narF (elSide (q * 250000000)) 600000 62 (phMid n q - 172800000) (phMid n q + 172800000) = phR n q from rfl] at HN
  unfold phMid at HN
  generalize phR n q = R at *
  have HT := Lib.hid hT
  clear hT
  have hgen := sgen; have hgen2 := sgen2; have hgen3 := sgen3; go_enter Tryd.func71, Tryd.ntmps71
  go_wp2_with (go_at_call 68; (refine (HN.out _ ⟨HT.out.below (by (repeat' (first | (with_reducible exact Below.refl _ _) | (with_reducible assumption) | (with_reducible refine Below.call ?_ ?_ (by with_reducible assumption)) | (with_reducible refine Below.alloc ?_ ?_ _) | (with_reducible refine Below.drew ?_) | (with_reducible refine below_drewN ?_ _) | (with_reducible refine Below.setCell ?_ ?_ _) | (with_reducible exact Nat.le_refl _) | omega | (simp only [World.size_alloc, World.size_setCell, World.size_drew, World.heap_drewN] at *; omega)))), by go_simp, by go_simp⟩).mono ?_); rintro e w1 ⟨rfl, hb⟩; have hz := hb.size; (try simp only [World.size_alloc, World.size_setCell, World.size_drew, World.heap_drewN] at hz); (try have h_w_0 : w.heap.size < w1.heap.size := by omega); (try have e_w_0 : ¬ w.heap.size = w1.heap.size := by omega); (try have d_w_0 : ¬ w1.heap.size = w.heap.size := by omega); (try (refine bcUse (n := w.heap.size) hb ?_ ?_; (focus ((try simp only [World.size_alloc, World.size_setCell, World.size_drew, World.heap_drewN]); omega)); intro _ _)); (try have h_w_1 : w.heap.size + 1 < w1.heap.size := by omega); (try have e_w_1 : ¬ w.heap.size + 1 = w1.heap.size := by omega); (try have d_w_1 : ¬ w1.heap.size = w.heap.size + 1 := by omega); (try (refine bcUse (n := w.heap.size + 1) hb ?_ ?_; (focus ((try simp only [World.size_alloc, World.size_setCell, World.size_drew, World.heap_drewN]); omega)); intro _ _)))
  refine bodyPost_ret (v := .agg #[.int .i64 R.lo, .int .i64 R.hi]) (by simp only [results, Tryd.results71]; go_simp) rfl ⟨rfl, ?_⟩
  (repeat' (first | (with_reducible exact Below.refl _ _) | (with_reducible assumption) | (with_reducible refine Below.call ?_ ?_ (by with_reducible assumption)) | (with_reducible refine Below.alloc ?_ ?_ _) | (with_reducible refine Below.drew ?_) | (with_reducible refine below_drewN ?_ _) | (with_reducible refine Below.setCell ?_ ?_ _) | (with_reducible exact Nat.le_refl _) | omega | (simp only [World.size_alloc, World.size_setCell, World.size_drew, World.heap_drewN] at *; omega)))
theorem c_pinRange (n : Int) (w : World) (v : Bool) (hv : v = decide (-100000 ≤ n ∧ n ≤ 100000)) : Calls Tryd.prog 70 #[.int .i64 n] w fun e w' => e = .returned (.bool v) ∧ Below w.heap.size w w' := by
  by_cases a : -100000 ≤ n
  · have f1 : decide (-100000 ≤ n) = true := decide_eq_true a
    by_cases b : n ≤ 100000
    · have f2 : decide (n ≤ 100000) = true := decide_eq_true b
      have e : v = true := by rw [hv]; exact decide_eq_true ⟨a, b⟩
      subst e
      clear hv
      have hgen := sgen; have hgen2 := sgen2; have hgen3 := sgen3; go_enter Tryd.func70, Tryd.ntmps70
      go_wp2
      go_ret
      exact ⟨rfl, Below.refl _ _⟩
    · have f2 : decide (n ≤ 100000) = false := decide_eq_false b
      have e : v = false := by rw [hv]; exact decide_eq_false (by omega)
      subst e
      clear hv
      have hgen := sgen; have hgen2 := sgen2; have hgen3 := sgen3; go_enter Tryd.func70, Tryd.ntmps70
      go_wp2
      go_ret
      exact ⟨rfl, Below.refl _ _⟩
  · have f1 : decide (-100000 ≤ n) = false := decide_eq_false a
    have e : v = false := by rw [hv]; exact decide_eq_false (by omega)
    subst e
    clear hv
    have hgen := sgen; have hgen2 := sgen2; have hgen3 := sgen3; go_enter Tryd.func70, Tryd.ntmps70
    go_wp2
    go_ret
    exact ⟨rfl, Below.refl _ _⟩
theorem c_pFind_arg (n q : Int) (w : World) (h : q < 0 ∨ 3 < q) :
    Calls Tryd.prog 38 #[.int .i64 n, .int .i64 q] w fun e w' => e = .returned (.tuple #[.agg #[.int .i64 0, .int .i64 0], .int .i64 1]) ∧ Below w.heap.size w w' := by
  rcases h with h | h
  · have f1 : decide (q < 0) = true := decide_eq_true h
    have hgen := sgen; have hgen2 := sgen2; have hgen3 := sgen3; go_enter Tryd.func38, Tryd.ntmps38
    go_wp2
    refine bodyPost_ret (v := .tuple #[.agg #[.int .i64 0, .int .i64 0], .int .i64 1]) (by simp only [results, Tryd.results38]; go_simp) rfl ⟨rfl, ?_⟩
    (repeat' (first | (with_reducible exact Below.refl _ _) | (with_reducible assumption) | (with_reducible refine Below.call ?_ ?_ (by with_reducible assumption)) | (with_reducible refine Below.alloc ?_ ?_ _) | (with_reducible refine Below.drew ?_) | (with_reducible refine below_drewN ?_ _) | (with_reducible refine Below.setCell ?_ ?_ _) | (with_reducible exact Nat.le_refl _) | omega | (simp only [World.size_alloc, World.size_setCell, World.size_drew, World.heap_drewN] at *; omega)))
  · have f1 : decide (q < 0) = false := decide_eq_false (by omega)
    have f2 : decide (3 < q) = true := decide_eq_true h
    have hgen := sgen; have hgen2 := sgen2; have hgen3 := sgen3; go_enter Tryd.func38, Tryd.ntmps38
    go_wp2
    refine bodyPost_ret (v := .tuple #[.agg #[.int .i64 0, .int .i64 0], .int .i64 1]) (by simp only [results, Tryd.results38]; go_simp) rfl ⟨rfl, ?_⟩
    (repeat' (first | (with_reducible exact Below.refl _ _) | (with_reducible assumption) | (with_reducible refine Below.call ?_ ?_ (by with_reducible assumption)) | (with_reducible refine Below.alloc ?_ ?_ _) | (with_reducible refine Below.drew ?_) | (with_reducible refine below_drewN ?_ _) | (with_reducible refine Below.setCell ?_ ?_ _) | (with_reducible exact Nat.le_refl _) | omega | (simp only [World.size_alloc, World.size_setCell, World.size_drew, World.heap_drewN] at *; omega)))
theorem c_pFind_rng (n q : Int) (w : World) (q0 : 0 ≤ q) (q1 : q ≤ 3) (h : n < -100000 ∨ 100000 < n) :
    Calls Tryd.prog 38 #[.int .i64 n, .int .i64 q] w fun e w' => e = .returned (.tuple #[.agg #[.int .i64 0, .int .i64 0], .int .i64 3]) ∧ Below w.heap.size w w' := by
  have HI := Lib.hid (fun w1 => c_pinRange n w1 false (decide_eq_false (by omega)).symm)
  have f1 : decide (q < 0) = false := decide_eq_false (by omega)
  have f2 : decide (3 < q) = false := decide_eq_false (by omega)
  have hgen := sgen; have hgen2 := sgen2; have hgen3 := sgen3; go_enter Tryd.func38, Tryd.ntmps38
  go_wp2_with (go_at_call 70; (refine (HI.out _).mono ?_); rintro e w1 ⟨rfl, hb⟩; have hz := hb.size; (try simp only [World.size_alloc, World.size_setCell, World.size_drew, World.heap_drewN] at hz); (try have h_w_0 : w.heap.size < w1.heap.size := by omega); (try have e_w_0 : ¬ w.heap.size = w1.heap.size := by omega); (try have d_w_0 : ¬ w1.heap.size = w.heap.size := by omega); (try (refine bcUse (n := w.heap.size) hb ?_ ?_; (focus ((try simp only [World.size_alloc, World.size_setCell, World.size_drew, World.heap_drewN]); omega)); intro _ _)); (try have h_w_1 : w.heap.size + 1 < w1.heap.size := by omega); (try have e_w_1 : ¬ w.heap.size + 1 = w1.heap.size := by omega); (try have d_w_1 : ¬ w1.heap.size = w.heap.size + 1 := by omega); (try (refine bcUse (n := w.heap.size + 1) hb ?_ ?_; (focus ((try simp only [World.size_alloc, World.size_setCell, World.size_drew, World.heap_drewN]); omega)); intro _ _)))
  refine bodyPost_ret (v := .tuple #[.agg #[.int .i64 0, .int .i64 0], .int .i64 3]) (by simp only [results, Tryd.results38]; go_simp) rfl ⟨rfl, ?_⟩
  (repeat' (first | (with_reducible exact Below.refl _ _) | (with_reducible assumption) | (with_reducible refine Below.call ?_ ?_ (by with_reducible assumption)) | (with_reducible refine Below.alloc ?_ ?_ _) | (with_reducible refine Below.drew ?_) | (with_reducible refine below_drewN ?_ _) | (with_reducible refine Below.setCell ?_ ?_ _) | (with_reducible exact Nat.le_refl _) | omega | (simp only [World.size_alloc, World.size_setCell, World.size_drew, World.heap_drewN] at *; omega)))
theorem c_pFind_ok (n q : Int) (w : World) (hT : Tab w) (n0 : -100000 ≤ n) (n1 : n ≤ 100000) (q0 : 0 ≤ q) (q1 : q ≤ 3) :
    Calls Tryd.prog 38 #[.int .i64 n, .int .i64 q] w fun e w' => e = .returned (.tuple #[.agg #[.int .i64 (phR n q).lo, .int .i64 (phR n q).hi], .int .i64 0]) ∧ Below w.heap.size w w' := by
  have HI := Lib.hid (fun w1 => c_pinRange n w1 true (decide_eq_true ⟨n0, n1⟩).symm)
  have HF := Lib.hid (fun w1 (h : Tab w1) => c_pfind n q w1 h n0 n1 q0 q1)
  have f1 : decide (q < 0) = false := decide_eq_false (by omega)
  have f2 : decide (3 < q) = false := decide_eq_false (by omega)
  have HT := Lib.hid hT
  clear hT
  generalize phR n q = R at *
  have hgen := sgen; have hgen2 := sgen2; have hgen3 := sgen3; go_enter Tryd.func38, Tryd.ntmps38
  go_wp2_with (first | (go_at_call 70; (refine (HI.out _).mono ?_); rintro e w1 ⟨rfl, hb⟩; have hz := hb.size; (try simp only [World.size_alloc, World.size_setCell, World.size_drew, World.heap_drewN] at hz); (try have h_w_0 : w.heap.size < w1.heap.size := by omega); (try have e_w_0 : ¬ w.heap.size = w1.heap.size := by omega); (try have d_w_0 : ¬ w1.heap.size = w.heap.size := by omega); (try (refine bcUse (n := w.heap.size) hb ?_ ?_; (focus ((try simp only [World.size_alloc, World.size_setCell, World.size_drew, World.heap_drewN]); omega)); intro _ _)); (try have h_w_1 : w.heap.size + 1 < w1.heap.size := by omega); (try have e_w_1 : ¬ w.heap.size + 1 = w1.heap.size := by omega); (try have d_w_1 : ¬ w1.heap.size = w.heap.size + 1 := by omega); (try (refine bcUse (n := w.heap.size + 1) hb ?_ ?_; (focus ((try simp only [World.size_alloc, World.size_setCell, World.size_drew, World.heap_drewN]); omega)); intro _ _))) | (go_at_call 71; (refine (HF.out _ (HT.out.below (by (repeat' (first | (with_reducible exact Below.refl _ _) | (with_reducible assumption) | (with_reducible refine Below.call ?_ ?_ (by with_reducible assumption)) | (with_reducible refine Below.alloc ?_ ?_ _) | (with_reducible refine Below.drew ?_) | (with_reducible refine below_drewN ?_ _) | (with_reducible refine Below.setCell ?_ ?_ _) | (with_reducible exact Nat.le_refl _) | omega | (simp only [World.size_alloc, World.size_setCell, World.size_drew, World.heap_drewN] at *; omega)))))).mono ?_); rintro e w2 ⟨rfl, hb⟩; have hz := hb.size; (try simp only [World.size_alloc, World.size_setCell, World.size_drew, World.heap_drewN] at hz); (try have h_w_0 : w.heap.size < w2.heap.size := by omega); (try have e_w_0 : ¬ w.heap.size = w2.heap.size := by omega); (try have d_w_0 : ¬ w2.heap.size = w.heap.size := by omega); (try (refine bcUse (n := w.heap.size) hb ?_ ?_; (focus ((try simp only [World.size_alloc, World.size_setCell, World.size_drew, World.heap_drewN]); omega)); intro _ _)); (try have h_w_1 : w.heap.size + 1 < w2.heap.size := by omega); (try have e_w_1 : ¬ w.heap.size + 1 = w2.heap.size := by omega); (try have d_w_1 : ¬ w2.heap.size = w.heap.size + 1 := by omega); (try (refine bcUse (n := w.heap.size + 1) hb ?_ ?_; (focus ((try simp only [World.size_alloc, World.size_setCell, World.size_drew, World.heap_drewN]); omega)); intro _ _)); (try have h_w1_0 : w1.heap.size < w2.heap.size := by omega); (try have e_w1_0 : ¬ w1.heap.size = w2.heap.size := by omega); (try have d_w1_0 : ¬ w2.heap.size = w1.heap.size := by omega); (try (refine bcUse (n := w1.heap.size) hb ?_ ?_; (focus ((try simp only [World.size_alloc, World.size_setCell, World.size_drew, World.heap_drewN]); omega)); intro _ _))))
  refine bodyPost_ret (v := .tuple #[.agg #[.int .i64 R.lo, .int .i64 R.hi], .int .i64 0]) (by simp only [results, Tryd.results38]; go_simp) rfl ⟨rfl, ?_⟩
  (repeat' (first | (with_reducible exact Below.refl _ _) | (with_reducible assumption) | (with_reducible refine Below.call ?_ ?_ (by with_reducible assumption)) | (with_reducible refine Below.alloc ?_ ?_ _) | (with_reducible refine Below.drew ?_) | (with_reducible refine below_drewN ?_ _) | (with_reducible refine Below.setCell ?_ ?_ _) | (with_reducible exact Nat.le_refl _) | omega | (simp only [World.size_alloc, World.size_setCell, World.size_drew, World.heap_drewN] at *; omega)))
theorem c_sNext_arg (tg t : Int) (w : World) (h : tg < 0 ∨ 999999999 < tg) :
    Calls Tryd.prog 34 #[.int .i64 tg, .int .i64 t] w fun e w' => e = .returned (.tuple #[.agg #[.int .i64 0, .int .i64 0], .int .i64 1]) ∧ Below w.heap.size w w' := by
  rcases h with h | h
  · have f1 : decide (tg < 0) = true := decide_eq_true h
    have hgen := sgen; have hgen2 := sgen2; have hgen3 := sgen3; go_enter Tryd.func34, Tryd.ntmps34
    go_wp2
    refine bodyPost_ret (v := .tuple #[.agg #[.int .i64 0, .int .i64 0], .int .i64 1]) (by simp only [results, Tryd.results34]; go_simp) rfl ⟨rfl, ?_⟩
    (repeat' (first | (with_reducible exact Below.refl _ _) | (with_reducible assumption) | (with_reducible refine Below.call ?_ ?_ (by with_reducible assumption)) | (with_reducible refine Below.alloc ?_ ?_ _) | (with_reducible refine Below.drew ?_) | (with_reducible refine below_drewN ?_ _) | (with_reducible refine Below.setCell ?_ ?_ _) | (with_reducible exact Nat.le_refl _) | omega | (simp only [World.size_alloc, World.size_setCell, World.size_drew, World.heap_drewN] at *; omega)))
  · have f1 : decide (tg < 0) = false := decide_eq_false (by omega)
    have f2 : decide (1000000000 ≤ tg) = true := decide_eq_true (by omega)
    have hgen := sgen; have hgen2 := sgen2; have hgen3 := sgen3; go_enter Tryd.func34, Tryd.ntmps34
    go_wp2
    refine bodyPost_ret (v := .tuple #[.agg #[.int .i64 0, .int .i64 0], .int .i64 1]) (by simp only [results, Tryd.results34]; go_simp) rfl ⟨rfl, ?_⟩
    (repeat' (first | (with_reducible exact Below.refl _ _) | (with_reducible assumption) | (with_reducible refine Below.call ?_ ?_ (by with_reducible assumption)) | (with_reducible refine Below.alloc ?_ ?_ _) | (with_reducible refine Below.drew ?_) | (with_reducible refine below_drewN ?_ _) | (with_reducible refine Below.setCell ?_ ?_ _) | (with_reducible exact Nat.le_refl _) | omega | (simp only [World.size_alloc, World.size_setCell, World.size_drew, World.heap_drewN] at *; omega)))
end Go.Proofs.YtplhegjgkmabiaaDoor
