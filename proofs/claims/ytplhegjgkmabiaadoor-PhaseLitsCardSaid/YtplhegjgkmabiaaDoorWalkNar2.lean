/- The contract of series.Narrow for any function that is told by a function on numbers. -/
import Derived.Test.YtplhegjgkmabiaaDoorWalkNar
import Derived.Deep.QuietTactic
import Derived.BigQuiet
set_option linter.unusedVariables false
set_option linter.unusedSimpArgs false
namespace Go.Proofs.YtplhegjgkmabiaaDoor
open Go.RowKit
theorem kept_cell {W : World → Prop} (hW : Kept W) (b : Nat) (v : Value) : Kept (fun w1 => W w1 ∧ b < w1.heap.size ∧ w1.cell? ⟨b, 0, none⟩ = some v) := by
  rintro w1 w2 ⟨a, b1, c⟩ hb
  exact ⟨hW _ _ a hb, Nat.lt_of_lt_of_le b1 hb.size, by rw [(bc hb b1).1]; exact c⟩
theorem c_lastA (b F : Nat) (c : Value) (s : Int → Int) (W : World → Prop) (lo hi : Int) (w : World) (hW : Kept W) (hw : W w) (hbl : b < w.heap.size) (hb : w.cell? ⟨b, 0, none⟩ = some (.func (.func F) #[] #[c])) (h1 : -1000000000000000000 ≤ lo) (h2 : lo ≤ hi) (h3 : hi ≤ 1000000000000000000)
    (hF : ∀ args w, (callFunc F args).run Tryd.prog w = .ok (.enter F args) w)
    (hf : ∀ w1 x, W w1 → lo ≤ x → x ≤ hi → Calls Tryd.prog F #[.int .i64 x, c] w1 fun e w' => e = .returned (.int .i64 (s x)) ∧ Below w1.heap.size w1 w') :
    Calls Tryd.prog 92 #[.int .i64 lo, .int .i64 hi, .func (.func 93) #[] #[.pointer (some ⟨b, 0, none⟩)]] w fun e w' => e = .returned (.int .i64 (lastF (fun x => s x == -1) 62 lo hi)) ∧ Below w.heap.size w w' :=
  c_last 93 (.pointer (some ⟨b, 0, none⟩)) (fun x => s x == -1) _ lo hi w (kept_cell hW b _) ⟨hw, hbl, hb⟩ h1 h2 h3 call_n1
    (fun w1 x h x1 x2 => c_n1 b F c s x w1 hF h.2.2 (fun w2 e => by subst e; exact hf w2 x h.1 x1 x2))
theorem c_lastB (b F : Nat) (c : Value) (s : Int → Int) (W : World → Prop) (lo hi : Int) (w : World) (hW : Kept W) (hw : W w) (hbl : b < w.heap.size) (hb : w.cell? ⟨b, 0, none⟩ = some (.func (.func F) #[] #[c])) (h1 : -1000000000000000000 ≤ lo) (h2 : lo ≤ hi) (h3 : hi ≤ 1000000000000000000)
    (hF : ∀ args w, (callFunc F args).run Tryd.prog w = .ok (.enter F args) w)
    (hf : ∀ w1 x, W w1 → lo ≤ x → x ≤ hi → Calls Tryd.prog F #[.int .i64 x, c] w1 fun e w' => e = .returned (.int .i64 (s x)) ∧ Below w1.heap.size w1 w') :
    Calls Tryd.prog 92 #[.int .i64 (-hi), .int .i64 (-lo), .func (.func 94) #[] #[.pointer (some ⟨b, 0, none⟩)]] w fun e w' => e = .returned (.int .i64 (lastF (fun x => s (-x) == 1) 62 (-hi) (-lo))) ∧ Below w.heap.size w w' :=
  c_last 94 (.pointer (some ⟨b, 0, none⟩)) (fun x => s (-x) == 1) _ (-hi) (-lo) w (kept_cell hW b _) ⟨hw, hbl, hb⟩ (by omega) (by omega) (by omega) call_n2
    (fun w1 x h x1 x2 => c_n2 b F c s x w1 hF (by omega) (by omega) h.2.2 (fun w2 e => by subst e; exact hf w2 (-x) h.1 (by omega) (by omega)))
set_option maxRecDepth 100000 in
set_option maxHeartbeats 2000000 in
theorem c_Narrow (F : Nat) (c : Value) (s : Int → Int) (W : World → Prop) (lo hi width : Int) (w : World) (hW : Kept W) (hw : W w) (h1 : -1000000000000000000 ≤ lo) (h2 : lo ≤ hi) (h3 : hi ≤ 1000000000000000000) (hF : ∀ args w, (callFunc F args).run Tryd.prog w = .ok (.enter F args) w) (hwd : 1 ≤ width) (hwd2 : width ≤ 9223372036854775807)
    (hf : ∀ w1 x, W w1 → lo ≤ x → x ≤ hi → Calls Tryd.prog F #[.int .i64 x, c] w1 fun e w' => e = .returned (.int .i64 (s x)) ∧ Below w1.heap.size w1 w') :
    Calls Tryd.prog 68 #[.agg #[.int .i64 lo, .int .i64 hi], .int .i64 width, .func (.func F) #[] #[c]] w fun e w' => e = .returned (.tuple #[.agg #[.int .i64 (narF s width 62 lo hi).lo, .int .i64 (narF s width 62 lo hi).hi], .bool (narF s width 62 lo hi).is]) ∧ Below w.heap.size w w' := by
  have HF := Lib.hid hf
  have HWK := Lib.hid hW
  have HW := Lib.hid (show ∀ w1 w2, W w1 → Below w1.heap.size w1 w2 → W w2 from hW)
  have HWW := Lib.hid hw
  have e62 : hi - lo ≤ 2 ^ 62 := by rw [show (2 : Int) ^ 62 = 4611686018427387904 from rfl]; omega
  have HE := Lib.hid e62
  obtain ⟨R, hR⟩ : ∃ R, R = narF s width 62 lo hi := ⟨_, rfl⟩
  have HR := Lib.hid hR
  have HFF := Lib.hid hF
  rw [← hR]
  clear hf hW hw e62 hR hF
  have hgen := sgen; have hgen2 := sgen2; have hgen3 := sgen3; go_enter Tryd.func68, Tryd.ntmps68
  go_wp2_with fail
  go_quiet (fail)
  go_wp2_with fail
  go_loopg [8, 9] 62 (fun gk x8 x9 wr => ∃ l h : Int, x8 = .int .i64 l ∧ x9 = .int .i64 h ∧ lo ≤ l ∧ l ≤ h ∧ h ≤ hi ∧ h - l ≤ 2 ^ gk ∧ narF s width gk l h = R ∧ Below w.heap.size w wr ∧ w.heap.size + 1 + 1 < wr.heap.size ∧ wr.cell? ⟨w.heap.size + 1, 0, none⟩ = some (.func (.func F) #[] #[c]) ∧ wr.cell? ⟨w.heap.size + 1 + 1, 0, none⟩ = some (.int .i64 0) ∧ wr.cell? ⟨w.heap.size + 1 + 1, 1, none⟩ = some (.int .i64 0) ∧ wr.frozen? ⟨w.heap.size + 1 + 1, 0, none⟩ = false ∧ wr.frozen? ⟨w.heap.size + 1 + 1, 1, none⟩ = false)
  case atStart => exact ⟨lo, hi, rfl, rfl, Int.le_refl _, h2, Int.le_refl _, HE.out, HR.out.symm, by (repeat' (first | (with_reducible exact Below.refl _ _) | (with_reducible assumption) | (with_reducible refine Below.call ?_ ?_ (by with_reducible assumption)) | (with_reducible refine Below.alloc ?_ ?_ _) | (with_reducible refine Below.drew ?_) | (with_reducible refine below_drewN ?_ _) | (with_reducible refine Below.setCell ?_ ?_ _) | (with_reducible exact Nat.le_refl _) | omega | (simp only [World.size_alloc, World.size_setCell, World.size_drew, World.heap_drewN] at *; omega))), by simp, by go_simp, by go_simp, by go_simp, by go_simp, by go_simp⟩
  case round =>
    obtain ⟨l, h, rfl, rfl, a1, a2, a3, a4, a5, hbel, hsz2, k1, k2, k3, k4, k5⟩ := hrel
    have hsz := hbel.size
    have HP := Lib.hid a4
    have HL := Lib.hid a5
    clear a4 a5
    have hFF := HFF.out
    have HC := Lib.hid (fun w1 (hb : Below w.heap.size w w1) (x1 : lo ≤ l + (h - l) / 2) (x2 : l + (h - l) / 2 ≤ hi) => HF.out w1 (l + (h - l) / 2) (HW.out _ _ HWW.out hb) x1 x2)
    have HA := Lib.hid (fun w1 (hb : Below w.heap.size w w1) (hl : w.heap.size + 1 < w1.heap.size) hc (q1 : lo ≤ l) (q2 : l ≤ l + (h - l) / 2) (q3 : l + (h - l) / 2 ≤ hi) => c_lastA (w.heap.size + 1) F c s W l (l + (h - l) / 2) w1 HWK.out (HW.out _ _ HWW.out hb) hl hc (by omega) q2 (by omega) HFF.out (fun w2 x hw2 x1 x2 => HF.out w2 x hw2 (by omega) (by omega)))
    have HB := Lib.hid (fun w1 (hb : Below w.heap.size w w1) (hl : w.heap.size + 1 < w1.heap.size) hc (q1 : lo ≤ l + (h - l) / 2) (q2 : l + (h - l) / 2 ≤ h) (q3 : h ≤ hi) => c_lastB (w.heap.size + 1) F c s W (l + (h - l) / 2) h w1 HWK.out (HW.out _ _ HWW.out hb) hl hc (by omega) q2 (by omega) HFF.out (fun w2 x hw2 x1 x2 => HF.out w2 x hw2 (by omega) (by omega)))
    by_cases hlt : width < h - l
    · have gt1 : decide (width < h - l) = true := decide_eq_true hlt
      cases gk with
      | zero =>
        have := HP.out
        rw [show (2 : Int) ^ 0 = 1 from rfl] at this
        omega
      | succ m =>
      have e : (2 : Int) ^ (m + 1) = 2 * 2 ^ m := by rw [Int.pow_succ]; omega
      have HP2 := Lib.hid (by have := HP.out; rw [e] at this; exact this)
      have hL := HL.out
      unfold narF at hL
      rw [if_pos hlt] at hL
      have hmid : 0 < (h - l) / 2 ∧ (h - l) / 2 < h - l := by omega
      have hmm : 2 * ((h - l) / 2) ≤ h - l ∧ h - l ≤ 2 * ((h - l) / 2) + 1 := by omega
      by_cases c1 : s (l + (h - l) / 2) = -1
      · rw [if_pos c1] at hL
        have HL2 := Lib.hid hL
        rw [c1] at HC
        clear hL e c1 HA HB
        go_wp2_with fail
        ((refine (HC.out wr hbel (by omega) (by omega)).mono ?_); rintro e w1 ⟨rfl, hb⟩; have hz := hb.size; (try simp only [World.size_alloc, World.size_setCell, World.size_drew, World.heap_drewN] at hz); (try have h_w_0 : w.heap.size < w1.heap.size := by omega); (try have e_w_0 : ¬ w.heap.size = w1.heap.size := by omega); (try have d_w_0 : ¬ w1.heap.size = w.heap.size := by omega); (try (refine bcUse (n := w.heap.size) hb ?_ ?_; (focus ((try simp only [World.size_alloc, World.size_setCell, World.size_drew, World.heap_drewN]); omega)); intro _ _)); (try have h_w_1 : w.heap.size + 1 < w1.heap.size := by omega); (try have e_w_1 : ¬ w.heap.size + 1 = w1.heap.size := by omega); (try have d_w_1 : ¬ w1.heap.size = w.heap.size + 1 := by omega); (try (refine bcUse (n := w.heap.size + 1) hb ?_ ?_; (focus ((try simp only [World.size_alloc, World.size_setCell, World.size_drew, World.heap_drewN]); omega)); intro _ _)); (try have h_w_2 : w.heap.size + 1 + 1 < w1.heap.size := by omega); (try have e_w_2 : ¬ w.heap.size + 1 + 1 = w1.heap.size := by omega); (try have d_w_2 : ¬ w1.heap.size = w.heap.size + 1 + 1 := by omega); (try (refine bcUse (n := w.heap.size + 1 + 1) hb ?_ ?_; (focus ((try simp only [World.size_alloc, World.size_setCell, World.size_drew, World.heap_drewN]); omega)); intro _ _)); (try have h_wr_0 : wr.heap.size < w1.heap.size := by omega); (try have e_wr_0 : ¬ wr.heap.size = w1.heap.size := by omega); (try have d_wr_0 : ¬ w1.heap.size = wr.heap.size := by omega); (try (refine bcUse (n := wr.heap.size) hb ?_ ?_; (focus ((try simp only [World.size_alloc, World.size_setCell, World.size_drew, World.heap_drewN]); omega)); intro _ _)))
        go_wp2
        go_roundg m
        case measure => omega
        case rel => exact ⟨l + (h - l) / 2, h, rfl, rfl, by omega, by omega, a3, by have := HP2.out; omega, HL2.out, by (repeat' (first | (with_reducible exact Below.refl _ _) | (with_reducible assumption) | (with_reducible refine Below.call ?_ ?_ (by with_reducible assumption)) | (with_reducible refine Below.alloc ?_ ?_ _) | (with_reducible refine Below.drew ?_) | (with_reducible refine below_drewN ?_ _) | (with_reducible refine Below.setCell ?_ ?_ _) | (with_reducible exact Nat.le_refl _) | omega | (simp only [World.size_alloc, World.size_setCell, World.size_drew, World.heap_drewN] at *; omega))), by omega, by simp only [*], by simp only [*], by simp only [*], by simp only [*], by simp only [*]⟩
      · by_cases c2 : s (l + (h - l) / 2) = 1
        · rw [if_neg c1, if_pos c2] at hL
          have HL2 := Lib.hid hL
          rw [c2] at HC
          clear hL e c1 c2 HA HB
          go_wp2_with fail
          ((refine (HC.out wr hbel (by omega) (by omega)).mono ?_); rintro e w1 ⟨rfl, hb⟩; have hz := hb.size; (try simp only [World.size_alloc, World.size_setCell, World.size_drew, World.heap_drewN] at hz); (try have h_w_0 : w.heap.size < w1.heap.size := by omega); (try have e_w_0 : ¬ w.heap.size = w1.heap.size := by omega); (try have d_w_0 : ¬ w1.heap.size = w.heap.size := by omega); (try (refine bcUse (n := w.heap.size) hb ?_ ?_; (focus ((try simp only [World.size_alloc, World.size_setCell, World.size_drew, World.heap_drewN]); omega)); intro _ _)); (try have h_w_1 : w.heap.size + 1 < w1.heap.size := by omega); (try have e_w_1 : ¬ w.heap.size + 1 = w1.heap.size := by omega); (try have d_w_1 : ¬ w1.heap.size = w.heap.size + 1 := by omega); (try (refine bcUse (n := w.heap.size + 1) hb ?_ ?_; (focus ((try simp only [World.size_alloc, World.size_setCell, World.size_drew, World.heap_drewN]); omega)); intro _ _)); (try have h_w_2 : w.heap.size + 1 + 1 < w1.heap.size := by omega); (try have e_w_2 : ¬ w.heap.size + 1 + 1 = w1.heap.size := by omega); (try have d_w_2 : ¬ w1.heap.size = w.heap.size + 1 + 1 := by omega); (try (refine bcUse (n := w.heap.size + 1 + 1) hb ?_ ?_; (focus ((try simp only [World.size_alloc, World.size_setCell, World.size_drew, World.heap_drewN]); omega)); intro _ _)); (try have h_wr_0 : wr.heap.size < w1.heap.size := by omega); (try have e_wr_0 : ¬ wr.heap.size = w1.heap.size := by omega); (try have d_wr_0 : ¬ w1.heap.size = wr.heap.size := by omega); (try (refine bcUse (n := wr.heap.size) hb ?_ ?_; (focus ((try simp only [World.size_alloc, World.size_setCell, World.size_drew, World.heap_drewN]); omega)); intro _ _)))
          go_wp2
          go_roundg m
          case measure => omega
          case rel => exact ⟨l, l + (h - l) / 2, rfl, rfl, a1, by omega, by omega, by have := HP2.out; omega, HL2.out, by (repeat' (first | (with_reducible exact Below.refl _ _) | (with_reducible assumption) | (with_reducible refine Below.call ?_ ?_ (by with_reducible assumption)) | (with_reducible refine Below.alloc ?_ ?_ _) | (with_reducible refine Below.drew ?_) | (with_reducible refine below_drewN ?_ _) | (with_reducible refine Below.setCell ?_ ?_ _) | (with_reducible exact Nat.le_refl _) | omega | (simp only [World.size_alloc, World.size_setCell, World.size_drew, World.heap_drewN] at *; omega))), by omega, by simp only [*], by simp only [*], by simp only [*], by simp only [*], by simp only [*]⟩
        · rw [if_neg c1, if_neg c2] at hL
          have HL2 := Lib.hid hL
          have f1 : (s (l + (h - l) / 2) == -1) = false := by simpa using c1
          have f2 : (s (l + (h - l) / 2) == 1) = false := by simpa using c2
          generalize s (l + (h - l) / 2) = sv at HC f1 f2
          obtain ⟨A1, A2, -, -, -⟩ := lastF_all (fun x => s x == -1) 62 l (l + (h - l) / 2) (by omega) (by rw [show (2 : Int) ^ 62 = 4611686018427387904 from rfl]; omega)
          obtain ⟨B1, B2, -, -, -⟩ := lastF_all (fun x => s (-x) == 1) 62 (-h) (-(l + (h - l) / 2)) (by omega) (by rw [show (2 : Int) ^ 62 = 4611686018427387904 from rfl]; omega)
          unfold narE at HL2
          generalize lastF (fun x => s x == -1) 62 l (l + (h - l) / 2) = LA at *
          generalize lastF (fun x => s (-x) == 1) 62 (-h) (-(l + (h - l) / 2)) = LB at *
          have hR2 := HL2.out
          subst hR2
          clear HL2 HL HR
          clear hL e c1 c2
          go_wp2_with fail
          ((refine (HC.out wr hbel (by omega) (by omega)).mono ?_); rintro e w1 ⟨rfl, hb⟩; have hz := hb.size; (try simp only [World.size_alloc, World.size_setCell, World.size_drew, World.heap_drewN] at hz); (try have h_w_0 : w.heap.size < w1.heap.size := by omega); (try have e_w_0 : ¬ w.heap.size = w1.heap.size := by omega); (try have d_w_0 : ¬ w1.heap.size = w.heap.size := by omega); (try (refine bcUse (n := w.heap.size) hb ?_ ?_; (focus ((try simp only [World.size_alloc, World.size_setCell, World.size_drew, World.heap_drewN]); omega)); intro _ _)); (try have h_w_1 : w.heap.size + 1 < w1.heap.size := by omega); (try have e_w_1 : ¬ w.heap.size + 1 = w1.heap.size := by omega); (try have d_w_1 : ¬ w1.heap.size = w.heap.size + 1 := by omega); (try (refine bcUse (n := w.heap.size + 1) hb ?_ ?_; (focus ((try simp only [World.size_alloc, World.size_setCell, World.size_drew, World.heap_drewN]); omega)); intro _ _)); (try have h_w_2 : w.heap.size + 1 + 1 < w1.heap.size := by omega); (try have e_w_2 : ¬ w.heap.size + 1 + 1 = w1.heap.size := by omega); (try have d_w_2 : ¬ w1.heap.size = w.heap.size + 1 + 1 := by omega); (try (refine bcUse (n := w.heap.size + 1 + 1) hb ?_ ?_; (focus ((try simp only [World.size_alloc, World.size_setCell, World.size_drew, World.heap_drewN]); omega)); intro _ _)); (try have h_wr_0 : wr.heap.size < w1.heap.size := by omega); (try have e_wr_0 : ¬ wr.heap.size = w1.heap.size := by omega); (try have d_wr_0 : ¬ w1.heap.size = wr.heap.size := by omega); (try (refine bcUse (n := wr.heap.size) hb ?_ ?_; (focus ((try simp only [World.size_alloc, World.size_setCell, World.size_drew, World.heap_drewN]); omega)); intro _ _)))
          go_wp2_with (first | (go_at_call 92; (with_reducible refine (HA.out _ (by (repeat' (first | (with_reducible exact Below.refl _ _) | (with_reducible assumption) | (with_reducible refine Below.call ?_ ?_ (by with_reducible assumption)) | (with_reducible refine Below.alloc ?_ ?_ _) | (with_reducible refine Below.drew ?_) | (with_reducible refine below_drewN ?_ _) | (with_reducible refine Below.setCell ?_ ?_ _) | (with_reducible exact Nat.le_refl _) | omega | (simp only [World.size_alloc, World.size_setCell, World.size_drew, World.heap_drewN] at *; omega)))) (by omega) (by go_simp) a1 (by omega) (by omega)).mono ?_); rintro e w2 ⟨rfl, hb⟩; have hz := hb.size; (try simp only [World.size_alloc, World.size_setCell, World.size_drew, World.heap_drewN] at hz); (try have h_w_0 : w.heap.size < w2.heap.size := by omega); (try have e_w_0 : ¬ w.heap.size = w2.heap.size := by omega); (try have d_w_0 : ¬ w2.heap.size = w.heap.size := by omega); (try (refine bcUse (n := w.heap.size) hb ?_ ?_; (focus ((try simp only [World.size_alloc, World.size_setCell, World.size_drew, World.heap_drewN]); omega)); intro _ _)); (try have h_w_1 : w.heap.size + 1 < w2.heap.size := by omega); (try have e_w_1 : ¬ w.heap.size + 1 = w2.heap.size := by omega); (try have d_w_1 : ¬ w2.heap.size = w.heap.size + 1 := by omega); (try (refine bcUse (n := w.heap.size + 1) hb ?_ ?_; (focus ((try simp only [World.size_alloc, World.size_setCell, World.size_drew, World.heap_drewN]); omega)); intro _ _)); (try have h_w_2 : w.heap.size + 1 + 1 < w2.heap.size := by omega); (try have e_w_2 : ¬ w.heap.size + 1 + 1 = w2.heap.size := by omega); (try have d_w_2 : ¬ w2.heap.size = w.heap.size + 1 + 1 := by omega); (try (refine bcUse (n := w.heap.size + 1 + 1) hb ?_ ?_; (focus ((try simp only [World.size_alloc, World.size_setCell, World.size_drew, World.heap_drewN]); omega)); intro _ _)); (try have h_wr_0 : wr.heap.size < w2.heap.size := by omega); (try have e_wr_0 : ¬ wr.heap.size = w2.heap.size := by omega); (try have d_wr_0 : ¬ w2.heap.size = wr.heap.size := by omega); (try (refine bcUse (n := wr.heap.size) hb ?_ ?_; (focus ((try simp only [World.size_alloc, World.size_setCell, World.size_drew, World.heap_drewN]); omega)); intro _ _)); (try have h_w1_0 : w1.heap.size < w2.heap.size := by omega); (try have e_w1_0 : ¬ w1.heap.size = w2.heap.size := by omega); (try have d_w1_0 : ¬ w2.heap.size = w1.heap.size := by omega); (try (refine bcUse (n := w1.heap.size) hb ?_ ?_; (focus ((try simp only [World.size_alloc, World.size_setCell, World.size_drew, World.heap_drewN]); omega)); intro _ _))) | (go_at_call 92; (with_reducible refine (HB.out _ (by (repeat' (first | (with_reducible exact Below.refl _ _) | (with_reducible assumption) | (with_reducible refine Below.call ?_ ?_ (by with_reducible assumption)) | (with_reducible refine Below.alloc ?_ ?_ _) | (with_reducible refine Below.drew ?_) | (with_reducible refine below_drewN ?_ _) | (with_reducible refine Below.setCell ?_ ?_ _) | (with_reducible exact Nat.le_refl _) | omega | (simp only [World.size_alloc, World.size_setCell, World.size_drew, World.heap_drewN] at *; omega)))) (by omega) (by go_simp) (by omega) (by omega) a3).mono ?_); rintro e w3 ⟨rfl, hb⟩; have hz := hb.size; (try simp only [World.size_alloc, World.size_setCell, World.size_drew, World.heap_drewN] at hz); (try have h_w_0 : w.heap.size < w3.heap.size := by omega); (try have e_w_0 : ¬ w.heap.size = w3.heap.size := by omega); (try have d_w_0 : ¬ w3.heap.size = w.heap.size := by omega); (try (refine bcUse (n := w.heap.size) hb ?_ ?_; (focus ((try simp only [World.size_alloc, World.size_setCell, World.size_drew, World.heap_drewN]); omega)); intro _ _)); (try have h_w_1 : w.heap.size + 1 < w3.heap.size := by omega); (try have e_w_1 : ¬ w.heap.size + 1 = w3.heap.size := by omega); (try have d_w_1 : ¬ w3.heap.size = w.heap.size + 1 := by omega); (try (refine bcUse (n := w.heap.size + 1) hb ?_ ?_; (focus ((try simp only [World.size_alloc, World.size_setCell, World.size_drew, World.heap_drewN]); omega)); intro _ _)); (try have h_w_2 : w.heap.size + 1 + 1 < w3.heap.size := by omega); (try have e_w_2 : ¬ w.heap.size + 1 + 1 = w3.heap.size := by omega); (try have d_w_2 : ¬ w3.heap.size = w.heap.size + 1 + 1 := by omega); (try (refine bcUse (n := w.heap.size + 1 + 1) hb ?_ ?_; (focus ((try simp only [World.size_alloc, World.size_setCell, World.size_drew, World.heap_drewN]); omega)); intro _ _)); (try have h_wr_0 : wr.heap.size < w3.heap.size := by omega); (try have e_wr_0 : ¬ wr.heap.size = w3.heap.size := by omega); (try have d_wr_0 : ¬ w3.heap.size = wr.heap.size := by omega); (try (refine bcUse (n := wr.heap.size) hb ?_ ?_; (focus ((try simp only [World.size_alloc, World.size_setCell, World.size_drew, World.heap_drewN]); omega)); intro _ _)); (try have h_w1_0 : w1.heap.size < w3.heap.size := by omega); (try have e_w1_0 : ¬ w1.heap.size = w3.heap.size := by omega); (try have d_w1_0 : ¬ w3.heap.size = w1.heap.size := by omega); (try (refine bcUse (n := w1.heap.size) hb ?_ ?_; (focus ((try simp only [World.size_alloc, World.size_setCell, World.size_drew, World.heap_drewN]); omega)); intro _ _)); (try have h_w2_0 : w2.heap.size < w3.heap.size := by omega); (try have e_w2_0 : ¬ w2.heap.size = w3.heap.size := by omega); (try have d_w2_0 : ¬ w3.heap.size = w2.heap.size := by omega); (try (refine bcUse (n := w2.heap.size) hb ?_ ?_; (focus ((try simp only [World.size_alloc, World.size_setCell, World.size_drew, World.heap_drewN]); omega)); intro _ _))))
          refine bodyPost_ret (v := .tuple #[.agg #[.int .i64 LA, .int .i64 (-LB)], .bool (decide (-LB - LA ≤ width))]) (by simp only [results, Tryd.results68]; go_simp) rfl ⟨rfl, ?_⟩
          (repeat' (first | (with_reducible exact Below.refl _ _) | (with_reducible assumption) | (with_reducible refine Below.call ?_ ?_ (by with_reducible assumption)) | (with_reducible refine Below.alloc ?_ ?_ _) | (with_reducible refine Below.drew ?_) | (with_reducible refine below_drewN ?_ _) | (with_reducible refine Below.setCell ?_ ?_ _) | (with_reducible exact Nat.le_refl _) | omega | (simp only [World.size_alloc, World.size_setCell, World.size_drew, World.heap_drewN] at *; omega)))
    · have gt1 : decide (width < h - l) = false := decide_eq_false hlt
      have hL := HL.out
      have eR : narF s width gk l h = ⟨l, h, true⟩ := by
        cases gk with
        | zero => rfl
        | succ m => unfold narF; rw [if_neg hlt]
      rw [eR] at hL
      subst hL
      clear eR
      go_wp2
      refine bodyPost_ret (v := .tuple #[.agg #[.int .i64 l, .int .i64 h], .bool true]) (by simp only [results, Tryd.results68]; go_simp) rfl ⟨rfl, ?_⟩
      (repeat' (first | (with_reducible exact Below.refl _ _) | (with_reducible assumption) | (with_reducible refine Below.call ?_ ?_ (by with_reducible assumption)) | (with_reducible refine Below.alloc ?_ ?_ _) | (with_reducible refine Below.drew ?_) | (with_reducible refine below_drewN ?_ _) | (with_reducible refine Below.setCell ?_ ?_ _) | (with_reducible exact Nat.le_refl _) | omega | (simp only [World.size_alloc, World.size_setCell, World.size_drew, World.heap_drewN] at *; omega)))
end Go.Proofs.YtplhegjgkmabiaaDoor
