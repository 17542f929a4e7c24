/- Contracts of series.Side, series.last, series.Narrow for any function that is told by a function on numbers. -/
import Derived.Test.YtplhegjgkmabiaaDoorWkA
import Derived.Test.YtplhegjgkmabiaaDoorWkB
import Derived.Test.YtplhegjgkmabiaaDoorPlainNar
import Derived.Deep.LoopGhost
set_option linter.unusedVariables false
set_option linter.unusedSimpArgs false
namespace Go.Proofs.YtplhegjgkmabiaaDoor
open Go.RowKit
/-- A condition on the world that stands while memory is made. -/
def Kept (W : World → Prop) : Prop := ∀ w1 w2, W w1 → Below w1.heap.size w1 w2 → W w2
set_option maxRecDepth 100000 in
set_option maxHeartbeats 1000000 in
theorem c_last (F : Nat) (c : Value) (P : Int → Bool) (W : World → Prop) (lo hi : Int) (w : World) (hW : Kept W) (hw : W w) (h1 : -1000000000000000000 ≤ lo) (h2 : lo ≤ hi) (h3 : hi ≤ 1000000000000000000) (hF : ∀ args w, (callFunc F args).run Tryd.prog w = .ok (.enter F args) w)
    (hf : ∀ w1 x, W w1 → lo ≤ x → x ≤ hi → Calls Tryd.prog F #[.int .i64 x, c] w1 fun e w' => e = .returned (.bool (P x)) ∧ Below w1.heap.size w1 w') :
    Calls Tryd.prog 92 #[.int .i64 lo, .int .i64 hi, .func (.func F) #[] #[c]] w fun e w' => e = .returned (.int .i64 (lastF P 62 lo hi)) ∧ Below w.heap.size w w' := by
  have HF := Lib.hid hf
  have HW := Lib.hid (show ∀ w1 w2, W w1 → Below w1.heap.size w1 w2 → W w2 from hW)
  have HWW := Lib.hid hw
  have e62 : hi - lo ≤ 2 ^ 62 := by rw [show (2 : Int) ^ 62 = 4611686018427387904 from rfl]; omega
  have HE := Lib.hid e62
  obtain ⟨R, hR⟩ : ∃ R, R = lastF P 62 lo hi := ⟨_, rfl⟩
  have HR := Lib.hid hR
  rw [← hR]
  clear hf hW hw e62 hR
  have hgen := sgen; have hgen2 := sgen2; have hgen3 := sgen3; go_enter Tryd.func92, Tryd.ntmps92
  go_wp2_with fail
  go_loopg [0, 1] 62 (fun gk x0 x1 wr => ∃ l h : Int, x0 = .int .i64 l ∧ x1 = .int .i64 h ∧ lo ≤ l ∧ l ≤ h ∧ h ≤ hi ∧ h - l ≤ 2 ^ gk ∧ lastF P gk l h = R ∧ Below w.heap.size w wr)
  case atStart => exact ⟨lo, hi, rfl, rfl, Int.le_refl _, h2, Int.le_refl _, HE.out, HR.out.symm, Below.refl _ _⟩
  case round =>
    obtain ⟨l, h, rfl, rfl, a1, a2, a3, a4, a5, hbel⟩ := hrel
    have hsz := hbel.size
    have HP := Lib.hid a4
    have HL := Lib.hid a5
    clear a4 a5
    have HC := Lib.hid (fun w1 (hb : Below w.heap.size w w1) (x1 : lo ≤ l + (h - l) / 2) (x2 : l + (h - l) / 2 ≤ hi) => HF.out w1 (l + (h - l) / 2) (HW.out _ _ HWW.out hb) x1 x2)
    by_cases hlt : 1 < h - l
    · have gt1 : decide (1 < h - l) = true := decide_eq_true hlt
      cases gk with
      | zero =>
        have := HP.out
        rw [show (2 : Int) ^ 0 = 1 from rfl] at this
        omega
      | succ m =>
      have e : (2 : Int) ^ (m + 1) = 2 * 2 ^ m := by rw [Int.pow_succ]; omega
      have HP2 := Lib.hid (by have := HP.out; rw [e] at this; exact this)
      have hL := HL.out
      unfold lastF at hL
      rw [if_pos hlt] at hL
      have hmid : 0 < (h - l) / 2 ∧ (h - l) / 2 < h - l := by omega
      have hmm : 2 * ((h - l) / 2) ≤ h - l ∧ h - l ≤ 2 * ((h - l) / 2) + 1 := by omega
      cases hP : P (l + (h - l) / 2) with
      | true =>
        rw [hP, if_pos rfl] at hL
        have HL2 := Lib.hid hL
        rw [hP] at HC
        clear hL e hP
        go_wp2_with fail
        ((refine (HC.out wr hbel (by omega) (by omega)).mono ?_); rintro e w1 ⟨rfl, hb⟩; have hz := hb.size; (try simp only [World.size_alloc, World.size_setCell, World.size_drew, World.heap_drewN] at hz); (try have h_w_0 : w.heap.size < w1.heap.size := by omega); (try have e_w_0 : ¬ w.heap.size = w1.heap.size := by omega); (try have d_w_0 : ¬ w1.heap.size = w.heap.size := by omega); (try (refine bcUse (n := w.heap.size) hb ?_ ?_; (focus ((try simp only [World.size_alloc, World.size_setCell, World.size_drew, World.heap_drewN]); omega)); intro _ _)); (try have h_wr_0 : wr.heap.size < w1.heap.size := by omega); (try have e_wr_0 : ¬ wr.heap.size = w1.heap.size := by omega); (try have d_wr_0 : ¬ w1.heap.size = wr.heap.size := by omega); (try (refine bcUse (n := wr.heap.size) hb ?_ ?_; (focus ((try simp only [World.size_alloc, World.size_setCell, World.size_drew, World.heap_drewN]); omega)); intro _ _)))
        go_wp2
        go_roundg m
        case measure => omega
        case rel => exact ⟨l + (h - l) / 2, h, rfl, rfl, by omega, by omega, a3, by have := HP2.out; omega, HL2.out, by (repeat' (first | (with_reducible exact Below.refl _ _) | (with_reducible assumption) | (with_reducible refine Below.call ?_ ?_ (by with_reducible assumption)) | (with_reducible refine Below.alloc ?_ ?_ _) | (with_reducible refine Below.drew ?_) | (with_reducible refine below_drewN ?_ _) | (with_reducible refine Below.setCell ?_ ?_ _) | (with_reducible exact Nat.le_refl _) | omega | (simp only [World.size_alloc, World.size_setCell, World.size_drew, World.heap_drewN] at *; omega)))⟩
      | false =>
        rw [hP, if_neg (by decide)] at hL
        have HL2 := Lib.hid hL
        rw [hP] at HC
        clear hL e hP
        go_wp2_with fail
        ((refine (HC.out wr hbel (by omega) (by omega)).mono ?_); rintro e w1 ⟨rfl, hb⟩; have hz := hb.size; (try simp only [World.size_alloc, World.size_setCell, World.size_drew, World.heap_drewN] at hz); (try have h_w_0 : w.heap.size < w1.heap.size := by omega); (try have e_w_0 : ¬ w.heap.size = w1.heap.size := by omega); (try have d_w_0 : ¬ w1.heap.size = w.heap.size := by omega); (try (refine bcUse (n := w.heap.size) hb ?_ ?_; (focus ((try simp only [World.size_alloc, World.size_setCell, World.size_drew, World.heap_drewN]); omega)); intro _ _)); (try have h_wr_0 : wr.heap.size < w1.heap.size := by omega); (try have e_wr_0 : ¬ wr.heap.size = w1.heap.size := by omega); (try have d_wr_0 : ¬ w1.heap.size = wr.heap.size := by omega); (try (refine bcUse (n := wr.heap.size) hb ?_ ?_; (focus ((try simp only [World.size_alloc, World.size_setCell, World.size_drew, World.heap_drewN]); omega)); intro _ _)))
        go_wp2
        go_roundg m
        case measure => omega
        case rel => exact ⟨l, l + (h - l) / 2, rfl, rfl, a1, by omega, by omega, by have := HP2.out; omega, HL2.out, by (repeat' (first | (with_reducible exact Below.refl _ _) | (with_reducible assumption) | (with_reducible refine Below.call ?_ ?_ (by with_reducible assumption)) | (with_reducible refine Below.alloc ?_ ?_ _) | (with_reducible refine Below.drew ?_) | (with_reducible refine below_drewN ?_ _) | (with_reducible refine Below.setCell ?_ ?_ _) | (with_reducible exact Nat.le_refl _) | omega | (simp only [World.size_alloc, World.size_setCell, World.size_drew, World.heap_drewN] at *; omega)))⟩
    · have gt1 : decide (1 < h - l) = false := decide_eq_false hlt
      have hL := HL.out
      have eR : lastF P gk l h = l := by
        cases gk with
        | zero => rfl
        | succ m => unfold lastF; rw [if_neg hlt]
      rw [eR] at hL
      subst hL
      clear eR
      go_wp2
      go_ret
      refine ⟨rfl, ?_⟩
      (repeat' (first | (with_reducible exact Below.refl _ _) | (with_reducible assumption) | (with_reducible refine Below.call ?_ ?_ (by with_reducible assumption)) | (with_reducible refine Below.alloc ?_ ?_ _) | (with_reducible refine Below.drew ?_) | (with_reducible refine below_drewN ?_ _) | (with_reducible refine Below.setCell ?_ ?_ _) | (with_reducible exact Nat.le_refl _) | omega | (simp only [World.size_alloc, World.size_setCell, World.size_drew, World.heap_drewN] at *; omega)))
/-- What a call through a cell with the function does. -/
theorem c_n1 (b : Nat) (F : Nat) (c : Value) (s : Int → Int) (x : Int) (w : World) (hF : ∀ args w, (callFunc F args).run Tryd.prog w = .ok (.enter F args) w) (hb : w.cell? ⟨b, 0, none⟩ = some (.func (.func F) #[] #[c]))
    (hf : ∀ w1, w1 = w → Calls Tryd.prog F #[.int .i64 x, c] w1 fun e w' => e = .returned (.int .i64 (s x)) ∧ Below w1.heap.size w1 w') :
    Calls Tryd.prog 93 #[.int .i64 x, .pointer (some ⟨b, 0, none⟩)] w fun e w' => e = .returned (.bool (s x == -1)) ∧ Below w.heap.size w w' := by
  have HF := Lib.hid hf
  clear hf
  have hgen := sgen; have hgen2 := sgen2; have hgen3 := sgen3; go_enter Tryd.func93, Tryd.ntmps93
  go_wp2_with fail
  ((refine (HF.out _ rfl).mono ?_); rintro e w1 ⟨rfl, hb⟩; have hz := hb.size; (try simp only [World.size_alloc, World.size_setCell, World.size_drew, World.heap_drewN] at hz); (try have h_w_0 : w.heap.size < w1.heap.size := by omega); (try have e_w_0 : ¬ w.heap.size = w1.heap.size := by omega); (try have d_w_0 : ¬ w1.heap.size = w.heap.size := by omega); (try (refine bcUse (n := w.heap.size) hb ?_ ?_; (focus ((try simp only [World.size_alloc, World.size_setCell, World.size_drew, World.heap_drewN]); omega)); intro _ _)))
  go_wp2
  go_ret
  refine ⟨rfl, ?_⟩
  (repeat' (first | (with_reducible exact Below.refl _ _) | (with_reducible assumption) | (with_reducible refine Below.call ?_ ?_ (by with_reducible assumption)) | (with_reducible refine Below.alloc ?_ ?_ _) | (with_reducible refine Below.drew ?_) | (with_reducible refine below_drewN ?_ _) | (with_reducible refine Below.setCell ?_ ?_ _) | (with_reducible exact Nat.le_refl _) | omega | (simp only [World.size_alloc, World.size_setCell, World.size_drew, World.heap_drewN] at *; omega)))
theorem c_n2 (b : Nat) (F : Nat) (c : Value) (s : Int → Int) (x : Int) (w : World) (hF : ∀ args w, (callFunc F args).run Tryd.prog w = .ok (.enter F args) w) (x1 : -1000000000000000000 ≤ x) (x2 : x ≤ 1000000000000000000) (hb : w.cell? ⟨b, 0, none⟩ = some (.func (.func F) #[] #[c]))
    (hf : ∀ w1, w1 = w → Calls Tryd.prog F #[.int .i64 (-x), c] w1 fun e w' => e = .returned (.int .i64 (s (-x))) ∧ Below w1.heap.size w1 w') :
    Calls Tryd.prog 94 #[.int .i64 x, .pointer (some ⟨b, 0, none⟩)] w fun e w' => e = .returned (.bool (s (-x) == 1)) ∧ Below w.heap.size w w' := by
  have HF := Lib.hid hf
  clear hf
  have hgen := sgen; have hgen2 := sgen2; have hgen3 := sgen3; go_enter Tryd.func94, Tryd.ntmps94
  go_wp2_with fail
  ((refine (HF.out _ rfl).mono ?_); rintro e w1 ⟨rfl, hb⟩; have hz := hb.size; (try simp only [World.size_alloc, World.size_setCell, World.size_drew, World.heap_drewN] at hz); (try have h_w_0 : w.heap.size < w1.heap.size := by omega); (try have e_w_0 : ¬ w.heap.size = w1.heap.size := by omega); (try have d_w_0 : ¬ w1.heap.size = w.heap.size := by omega); (try (refine bcUse (n := w.heap.size) hb ?_ ?_; (focus ((try simp only [World.size_alloc, World.size_setCell, World.size_drew, World.heap_drewN]); omega)); intro _ _)))
  go_wp2
  go_ret
  refine ⟨rfl, ?_⟩
  (repeat' (first | (with_reducible exact Below.refl _ _) | (with_reducible assumption) | (with_reducible refine Below.call ?_ ?_ (by with_reducible assumption)) | (with_reducible refine Below.alloc ?_ ?_ _) | (with_reducible refine Below.drew ?_) | (with_reducible refine below_drewN ?_ _) | (with_reducible refine Below.setCell ?_ ?_ _) | (with_reducible exact Nat.le_refl _) | omega | (simp only [World.size_alloc, World.size_setCell, World.size_drew, World.heap_drewN] at *; omega)))
theorem call_n1 (args : Array Value) (w : World) : (callFunc 93 args).run Tryd.prog w = .ok (.enter 93 args) w := by
  go_simp
theorem call_n2 (args : Array Value) (w : World) : (callFunc 94 args).run Tryd.prog w = .ok (.enter 94 args) w := by
  go_simp
end Go.Proofs.YtplhegjgkmabiaaDoor
