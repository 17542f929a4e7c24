/- Contracts of sharpen.narrow, Season, Phase, Earlier and of sharpenWorks. -/
import Derived.Test.YtplhegjgkmabiaaDoorPlainShp
import Derived.Test.YtplhegjgkmabiaaDoorWalkSea
import Derived.Test.YtplhegjgkmabiaaDoorWalkLunN
set_option linter.unusedVariables false
set_option linter.unusedSimpArgs false
namespace Go.Proofs.YtplhegjgkmabiaaDoor
open Go.RowKit
theorem c_sside1 (b : Nat) (q x : Int) (w : World) (hT : Tab w) (hx : instB x = true) (hbl : b < w.heap.size) (hc : w.cell? ⟨b, 0, none⟩ = some (.int .i64 q)) (t0 : 0 ≤ q) (t1 : q ≤ 3) :
    Calls Tryd.prog 78 #[.int .i64 x, .pointer (some ⟨b, 0, none⟩)] w fun e w' => e = .returned (.int .i64 (sunSide (q * 250000000) x)) ∧ Below w.heap.size w w' := by
  obtain ⟨q1, q2, -, q3, -, -, q6⟩ := sun_facts x
  have HB := Lib.hid (fun w1 (h : Tab w1) => c_sunLongitude x w1 h hx)
  have HS := Lib.hid (fun w1 => c_Side (sunLo x) (sunHi x) (q * 250000000) w1 q1 q2 q6 (by omega) (by omega) (by omega))
  rw [show sideV (sunLo x) (sunHi x) (q * 250000000) = sunSide (q * 250000000) x from rfl] at HS
  have HT := Lib.hid hT
  have e1 : q * 1000000000 / 4 = q * 250000000 := by omega
  have e2 : (q * 1000000000).tdiv 4 = q * 250000000 := by rw [Int.tdiv_eq_ediv_of_nonneg (by omega)]; omega
  clear hT hx q1 q2 q3 q6
  generalize sunSide (q * 250000000) x = sv at *
  generalize sunLo x = b1 at *
  generalize sunHi x = b2 at *
  have hgen := sgen; have hgen2 := sgen2; have hgen3 := sgen3; go_enter Tryd.func78, Tryd.ntmps78
  go_wp2_with (first | (go_at_call 35; (refine (HB.out _ (HT.out.below (by (repeat' (first | (with_reducible exact Below.refl _ _) | (with_reducible assumption) | (with_reducible refine Below.call ?_ ?_ (by with_reducible assumption)) | (with_reducible refine Below.alloc ?_ ?_ _) | (with_reducible refine Below.drew ?_) | (with_reducible refine below_drewN ?_ _) | (with_reducible refine Below.setCell ?_ ?_ _) | (with_reducible exact Nat.le_refl _) | omega | (simp only [World.size_alloc, World.size_setCell, World.size_drew, World.heap_drewN] at *; omega)))))).mono ?_); rintro e w1 ⟨rfl, hb⟩; have hz := hb.size; (try simp only [World.size_alloc, World.size_setCell, World.size_drew, World.heap_drewN] at hz); (try have h_bb_0 : b < w1.heap.size := by omega); (try have e_bb_0 : ¬ b = w1.heap.size := by omega); (try have d_bb_0 : ¬ w1.heap.size = b := by omega); (try (refine bcUse (n := b) hb ?_ ?_; (focus ((try simp only [World.size_alloc, World.size_setCell, World.size_drew, World.heap_drewN]); omega)); intro _ _)); (try have h_w_0 : w.heap.size < w1.heap.size := by omega); (try have e_w_0 : ¬ w.heap.size = w1.heap.size := by omega); (try have d_w_0 : ¬ w1.heap.size = w.heap.size := by omega); (try (refine bcUse (n := w.heap.size) hb ?_ ?_; (focus ((try simp only [World.size_alloc, World.size_setCell, World.size_drew, World.heap_drewN]); omega)); intro _ _))) | (go_at_call 66; (refine (HS.out _).mono ?_); rintro e w2 ⟨rfl, hb⟩; have hz := hb.size; (try simp only [World.size_alloc, World.size_setCell, World.size_drew, World.heap_drewN] at hz); (try have h_bb_0 : b < w2.heap.size := by omega); (try have e_bb_0 : ¬ b = w2.heap.size := by omega); (try have d_bb_0 : ¬ w2.heap.size = b := by omega); (try (refine bcUse (n := b) hb ?_ ?_; (focus ((try simp only [World.size_alloc, World.size_setCell, World.size_drew, World.heap_drewN]); omega)); intro _ _)); (try have h_w_0 : w.heap.size < w2.heap.size := by omega); (try have e_w_0 : ¬ w.heap.size = w2.heap.size := by omega); (try have d_w_0 : ¬ w2.heap.size = w.heap.size := by omega); (try (refine bcUse (n := w.heap.size) hb ?_ ?_; (focus ((try simp only [World.size_alloc, World.size_setCell, World.size_drew, World.heap_drewN]); omega)); intro _ _)); (try have h_w1_0 : w1.heap.size < w2.heap.size := by omega); (try have e_w1_0 : ¬ w1.heap.size = w2.heap.size := by omega); (try have d_w1_0 : ¬ w2.heap.size = w1.heap.size := by omega); (try (refine bcUse (n := w1.heap.size) hb ?_ ?_; (focus ((try simp only [World.size_alloc, World.size_setCell, World.size_drew, World.heap_drewN]); omega)); intro _ _))))
  go_ret
  refine ⟨rfl, ?_⟩
  (repeat' (first | (with_reducible exact Below.refl _ _) | (with_reducible assumption) | (with_reducible refine Below.call ?_ ?_ (by with_reducible assumption)) | (with_reducible refine Below.alloc ?_ ?_ _) | (with_reducible refine Below.drew ?_) | (with_reducible refine below_drewN ?_ _) | (with_reducible refine Below.setCell ?_ ?_ _) | (with_reducible exact Nat.le_refl _) | omega | (simp only [World.size_alloc, World.size_setCell, World.size_drew, World.heap_drewN] at *; omega)))
theorem call_sside1 (args : Array Value) (w : World) : (callFunc 78 args).run Tryd.prog w = .ok (.enter 78 args) w := by
  go_simp
theorem c_pside1 (b : Nat) (q x : Int) (w : World) (hT : Tab w) (hx : instB x = true) (hbl : b < w.heap.size) (hc : w.cell? ⟨b, 0, none⟩ = some (.int .i64 q)) (t0 : 0 ≤ q) (t1 : q ≤ 3) :
    Calls Tryd.prog 79 #[.int .i64 x, .pointer (some ⟨b, 0, none⟩)] w fun e w' => e = .returned (.int .i64 (elSide (q * 250000000) x)) ∧ Below w.heap.size w w' := by
  obtain ⟨p1, p2, -, p3, p4, p5, p6⟩ := moon_facts x
  obtain ⟨q1, q2, -, q3, q4, q5, q6⟩ := sun_facts x
  have g0 : 0 ≤ elLo x := by unfold elLo; omega
  have g1 : elLo x < 1000000000 := by unfold elLo; omega
  have g2 : elHi x - elLo x ≤ 44006 := by unfold elHi; omega
  have g3 : elLo x ≤ elHi x := by unfold elHi; omega
  have HB := Lib.hid (fun w1 (h : Tab w1) => c_Elongation x w1 h hx)
  have HS := Lib.hid (fun w1 => c_Side (elLo x) (elHi x) (q * 250000000) w1 g0 g1 g3 (by omega) (by omega) (by omega))
  rw [show sideV (elLo x) (elHi x) (q * 250000000) = elSide (q * 250000000) x from rfl] at HS
  have HT := Lib.hid hT
  have e1 : q * 1000000000 / 4 = q * 250000000 := by omega
  have e2 : (q * 1000000000).tdiv 4 = q * 250000000 := by rw [Int.tdiv_eq_ediv_of_nonneg (by omega)]; omega
  clear hT hx q1 q2 q3 q4 q5 q6 p1 p2 p3 p4 p5 p6 g0 g1 g2 g3
  generalize elSide (q * 250000000) x = sv at *
  generalize elLo x = b1 at *
  generalize elHi x = b2 at *
  have hgen := sgen; have hgen2 := sgen2; have hgen3 := sgen3; go_enter Tryd.func79, Tryd.ntmps79
  go_wp2_with (first | (go_at_call 74; (refine (HB.out _ (HT.out.below (by (repeat' (first | (with_reducible exact Below.refl _ _) | (with_reducible assumption) | (with_reducible refine Below.call ?_ ?_ (by with_reducible assumption)) | (with_reducible refine Below.alloc ?_ ?_ _) | (with_reducible refine Below.drew ?_) | (with_reducible refine below_drewN ?_ _) | (with_reducible refine Below.setCell ?_ ?_ _) | (with_reducible exact Nat.le_refl _) | omega | (simp only [World.size_alloc, World.size_setCell, World.size_drew, World.heap_drewN] at *; omega)))))).mono ?_); rintro e w1 ⟨rfl, hb⟩; have hz := hb.size; (try simp only [World.size_alloc, World.size_setCell, World.size_drew, World.heap_drewN] at hz); (try have h_bb_0 : b < w1.heap.size := by omega); (try have e_bb_0 : ¬ b = w1.heap.size := by omega); (try have d_bb_0 : ¬ w1.heap.size = b := by omega); (try (refine bcUse (n := b) hb ?_ ?_; (focus ((try simp only [World.size_alloc, World.size_setCell, World.size_drew, World.heap_drewN]); omega)); intro _ _)); (try have h_w_0 : w.heap.size < w1.heap.size := by omega); (try have e_w_0 : ¬ w.heap.size = w1.heap.size := by omega); (try have d_w_0 : ¬ w1.heap.size = w.heap.size := by omega); (try (refine bcUse (n := w.heap.size) hb ?_ ?_; (focus ((try simp only [World.size_alloc, World.size_setCell, World.size_drew, World.heap_drewN]); omega)); intro _ _))) | (go_at_call 66; (refine (HS.out _).mono ?_); rintro e w2 ⟨rfl, hb⟩; have hz := hb.size; (try simp only [World.size_alloc, World.size_setCell, World.size_drew, World.heap_drewN] at hz); (try have h_bb_0 : b < w2.heap.size := by omega); (try have e_bb_0 : ¬ b = w2.heap.size := by omega); (try have d_bb_0 : ¬ w2.heap.size = b := by omega); (try (refine bcUse (n := b) hb ?_ ?_; (focus ((try simp only [World.size_alloc, World.size_setCell, World.size_drew, World.heap_drewN]); omega)); intro _ _)); (try have h_w_0 : w.heap.size < w2.heap.size := by omega); (try have e_w_0 : ¬ w.heap.size = w2.heap.size := by omega); (try have d_w_0 : ¬ w2.heap.size = w.heap.size := by omega); (try (refine bcUse (n := w.heap.size) hb ?_ ?_; (focus ((try simp only [World.size_alloc, World.size_setCell, World.size_drew, World.heap_drewN]); omega)); intro _ _)); (try have h_w1_0 : w1.heap.size < w2.heap.size := by omega); (try have e_w1_0 : ¬ w1.heap.size = w2.heap.size := by omega); (try have d_w1_0 : ¬ w2.heap.size = w1.heap.size := by omega); (try (refine bcUse (n := w1.heap.size) hb ?_ ?_; (focus ((try simp only [World.size_alloc, World.size_setCell, World.size_drew, World.heap_drewN]); omega)); intro _ _))))
  go_ret
  refine ⟨rfl, ?_⟩
  (repeat' (first | (with_reducible exact Below.refl _ _) | (with_reducible assumption) | (with_reducible refine Below.call ?_ ?_ (by with_reducible assumption)) | (with_reducible refine Below.alloc ?_ ?_ _) | (with_reducible refine Below.drew ?_) | (with_reducible refine below_drewN ?_ _) | (with_reducible refine Below.setCell ?_ ?_ _) | (with_reducible exact Nat.le_refl _) | omega | (simp only [World.size_alloc, World.size_setCell, World.size_drew, World.heap_drewN] at *; omega)))
theorem call_pside1 (args : Array Value) (w : World) : (callFunc 79 args).run Tryd.prog w = .ok (.enter 79 args) w := by
  go_simp
theorem c_narrow_arg (f : Value) (lo hi width : Int) (w : World) (h : width < 1) :
    Calls Tryd.prog 77 #[.agg #[.int .i64 lo, .int .i64 hi], .int .i64 width, f] w fun e w' => e = .returned (.tuple #[.agg #[.int .i64 0, .int .i64 0], .int .i64 1]) ∧ Below w.heap.size w w' := by
  have f1 : decide (width < 1) = true := decide_eq_true h
  have hgen := sgen; have hgen2 := sgen2; have hgen3 := sgen3; go_enter Tryd.func77, Tryd.ntmps77
  go_wp2
  refine bodyPost_ret (v := .tuple #[.agg #[.int .i64 0, .int .i64 0], .int .i64 1]) (by simp only [results, Tryd.results77]; go_simp) rfl ⟨rfl, ?_⟩
  (repeat' (first | (with_reducible exact Below.refl _ _) | (with_reducible assumption) | (with_reducible refine Below.call ?_ ?_ (by with_reducible assumption)) | (with_reducible refine Below.alloc ?_ ?_ _) | (with_reducible refine Below.drew ?_) | (with_reducible refine below_drewN ?_ _) | (with_reducible refine Below.setCell ?_ ?_ _) | (with_reducible exact Nat.le_refl _) | omega | (simp only [World.size_alloc, World.size_setCell, World.size_drew, World.heap_drewN] at *; omega)))
/-- What sharpen.narrow answers. -/
def shV (r : NarR) : Value := if r.is = true then .tuple #[.agg #[.int .i64 r.lo, .int .i64 r.hi], .int .i64 0] else .tuple #[.agg #[.int .i64 0, .int .i64 0], .int .i64 11]
theorem c_narrow (F : Nat) (c : Value) (s : Int → Int) (W : World → Prop) (lo hi width : Int) (w : World) (hW : Kept W) (hw : W w) (h1 : -1000000000000000000 ≤ lo) (h2 : lo ≤ hi) (h3 : hi ≤ 1000000000000000000) (hF : ∀ args w, (callFunc F args).run Tryd.prog w = .ok (.enter F args) w) (hwd : 1 ≤ width) (hwd2 : width ≤ 9223372036854775807)
    (hf : ∀ w1 x, W w1 → lo ≤ x → x ≤ hi → Calls Tryd.prog F #[.int .i64 x, c] w1 fun e w' => e = .returned (.int .i64 (s x)) ∧ Below w1.heap.size w1 w') :
    Calls Tryd.prog 77 #[.agg #[.int .i64 lo, .int .i64 hi], .int .i64 width, .func (.func F) #[] #[c]] w fun e w' => e = .returned (shV (narF s width 62 lo hi)) ∧ Below w.heap.size w w' := by
  have HN := Lib.hid (fun w1 (hw : W w1) => c_Narrow F c s W lo hi width w1 hW hw h1 h2 h3 hF hwd hwd2 hf)
  have HW := Lib.hid (show ∀ w1 w2, W w1 → Below w1.heap.size w1 w2 → W w2 from hW)
  have HWW := Lib.hid hw
  have f1 : decide (width < 1) = false := decide_eq_false (by omega)
  clear hf hW hw hF
  generalize narF s width 62 lo hi = R at *
  cases hR : R.is with
  | true =>
    have e : shV R = .tuple #[.agg #[.int .i64 R.lo, .int .i64 R.hi], .int .i64 0] := by unfold shV; rw [if_pos hR]
    rw [e]
    clear e
    have hgen := sgen; have hgen2 := sgen2; have hgen3 := sgen3; go_enter Tryd.func77, Tryd.ntmps77
    go_wp2_with (go_at_call 68; (refine (HN.out _ (HW.out _ _ HWW.out (by (repeat' (first | (with_reducible exact Below.refl _ _) | (with_reducible assumption) | (with_reducible refine Below.call ?_ ?_ (by with_reducible assumption)) | (with_reducible refine Below.alloc ?_ ?_ _) | (with_reducible refine Below.drew ?_) | (with_reducible refine below_drewN ?_ _) | (with_reducible refine Below.setCell ?_ ?_ _) | (with_reducible exact Nat.le_refl _) | omega | (simp only [World.size_alloc, World.size_setCell, World.size_drew, World.heap_drewN] at *; omega)))))).mono ?_); rintro e w1 ⟨rfl, hb⟩; have hz := hb.size; (try simp only [World.size_alloc, World.size_setCell, World.size_drew, World.heap_drewN] at hz); (try have h_w_0 : w.heap.size < w1.heap.size := by omega); (try have e_w_0 : ¬ w.heap.size = w1.heap.size := by omega); (try have d_w_0 : ¬ w1.heap.size = w.heap.size := by omega); (try (refine bcUse (n := w.heap.size) hb ?_ ?_; (focus ((try simp only [World.size_alloc, World.size_setCell, World.size_drew, World.heap_drewN]); omega)); intro _ _)); (try have h_w_1 : w.heap.size + 1 < w1.heap.size := by omega); (try have e_w_1 : ¬ w.heap.size + 1 = w1.heap.size := by omega); (try have d_w_1 : ¬ w1.heap.size = w.heap.size + 1 := by omega); (try (refine bcUse (n := w.heap.size + 1) hb ?_ ?_; (focus ((try simp only [World.size_alloc, World.size_setCell, World.size_drew, World.heap_drewN]); omega)); intro _ _)))
    refine bodyPost_ret (v := .tuple #[.agg #[.int .i64 R.lo, .int .i64 R.hi], .int .i64 0]) (by simp only [results, Tryd.results77]; go_simp) rfl ⟨rfl, ?_⟩
    (repeat' (first | (with_reducible exact Below.refl _ _) | (with_reducible assumption) | (with_reducible refine Below.call ?_ ?_ (by with_reducible assumption)) | (with_reducible refine Below.alloc ?_ ?_ _) | (with_reducible refine Below.drew ?_) | (with_reducible refine below_drewN ?_ _) | (with_reducible refine Below.setCell ?_ ?_ _) | (with_reducible exact Nat.le_refl _) | omega | (simp only [World.size_alloc, World.size_setCell, World.size_drew, World.heap_drewN] at *; omega)))
  | false =>
    have e : shV R = .tuple #[.agg #[.int .i64 0, .int .i64 0], .int .i64 11] := by unfold shV; rw [if_neg (by rw [hR]; decide)]
    rw [e]
    clear e
    have hgen := sgen; have hgen2 := sgen2; have hgen3 := sgen3; go_enter Tryd.func77, Tryd.ntmps77
    go_wp2_with (go_at_call 68; (refine (HN.out _ (HW.out _ _ HWW.out (by (repeat' (first | (with_reducible exact Below.refl _ _) | (with_reducible assumption) | (with_reducible refine Below.call ?_ ?_ (by with_reducible assumption)) | (with_reducible refine Below.alloc ?_ ?_ _) | (with_reducible refine Below.drew ?_) | (with_reducible refine below_drewN ?_ _) | (with_reducible refine Below.setCell ?_ ?_ _) | (with_reducible exact Nat.le_refl _) | omega | (simp only [World.size_alloc, World.size_setCell, World.size_drew, World.heap_drewN] at *; omega)))))).mono ?_); rintro e w1 ⟨rfl, hb⟩; have hz := hb.size; (try simp only [World.size_alloc, World.size_setCell, World.size_drew, World.heap_drewN] at hz); (try have h_w_0 : w.heap.size < w1.heap.size := by omega); (try have e_w_0 : ¬ w.heap.size = w1.heap.size := by omega); (try have d_w_0 : ¬ w1.heap.size = w.heap.size := by omega); (try (refine bcUse (n := w.heap.size) hb ?_ ?_; (focus ((try simp only [World.size_alloc, World.size_setCell, World.size_drew, World.heap_drewN]); omega)); intro _ _)); (try have h_w_1 : w.heap.size + 1 < w1.heap.size := by omega); (try have e_w_1 : ¬ w.heap.size + 1 = w1.heap.size := by omega); (try have d_w_1 : ¬ w1.heap.size = w.heap.size + 1 := by omega); (try (refine bcUse (n := w.heap.size + 1) hb ?_ ?_; (focus ((try simp only [World.size_alloc, World.size_setCell, World.size_drew, World.heap_drewN]); omega)); intro _ _)))
    refine bodyPost_ret (v := .tuple #[.agg #[.int .i64 0, .int .i64 0], .int .i64 11]) (by simp only [results, Tryd.results77]; go_simp) rfl ⟨rfl, ?_⟩
    (repeat' (first | (with_reducible exact Below.refl _ _) | (with_reducible assumption) | (with_reducible refine Below.call ?_ ?_ (by with_reducible assumption)) | (with_reducible refine Below.alloc ?_ ?_ _) | (with_reducible refine Below.drew ?_) | (with_reducible refine below_drewN ?_ _) | (with_reducible refine Below.setCell ?_ ?_ _) | (with_reducible exact Nat.le_refl _) | omega | (simp only [World.size_alloc, World.size_setCell, World.size_drew, World.heap_drewN] at *; omega)))
end Go.Proofs.YtplhegjgkmabiaaDoor
