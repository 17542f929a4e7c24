/- The contracts of contradict.fails and contradict.Implied. -/
import Derived.Test.YtdpddidfdifbhaaWalkClone
import Derived.Test.YtdpddidfdifbhaaWalkTig
import Derived.Test.YtdpddidfdifbhaaWalkEarly
import Derived.Deep.DeepCutAuto
set_option linter.unusedVariables false
set_option linter.unusedSimpArgs false
namespace Go.Proofs.Ytdpddidfdifbhaa
open Go.RowKit
theorem c_fails (n : Nat) (a : Option Addr) (cap : Nat) (l : List Bd) (w : World) (hc : l.length ≤ cap) (he : chErr n l = 0) (hs : BdSlice w a l) :
    Calls Try.prog 54 #[.int .i64 n, .slice a l.length cap] w fun e w' => e = .returned (.bool (!(okB n l))) ∧ Below w.heap.size w w' := by
  cases hk : okB n l
  · have HT := Lib.hid (fun w1 hs1 => c_Tight_no n a cap l w1 hc he (bdOk_at he) (okB_no hk) hs1)
    clear he hk
    have hgen := sgen; have hgen2 := sgen2; have hgen3 := sgen3; go_enter Try.func54, Try.ntmps54
    go_wp2_with (go_at_call 28; (with_reducible refine (HT.out _ hs).mono ?_); rintro e w1 ⟨rfl, hb⟩; have hz := hb.size; (try simp only [World.size_alloc, World.size_setCell, World.size_drew, World.heap_drewN] at hz); (try have h_w_0 : w.heap.size < w1.heap.size := by omega); (try have e_w_0 : ¬ w.heap.size = w1.heap.size := by omega); (try have d_w_0 : ¬ w1.heap.size = w.heap.size := by omega); (try (refine bcUse (n := w.heap.size) hb ?_ ?_; (focus ((try simp only [World.size_alloc, World.size_setCell, World.size_drew, World.heap_drewN]); omega)); intro _ _)))
    go_ret
    refine ⟨rfl, ?_⟩
    (repeat' (first | (with_reducible exact Below.refl _ _) | (with_reducible assumption) | (with_reducible refine Below.call ?_ ?_ (by with_reducible assumption)) | (with_reducible refine Below.alloc ?_ ?_ _) | (with_reducible refine Below.drew ?_) | (with_reducible refine below_drewN ?_ _) | (with_reducible refine Below.setCell ?_ ?_ _) | (with_reducible exact Nat.le_refl _) | omega | (simp only [World.size_alloc, World.size_setCell, World.size_drew, World.heap_drewN] at *; omega)))
  · have HT := Lib.hid (fun w1 hs1 => c_Tight_ok n a cap l w1 hc he (bdOk_at he) (okB_yes hk) hs1)
    clear he hk
    have hgen := sgen; have hgen2 := sgen2; have hgen3 := sgen3; go_enter Try.func54, Try.ntmps54
    go_wp2_with (go_at_call 28; (with_reducible refine (HT.out _ hs).mono ?_); rintro e w1 ⟨a1, cap1, rfl, _, _, hb⟩; have hz := hb.size; (try simp only [World.size_alloc, World.size_setCell, World.size_drew, World.heap_drewN] at hz); (try have h_w_0 : w.heap.size < w1.heap.size := by omega); (try have e_w_0 : ¬ w.heap.size = w1.heap.size := by omega); (try have d_w_0 : ¬ w1.heap.size = w.heap.size := by omega); (try (refine bcUse (n := w.heap.size) hb ?_ ?_; (focus ((try simp only [World.size_alloc, World.size_setCell, World.size_drew, World.heap_drewN]); omega)); intro _ _)))
    go_ret
    refine ⟨rfl, ?_⟩
    (repeat' (first | (with_reducible exact Below.refl _ _) | (with_reducible assumption) | (with_reducible refine Below.call ?_ ?_ (by with_reducible assumption)) | (with_reducible refine Below.alloc ?_ ?_ _) | (with_reducible refine Below.drew ?_) | (with_reducible refine below_drewN ?_ _) | (with_reducible refine Below.setCell ?_ ?_ _) | (with_reducible exact Nat.le_refl _) | omega | (simp only [World.size_alloc, World.size_setCell, World.size_drew, World.heap_drewN] at *; omega)))
theorem c_Imp_bad (n : Int) (a : Option Addr) (cap : Nat) (k : Int) (l : List Bd) (w : World) (hc : l.length ≤ cap) (he : chErr n l ≠ 0) (hs : BdSlice w a l) :
    Calls Try.prog 35 #[.int .i64 n, .slice a l.length cap, .int .i64 k] w fun e w' => e = .returned (.tuple #[.bool false, .int .i64 (chErr n l)]) ∧ Below w.heap.size w w' := by
  have h1 : (chErr n l != 0) = true := by simp [he]
  have hgen := sgen; have hgen2 := sgen2; have hgen3 := sgen3; go_enter Try.func35, Try.ntmps35
  go_wp2_with (go_at_call 29; (refine (c_chCheck _ _ _ l _ hc hs).mono ?_); rintro e w1 ⟨rfl, hb⟩; have hz := hb.size; (try simp only [World.size_alloc, World.size_setCell, World.size_drew, World.heap_drewN] at hz); (try have h_w_0 : w.heap.size < w1.heap.size := by omega); (try have e_w_0 : ¬ w.heap.size = w1.heap.size := by omega); (try have d_w_0 : ¬ w1.heap.size = w.heap.size := by omega); (try (refine bcUse (n := w.heap.size) hb ?_ ?_; (focus ((try simp only [World.size_alloc, World.size_setCell, World.size_drew, World.heap_drewN]); omega)); intro _ _)))
  go_ret2
  refine ⟨rfl, ?_⟩
  (repeat' (first | (with_reducible exact Below.refl _ _) | (with_reducible assumption) | (with_reducible refine Below.call ?_ ?_ (by with_reducible assumption)) | (with_reducible refine Below.alloc ?_ ?_ _) | (with_reducible refine Below.drew ?_) | (with_reducible refine below_drewN ?_ _) | (with_reducible refine Below.setCell ?_ ?_ _) | (with_reducible exact Nat.le_refl _) | omega | (simp only [World.size_alloc, World.size_setCell, World.size_drew, World.heap_drewN] at *; omega)))
theorem c_Imp_range (n : Int) (a : Option Addr) (cap : Nat) (k : Int) (l : List Bd) (w : World) (hc : l.length ≤ cap) (he : chErr n l = 0) (hk : k < 0 ∨ (l.length : Int) ≤ k) (hs : BdSlice w a l) :
    Calls Try.prog 35 #[.int .i64 n, .slice a l.length cap, .int .i64 k] w fun e w' => e = .returned (.tuple #[.bool false, .int .i64 3]) ∧ Below w.heap.size w w' := by
  have hC := fun w1 hs1 => c_chCheck n a cap l w1 hc hs1
  rw [he] at hC
  have HC := Lib.hid hC
  clear hC he
  have h' : decide (k < 0) = true ∨ (decide (k < 0) = false ∧ decide ((l.length : Int) ≤ k) = true) := by
    by_cases q : k < 0
    · left; exact decide_eq_true q
    · right; exact ⟨decide_eq_false q, decide_eq_true (by omega)⟩
  rcases h' with t1 | ⟨t1, t2⟩
  all_goals
    have hgen := sgen; have hgen2 := sgen2; have hgen3 := sgen3; go_enter Try.func35, Try.ntmps35
    go_wp2_with (go_at_call 29; (with_reducible refine (HC.out _ hs).mono ?_); rintro e w1 ⟨rfl, hb⟩; have hz := hb.size; (try simp only [World.size_alloc, World.size_setCell, World.size_drew, World.heap_drewN] at hz); (try have h_w_0 : w.heap.size < w1.heap.size := by omega); (try have e_w_0 : ¬ w.heap.size = w1.heap.size := by omega); (try have d_w_0 : ¬ w1.heap.size = w.heap.size := by omega); (try (refine bcUse (n := w.heap.size) hb ?_ ?_; (focus ((try simp only [World.size_alloc, World.size_setCell, World.size_drew, World.heap_drewN]); omega)); intro _ _)))
    go_ret2
    refine ⟨rfl, ?_⟩
    (repeat' (first | (with_reducible exact Below.refl _ _) | (with_reducible assumption) | (with_reducible refine Below.call ?_ ?_ (by with_reducible assumption)) | (with_reducible refine Below.alloc ?_ ?_ _) | (with_reducible refine Below.drew ?_) | (with_reducible refine below_drewN ?_ _) | (with_reducible refine Below.setCell ?_ ?_ _) | (with_reducible exact Nat.le_refl _) | omega | (simp only [World.size_alloc, World.size_setCell, World.size_drew, World.heap_drewN] at *; omega)))
theorem c_Tight_wo_no (n : Nat) (a : Option Addr) (c k : Nat) (l : List Bd) (w : World) (hk : k < l.length) (he : chErr n l = 0) (hno : okB n (wo l k) = false) (hc : l.length ≤ c) (hs : BdSlice w a (wo l k)) :
    Calls Try.prog 28 #[.int .i64 n, .slice a (l.length - 1) c] w fun e w' => e = .returned (.tuple #[.slice none 0 0, .int .i64 10]) ∧ Below w.heap.size w w' := by
  have h := c_Tight_no n a c (wo l k) w (by rw [wo_length l k hk]; omega) (chErr_wo he hk) (bdOk_at (chErr_wo he hk)) (okB_no hno) hs
  rw [wo_length l k hk] at h
  exact h
def TigIs (n : Nat) (D : Nat → Nat → Int) (w : World) (e : Ending) (w' : World) : Prop := ∃ a' cap', e = .returned (.tuple #[.slice a' n cap', .int .i64 0]) ∧ n ≤ cap' ∧ SpMat w' a' (tgt n D) ∧ Below w.heap.size w w'
theorem c_Tight_wo_ok (n : Nat) (a : Option Addr) (c k : Nat) (l : List Bd) (w : World) (hk : k < l.length) (he : chErr n l = 0) (hok : okB n (wo l k) = true) (hc : l.length ≤ c) (hs : BdSlice w a (wo l k)) :
    Calls Try.prog 28 #[.int .i64 n, .slice a (l.length - 1) c] w (TigIs n (fw (wo l k) n) w) := by
  have h := c_Tight_ok n a c (wo l k) w (by rw [wo_length l k hk]; omega) (chErr_wo he hk) (bdOk_at (chErr_wo he hk)) (okB_yes hok) hs
  rw [wo_length l k hk] at h
  exact h
theorem c_Imp_no (n : Nat) (b off cap k : Nat) (l : List Bd) (w : World) (hc : l.length ≤ cap) (he : chErr n l = 0) (hk : k < l.length) (hno : okB n (wo l k) = false) (hs : BdSlice w (some ⟨b, off, none⟩) l) (hb : b < w.heap.size) :
    Calls Try.prog 35 #[.int .i64 n, .slice (some ⟨b, off, none⟩) l.length cap, .int .i64 k] w fun e w' => e = .returned (.tuple #[.bool false, .int .i64 10]) ∧ Below w.heap.size w w' := by
  have hC := fun w1 hs1 => c_chCheck n (some ⟨b, off, none⟩) cap l w1 hc hs1
  rw [he] at hC
  have HC := Lib.hid hC
  have h40 := (chErr_parts he).2.1
  have HW := Lib.hid (fun w1 hs1 hb1 => c_without b off cap k l w1 hk (by omega) hs1 hb1)
  have HT := Lib.hid (fun w1 a c hc hs1 => c_Tight_wo_no n a c k l w1 hk he hno hc hs1)
  clear hC he hno
  have t1 : decide ((l.length : Int) ≤ (k : Int)) = false := decide_eq_false (by omega)
  have t2 : decide ((k : Int) < 0) = false := decide_eq_false (by omega)
  have t3 : decide (l.length ≤ k) = false := decide_eq_false (by omega)
  have hgen := sgen; have hgen2 := sgen2; have hgen3 := sgen3; go_enter Try.func35, Try.ntmps35
  go_wp2_with (go_at_call 29; (with_reducible refine (HC.out _ hs).mono ?_); rintro e w1 ⟨rfl, hb⟩; have hz := hb.size; (try simp only [World.size_alloc, World.size_setCell, World.size_drew, World.heap_drewN] at hz); (try have h_w_0 : w.heap.size < w1.heap.size := by omega); (try have e_w_0 : ¬ w.heap.size = w1.heap.size := by omega); (try have d_w_0 : ¬ w1.heap.size = w.heap.size := by omega); (try (refine bcUse (n := w.heap.size) hb ?_ ?_; (focus ((try simp only [World.size_alloc, World.size_setCell, World.size_drew, World.heap_drewN]); omega)); intro _ _)))
  have hb1 : Below w.heap.size w w1 := by (repeat' (first | (with_reducible exact Below.refl _ _) | (with_reducible assumption) | (with_reducible refine Below.call ?_ ?_ (by with_reducible assumption)) | (with_reducible refine Below.alloc ?_ ?_ _) | (with_reducible refine Below.drew ?_) | (with_reducible refine below_drewN ?_ _) | (with_reducible refine Below.setCell ?_ ?_ _) | (with_reducible exact Nat.le_refl _) | omega | (simp only [World.size_alloc, World.size_setCell, World.size_drew, World.heap_drewN] at *; omega)))
  refine (HW.out _ (hs.below (Nat.le_refl _) hb1) (by omega)).mono ?_
  rintro e w2 ⟨g, cap2, rfl, g1, g2, g3, g4, hb2⟩
  have hz2 := hb2.size
  have G4 := Lib.hid g4.slice
  clear g4
  go_wp2_with (go_at_call 28; (refine (HT.out _ _ _ g2 G4.out).mono ?_); rintro e w3 ⟨rfl, hb⟩; have hz := hb.size; (try simp only [World.size_alloc, World.size_setCell, World.size_drew, World.heap_drewN] at hz); (try have h_w_0 : w.heap.size < w3.heap.size := by omega); (try have e_w_0 : ¬ w.heap.size = w3.heap.size := by omega); (try have d_w_0 : ¬ w3.heap.size = w.heap.size := by omega); (try (refine bcUse (n := w.heap.size) hb ?_ ?_; (focus ((try simp only [World.size_alloc, World.size_setCell, World.size_drew, World.heap_drewN]); omega)); intro _ _)))
  go_ret2
  refine ⟨rfl, ?_⟩
  (repeat' (first | (with_reducible exact Below.refl _ _) | (with_reducible assumption) | (with_reducible refine Below.call ?_ ?_ (by with_reducible assumption)) | (with_reducible refine Below.alloc ?_ ?_ _) | (with_reducible refine Below.drew ?_) | (with_reducible refine below_drewN ?_ _) | (with_reducible refine Below.setCell ?_ ?_ _) | (with_reducible exact Nat.le_refl _) | omega | (simp only [World.size_alloc, World.size_setCell, World.size_drew, World.heap_drewN] at *; omega)))
theorem ret_bi {a b : Bool} {x : Int} (h : a = b) : Ending.returned (.tuple #[.bool a, .int .i64 x]) = .returned (.tuple #[.bool b, .int .i64 x]) := by rw [h]
set_option maxRecDepth 100000 in
set_option maxHeartbeats 2000000 in
theorem c_Imp_ok (n : Nat) (b off cap k p q : Nat) (lo hi : Int) (l : List Bd) (w : World) (hc : l.length ≤ cap) (he : chErr n l = 0) (hk : k < l.length) (hx : l[k] = ⟨p, q, lo, hi⟩) (hok : okB n (wo l k) = true) (hs : BdSlice w (some ⟨b, off, none⟩) l) (hb : b < w.heap.size) :
    Calls Try.prog 35 #[.int .i64 n, .slice (some ⟨b, off, none⟩) l.length cap, .int .i64 k] w fun e w' => e = .returned (.tuple #[.bool (decide (lo ≤ -(fw (wo l k) n q p)) && decide (fw (wo l k) n p q ≤ hi)), .int .i64 0]) ∧ Below w.heap.size w w' := by
  have hC := fun w1 hs1 => c_chCheck n (some ⟨b, off, none⟩) cap l w1 hc hs1
  rw [he] at hC
  have HC := Lib.hid hC
  have h40 := (chErr_parts he).2.1
  have hv := bdOk_at he
  have hmem : l[k] ∈ l := List.getElem_mem hk
  have hp : p < n := by have := hv.an _ hmem; rw [hx] at this; simp at this; omega
  have hq : q < n := by have := hv.bn _ hmem; rw [hx] at this; simp at this; omega
  have n12 := hv.n12
  have HW := Lib.hid (fun w1 hs1 hb1 => c_without b off cap k l w1 hk (by omega) hs1 hb1)
  have HT := Lib.hid (fun w1 a c hc hs1 => c_Tight_wo_ok n a c k l w1 hk he hok hc hs1)
  have HX := Lib.hid hx
  have HS := Lib.hid hs
  generalize fw (wo l k) n = D at *
  clear hC he hok hv hmem hx
  have t1 : decide ((l.length : Int) ≤ (k : Int)) = false := decide_eq_false (by omega)
  have t2 : decide ((k : Int) < 0) = false := decide_eq_false (by omega)
  have t3 : decide (l.length ≤ k) = false := decide_eq_false (by omega)
  have hkz : (k : Int) < (l.length : Int) := by omega
  have hgen := sgen; have hgen2 := sgen2; have hgen3 := sgen3; go_enter Try.func35, Try.ntmps35
  go_wp2_with (go_at_call 29; (with_reducible refine (HC.out _ hs).mono ?_); rintro e w1 ⟨rfl, hb⟩; have hz := hb.size; (try simp only [World.size_alloc, World.size_setCell, World.size_drew, World.heap_drewN] at hz); (try have h_w_0 : w.heap.size < w1.heap.size := by omega); (try have e_w_0 : ¬ w.heap.size = w1.heap.size := by omega); (try have d_w_0 : ¬ w1.heap.size = w.heap.size := by omega); (try (refine bcUse (n := w.heap.size) hb ?_ ?_; (focus ((try simp only [World.size_alloc, World.size_setCell, World.size_drew, World.heap_drewN]); omega)); intro _ _)))
  have hb1 : Below w.heap.size w w1 := by (repeat' (first | (with_reducible exact Below.refl _ _) | (with_reducible assumption) | (with_reducible refine Below.call ?_ ?_ (by with_reducible assumption)) | (with_reducible refine Below.alloc ?_ ?_ _) | (with_reducible refine Below.drew ?_) | (with_reducible refine below_drewN ?_ _) | (with_reducible refine Below.setCell ?_ ?_ _) | (with_reducible exact Nat.le_refl _) | omega | (simp only [World.size_alloc, World.size_setCell, World.size_drew, World.heap_drewN] at *; omega)))
  refine (HW.out _ (hs.below (Nat.le_refl _) hb1) (by omega)).mono ?_
  rintro e w2 ⟨g, cap2, rfl, g1, g2, g3, g4, hb2⟩
  have hz2 := hb2.size
  have G4 := Lib.hid g4.slice
  clear g4
  go_wp2_with fail
  refine (HT.out _ _ _ g2 G4.out).mono ?_
  rintro e w3 ⟨a3, cap3, rfl, hc3, hM, hb3⟩
  have hbw3 : Below w.heap.size w w3 := by (repeat' (first | (with_reducible exact Below.refl _ _) | (with_reducible assumption) | (with_reducible refine Below.call ?_ ?_ (by with_reducible assumption)) | (with_reducible refine Below.alloc ?_ ?_ _) | (with_reducible refine Below.drew ?_) | (with_reducible refine below_drewN ?_ _) | (with_reducible refine Below.setCell ?_ ?_ _) | (with_reducible exact Nat.le_refl _) | omega | (simp only [World.size_alloc, World.size_setCell, World.size_drew, World.heap_drewN] at *; omega)))
  have hz3 := hbw3.size
  obtain ⟨b', off', e', hb', c0, c1, c2, c3⟩ := (hs.below (Nat.le_refl _) hbw3) k hk
  simp at e'
  obtain ⟨rfl, rfl⟩ := e'
  rw [HX.out] at c0 c1 c2 c3
  obtain ⟨bt, ot, ra, rc, ha3, hbt, ct, hrc, hrow⟩ := hM p (by simpa [tgt] using hp)
  have hrp : (tgt n D)[p]'(by simpa [tgt] using hp) = rowT n D p := by simp [tgt]
  rw [hrp, rowT_length] at ct hrc
  rw [hrp] at hrow
  obtain ⟨br, or, hra, hbr, d0, d1⟩ := hrow q (by rw [rowT_length]; exact hq)
  rw [rowT_get] at d0 d1
  have ixT := @ix_Row a3 bt ot n cap3 p ha3 hp
  have ixR := @ix_SpE ra br or n rc q hra hq
  clear hs HS G4 hrow hrp ha3 hra hM HC HW HT HX
  have pz : (p : Int) < (n : Int) := by omega
  have qz : (q : Int) < (n : Int) := by omega
  have y0 := World.new_ne w3 _ c0
  have y1 := World.new_ne w3 _ ct
  have y2 := World.new_ne w3 _ d0
  go_wp2_with fail
  go_region_held3 (fun w' => w'.cell? ⟨b, off + k * 4, none⟩ = some (.int .i64 p) ∧ w'.cell? ⟨b, off + k * 4 + 1, none⟩ = some (.int .i64 q) ∧ w'.cell? ⟨b, off + k * 4 + 2, none⟩ = some (.int .i64 lo) ∧ w'.cell? ⟨b, off + k * 4 + 3, none⟩ = some (.int .i64 hi) ∧ w'.cell? ⟨bt, ot + p, none⟩ = some (.slice ra n rc) ∧ w'.cell? ⟨br, or + q * 2, none⟩ = some (.int .i64 (-(D q p))) ∧ w'.cell? ⟨br, or + q * 2 + 1, none⟩ = some (.int .i64 (D p q))) (refine ⟨?_, ?_, ?_, ?_, ?_, ?_, ?_⟩ <;> (first | (go_simp; done) | go_keep)) (fail)
  by_cases q1 : lo ≤ -(D q p)
  · have t4 : decide (lo ≤ -(D q p)) = true := decide_eq_true q1
    clear q1
    go_wp2_with fail
    go_quiet (fail)
    go_wp2_with fail
    go_ret2
    refine ⟨ret_bi (by rw [t4]; simp), ?_⟩
    (repeat' (first | (with_reducible exact Below.refl _ _) | (with_reducible assumption) | (with_reducible refine Below.call ?_ ?_ (by with_reducible assumption)) | (with_reducible refine Below.alloc ?_ ?_ _) | (with_reducible refine Below.drew ?_) | (with_reducible refine below_drewN ?_ _) | (with_reducible refine Below.setCell ?_ ?_ _) | (with_reducible exact Nat.le_refl _) | omega | (simp only [World.size_alloc, World.size_setCell, World.size_drew, World.heap_drewN] at *; omega)))
  · have t4 : decide (lo ≤ -(D q p)) = false := decide_eq_false q1
    clear q1
    go_wp2_with fail
    go_quiet (fail)
    go_wp2_with fail
    go_ret2
    refine ⟨ret_bi (by rw [t4]; simp), ?_⟩
    (repeat' (first | (with_reducible exact Below.refl _ _) | (with_reducible assumption) | (with_reducible refine Below.call ?_ ?_ (by with_reducible assumption)) | (with_reducible refine Below.alloc ?_ ?_ _) | (with_reducible refine Below.drew ?_) | (with_reducible refine below_drewN ?_ _) | (with_reducible refine Below.setCell ?_ ?_ _) | (with_reducible exact Nat.le_refl _) | omega | (simp only [World.size_alloc, World.size_setCell, World.size_drew, World.heap_drewN] at *; omega)))
end Go.Proofs.Ytdpddidfdifbhaa
