/- The walk through the law ContradictImplieds. -/
import Derived.Test.YtdpddidfdifbhaaWalkDrop
set_option linter.unusedVariables false
set_option linter.unusedSimpArgs false
namespace Go.Proofs.Ytdpddidfdifbhaa
open Go.RowKit
def ImpC (n : Int) (a : Option Addr) (cap : Nat) (k : Int) (l : List Bd) (b : Bool) (x : Int) : Prop := ∀ w1, BdSlice w1 a l → Calls Try.prog 35 #[.int .i64 n, .slice a l.length cap, .int .i64 k] w1 fun e w' => e = .returned (.tuple #[.bool b, .int .i64 x]) ∧ Below w1.heap.size w1 w'
def ErrC' (n : Int) (a : Option Addr) (cap : Nat) (l : List Bd) (x : Int) : Prop := ∀ w1, BdSlice w1 a l → Calls Try.prog 26 #[.int .i64 n, .slice a l.length cap] w1 fun e w' => e = .returned (.int .i64 x) ∧ Below w1.heap.size w1 w'
theorem walk_cti_bad (n : Int) (a : Option Addr) (cap : Nat) (k : Int) (l : List Bd) (w : World) (hs : BdSlice w a l) (x : Int) (hx : x ≠ 0) (HI : Hid (ImpC n a cap k l false x)) (HE : Hid (ErrC' n a cap l x)) :
    Calls Try.prog 10 #[.int .i64 n, .slice a l.length cap, .int .i64 k] w fun e w' => e = .returned (.bool true) ∧ Below w.heap.size w w' := by
  have h1 : (x != 0) = true := by simp [hx]
  have h2 : (x == 0) = false := by simp [hx]
  have h3 : (x == x) = true := by simp
  have hgen := sgen; have hgen2 := sgen2; have hgen3 := sgen3; go_enter Try.func10, Try.ntmps10
  go_wp2_with (first | (go_at_call 33; (with_reducible refine (c_contradictWorks _).mono ?_); rintro e w1 ⟨rfl, hb⟩; have hz := hb.size; (try simp only [World.size_alloc, World.size_setCell, World.size_drew, World.heap_drewN] at hz); (try have h_w_0 : w.heap.size < w1.heap.size := by omega); (try have e_w_0 : ¬ w.heap.size = w1.heap.size := by omega); (try have d_w_0 : ¬ w1.heap.size = w.heap.size := by omega); (try (refine bcUse (n := w.heap.size) hb ?_ ?_; (focus ((try simp only [World.size_alloc, World.size_setCell, World.size_drew, World.heap_drewN]); omega)); intro _ _))) | (go_at_call 35; (refine (HI.out _ (hs.below (Nat.le_refl _) (by (repeat' (first | (with_reducible exact Below.refl _ _) | (with_reducible assumption) | (with_reducible refine Below.call ?_ ?_ (by with_reducible assumption)) | (with_reducible refine Below.alloc ?_ ?_ _) | (with_reducible refine Below.drew ?_) | (with_reducible refine below_drewN ?_ _) | (with_reducible refine Below.setCell ?_ ?_ _) | (with_reducible exact Nat.le_refl _) | omega | (simp only [World.size_alloc, World.size_setCell, World.size_drew, World.heap_drewN] at *; omega)))))).mono ?_); rintro e w2 ⟨rfl, hb⟩; have hz := hb.size; (try simp only [World.size_alloc, World.size_setCell, World.size_drew, World.heap_drewN] at hz); (try have h_w_0 : w.heap.size < w2.heap.size := by omega); (try have e_w_0 : ¬ w.heap.size = w2.heap.size := by omega); (try have d_w_0 : ¬ w2.heap.size = w.heap.size := by omega); (try (refine bcUse (n := w.heap.size) hb ?_ ?_; (focus ((try simp only [World.size_alloc, World.size_setCell, World.size_drew, World.heap_drewN]); omega)); intro _ _)); (try have h_w1_0 : w1.heap.size < w2.heap.size := by omega); (try have e_w1_0 : ¬ w1.heap.size = w2.heap.size := by omega); (try have d_w1_0 : ¬ w2.heap.size = w1.heap.size := by omega); (try (refine bcUse (n := w1.heap.size) hb ?_ ?_; (focus ((try simp only [World.size_alloc, World.size_setCell, World.size_drew, World.heap_drewN]); omega)); intro _ _))) | (go_at_call 26; (refine (HE.out _ (hs.below (Nat.le_refl _) (by (repeat' (first | (with_reducible exact Below.refl _ _) | (with_reducible assumption) | (with_reducible refine Below.call ?_ ?_ (by with_reducible assumption)) | (with_reducible refine Below.alloc ?_ ?_ _) | (with_reducible refine Below.drew ?_) | (with_reducible refine below_drewN ?_ _) | (with_reducible refine Below.setCell ?_ ?_ _) | (with_reducible exact Nat.le_refl _) | omega | (simp only [World.size_alloc, World.size_setCell, World.size_drew, World.heap_drewN] at *; omega)))))).mono ?_); rintro e w3 ⟨rfl, hb⟩; have hz := hb.size; (try simp only [World.size_alloc, World.size_setCell, World.size_drew, World.heap_drewN] at hz); (try have h_w_0 : w.heap.size < w3.heap.size := by omega); (try have e_w_0 : ¬ w.heap.size = w3.heap.size := by omega); (try have d_w_0 : ¬ w3.heap.size = w.heap.size := by omega); (try (refine bcUse (n := w.heap.size) hb ?_ ?_; (focus ((try simp only [World.size_alloc, World.size_setCell, World.size_drew, World.heap_drewN]); omega)); intro _ _)); (try have h_w1_0 : w1.heap.size < w3.heap.size := by omega); (try have e_w1_0 : ¬ w1.heap.size = w3.heap.size := by omega); (try have d_w1_0 : ¬ w3.heap.size = w1.heap.size := by omega); (try (refine bcUse (n := w1.heap.size) hb ?_ ?_; (focus ((try simp only [World.size_alloc, World.size_setCell, World.size_drew, World.heap_drewN]); omega)); intro _ _)); (try have h_w2_0 : w2.heap.size < w3.heap.size := by omega); (try have e_w2_0 : ¬ w2.heap.size = w3.heap.size := by omega); (try have d_w2_0 : ¬ w3.heap.size = w2.heap.size := by omega); (try (refine bcUse (n := w2.heap.size) hb ?_ ?_; (focus ((try simp only [World.size_alloc, World.size_setCell, World.size_drew, World.heap_drewN]); omega)); intro _ _))))
  go_ret
  refine ⟨rfl, ?_⟩
  (repeat' (first | (with_reducible exact Below.refl _ _) | (with_reducible assumption) | (with_reducible refine Below.call ?_ ?_ (by with_reducible assumption)) | (with_reducible refine Below.alloc ?_ ?_ _) | (with_reducible refine Below.drew ?_) | (with_reducible refine below_drewN ?_ _) | (with_reducible refine Below.setCell ?_ ?_ _) | (with_reducible exact Nat.le_refl _) | omega | (simp only [World.size_alloc, World.size_setCell, World.size_drew, World.heap_drewN] at *; omega)))
theorem walk_cti_range (n : Int) (a : Option Addr) (cap : Nat) (k : Int) (l : List Bd) (w : World) (hs : BdSlice w a l) (hk : k < 0 ∨ (l.length : Int) ≤ k) (HI : Hid (ImpC n a cap k l false 3)) (HE : Hid (ErrC' n a cap l 0)) :
    Calls Try.prog 10 #[.int .i64 n, .slice a l.length cap, .int .i64 k] w fun e w' => e = .returned (.bool true) ∧ Below w.heap.size w w' := by
  have h' : decide (k < 0) = true ∨ (decide (k < 0) = false ∧ decide ((l.length : Int) ≤ k) = true) := by
    by_cases q : k < 0
    · left; exact decide_eq_true q
    · right; exact ⟨decide_eq_false q, decide_eq_true (by omega)⟩
  rcases h' with t1 | ⟨t1, t2⟩
  all_goals
    have hgen := sgen; have hgen2 := sgen2; have hgen3 := sgen3; go_enter Try.func10, Try.ntmps10
    go_wp2_with (first | (go_at_call 33; (with_reducible refine (c_contradictWorks _).mono ?_); rintro e w1 ⟨rfl, hb⟩; have hz := hb.size; (try simp only [World.size_alloc, World.size_setCell, World.size_drew, World.heap_drewN] at hz); (try have h_w_0 : w.heap.size < w1.heap.size := by omega); (try have e_w_0 : ¬ w.heap.size = w1.heap.size := by omega); (try have d_w_0 : ¬ w1.heap.size = w.heap.size := by omega); (try (refine bcUse (n := w.heap.size) hb ?_ ?_; (focus ((try simp only [World.size_alloc, World.size_setCell, World.size_drew, World.heap_drewN]); omega)); intro _ _))) | (go_at_call 35; (refine (HI.out _ (hs.below (Nat.le_refl _) (by (repeat' (first | (with_reducible exact Below.refl _ _) | (with_reducible assumption) | (with_reducible refine Below.call ?_ ?_ (by with_reducible assumption)) | (with_reducible refine Below.alloc ?_ ?_ _) | (with_reducible refine Below.drew ?_) | (with_reducible refine below_drewN ?_ _) | (with_reducible refine Below.setCell ?_ ?_ _) | (with_reducible exact Nat.le_refl _) | omega | (simp only [World.size_alloc, World.size_setCell, World.size_drew, World.heap_drewN] at *; omega)))))).mono ?_); rintro e w2 ⟨rfl, hb⟩; have hz := hb.size; (try simp only [World.size_alloc, World.size_setCell, World.size_drew, World.heap_drewN] at hz); (try have h_w_0 : w.heap.size < w2.heap.size := by omega); (try have e_w_0 : ¬ w.heap.size = w2.heap.size := by omega); (try have d_w_0 : ¬ w2.heap.size = w.heap.size := by omega); (try (refine bcUse (n := w.heap.size) hb ?_ ?_; (focus ((try simp only [World.size_alloc, World.size_setCell, World.size_drew, World.heap_drewN]); omega)); intro _ _)); (try have h_w1_0 : w1.heap.size < w2.heap.size := by omega); (try have e_w1_0 : ¬ w1.heap.size = w2.heap.size := by omega); (try have d_w1_0 : ¬ w2.heap.size = w1.heap.size := by omega); (try (refine bcUse (n := w1.heap.size) hb ?_ ?_; (focus ((try simp only [World.size_alloc, World.size_setCell, World.size_drew, World.heap_drewN]); omega)); intro _ _))) | (go_at_call 26; (refine (HE.out _ (hs.below (Nat.le_refl _) (by (repeat' (first | (with_reducible exact Below.refl _ _) | (with_reducible assumption) | (with_reducible refine Below.call ?_ ?_ (by with_reducible assumption)) | (with_reducible refine Below.alloc ?_ ?_ _) | (with_reducible refine Below.drew ?_) | (with_reducible refine below_drewN ?_ _) | (with_reducible refine Below.setCell ?_ ?_ _) | (with_reducible exact Nat.le_refl _) | omega | (simp only [World.size_alloc, World.size_setCell, World.size_drew, World.heap_drewN] at *; omega)))))).mono ?_); rintro e w3 ⟨rfl, hb⟩; have hz := hb.size; (try simp only [World.size_alloc, World.size_setCell, World.size_drew, World.heap_drewN] at hz); (try have h_w_0 : w.heap.size < w3.heap.size := by omega); (try have e_w_0 : ¬ w.heap.size = w3.heap.size := by omega); (try have d_w_0 : ¬ w3.heap.size = w.heap.size := by omega); (try (refine bcUse (n := w.heap.size) hb ?_ ?_; (focus ((try simp only [World.size_alloc, World.size_setCell, World.size_drew, World.heap_drewN]); omega)); intro _ _)); (try have h_w1_0 : w1.heap.size < w3.heap.size := by omega); (try have e_w1_0 : ¬ w1.heap.size = w3.heap.size := by omega); (try have d_w1_0 : ¬ w3.heap.size = w1.heap.size := by omega); (try (refine bcUse (n := w1.heap.size) hb ?_ ?_; (focus ((try simp only [World.size_alloc, World.size_setCell, World.size_drew, World.heap_drewN]); omega)); intro _ _)); (try have h_w2_0 : w2.heap.size < w3.heap.size := by omega); (try have e_w2_0 : ¬ w2.heap.size = w3.heap.size := by omega); (try have d_w2_0 : ¬ w3.heap.size = w2.heap.size := by omega); (try (refine bcUse (n := w2.heap.size) hb ?_ ?_; (focus ((try simp only [World.size_alloc, World.size_setCell, World.size_drew, World.heap_drewN]); omega)); intro _ _))))
    go_ret
    refine ⟨rfl, ?_⟩
    (repeat' (first | (with_reducible exact Below.refl _ _) | (with_reducible assumption) | (with_reducible refine Below.call ?_ ?_ (by with_reducible assumption)) | (with_reducible refine Below.alloc ?_ ?_ _) | (with_reducible refine Below.drew ?_) | (with_reducible refine below_drewN ?_ _) | (with_reducible refine Below.setCell ?_ ?_ _) | (with_reducible exact Nat.le_refl _) | omega | (simp only [World.size_alloc, World.size_setCell, World.size_drew, World.heap_drewN] at *; omega)))
set_option maxRecDepth 100000 in
set_option maxHeartbeats 2000000 in
theorem walk_cti_no (n : Nat) (a : Option Addr) (cap k : Nat) (l : List Bd) (w : World) (hs : BdSlice w a l) (hc : l.length ≤ cap) (he : chErr n l = 0) (hk : k < l.length) (hno : okB n (wo l k) = false) (HI : Hid (ImpC n a cap k l false 10)) (HE : Hid (ErrC' n a cap l 0)) :
    Calls Try.prog 10 #[.int .i64 n, .slice a l.length cap, .int .i64 k] w fun e w' => e = .returned (.bool true) ∧ Below w.heap.size w w' := by
  have t1 : decide ((l.length : Int) ≤ (k : Int)) = false := decide_eq_false (by omega)
  have t2 : decide ((k : Int) < 0) = false := decide_eq_false (by omega)
  have t3 : decide (l.length ≤ k) = false := decide_eq_false (by omega)
  have h40 := (chErr_parts he).2.1
  have HD := Lib.hid (fun w1 hs1 => c_drop a cap k l w1 hc hk h40 hs1)
  have HV := Lib.hid (fun w1 a c hc hs1 => c_solv_no n a c (wo l k) w1 hc (bdOk_at (chErr_wo he hk)) (okB_no hno) hs1)
  clear he hno
  have hgen := sgen; have hgen2 := sgen2; have hgen3 := sgen3; go_enter Try.func10, Try.ntmps10
  go_wp2_with (first | (go_at_call 33; (with_reducible refine (c_contradictWorks _).mono ?_); rintro e w1 ⟨rfl, hb⟩; have hz := hb.size; (try simp only [World.size_alloc, World.size_setCell, World.size_drew, World.heap_drewN] at hz); (try have h_w_0 : w.heap.size < w1.heap.size := by omega); (try have e_w_0 : ¬ w.heap.size = w1.heap.size := by omega); (try have d_w_0 : ¬ w1.heap.size = w.heap.size := by omega); (try (refine bcUse (n := w.heap.size) hb ?_ ?_; (focus ((try simp only [World.size_alloc, World.size_setCell, World.size_drew, World.heap_drewN]); omega)); intro _ _))) | (go_at_call 35; (refine (HI.out _ (hs.below (Nat.le_refl _) (by (repeat' (first | (with_reducible exact Below.refl _ _) | (with_reducible assumption) | (with_reducible refine Below.call ?_ ?_ (by with_reducible assumption)) | (with_reducible refine Below.alloc ?_ ?_ _) | (with_reducible refine Below.drew ?_) | (with_reducible refine below_drewN ?_ _) | (with_reducible refine Below.setCell ?_ ?_ _) | (with_reducible exact Nat.le_refl _) | omega | (simp only [World.size_alloc, World.size_setCell, World.size_drew, World.heap_drewN] at *; omega)))))).mono ?_); rintro e w2 ⟨rfl, hb⟩; have hz := hb.size; (try simp only [World.size_alloc, World.size_setCell, World.size_drew, World.heap_drewN] at hz); (try have h_w_0 : w.heap.size < w2.heap.size := by omega); (try have e_w_0 : ¬ w.heap.size = w2.heap.size := by omega); (try have d_w_0 : ¬ w2.heap.size = w.heap.size := by omega); (try (refine bcUse (n := w.heap.size) hb ?_ ?_; (focus ((try simp only [World.size_alloc, World.size_setCell, World.size_drew, World.heap_drewN]); omega)); intro _ _)); (try have h_w1_0 : w1.heap.size < w2.heap.size := by omega); (try have e_w1_0 : ¬ w1.heap.size = w2.heap.size := by omega); (try have d_w1_0 : ¬ w2.heap.size = w1.heap.size := by omega); (try (refine bcUse (n := w1.heap.size) hb ?_ ?_; (focus ((try simp only [World.size_alloc, World.size_setCell, World.size_drew, World.heap_drewN]); omega)); intro _ _))) | (go_at_call 26; (refine (HE.out _ (hs.below (Nat.le_refl _) (by (repeat' (first | (with_reducible exact Below.refl _ _) | (with_reducible assumption) | (with_reducible refine Below.call ?_ ?_ (by with_reducible assumption)) | (with_reducible refine Below.alloc ?_ ?_ _) | (with_reducible refine Below.drew ?_) | (with_reducible refine below_drewN ?_ _) | (with_reducible refine Below.setCell ?_ ?_ _) | (with_reducible exact Nat.le_refl _) | omega | (simp only [World.size_alloc, World.size_setCell, World.size_drew, World.heap_drewN] at *; omega)))))).mono ?_); rintro e w3 ⟨rfl, hb⟩; have hz := hb.size; (try simp only [World.size_alloc, World.size_setCell, World.size_drew, World.heap_drewN] at hz); (try have h_w_0 : w.heap.size < w3.heap.size := by omega); (try have e_w_0 : ¬ w.heap.size = w3.heap.size := by omega); (try have d_w_0 : ¬ w3.heap.size = w.heap.size := by omega); (try (refine bcUse (n := w.heap.size) hb ?_ ?_; (focus ((try simp only [World.size_alloc, World.size_setCell, World.size_drew, World.heap_drewN]); omega)); intro _ _)); (try have h_w1_0 : w1.heap.size < w3.heap.size := by omega); (try have e_w1_0 : ¬ w1.heap.size = w3.heap.size := by omega); (try have d_w1_0 : ¬ w3.heap.size = w1.heap.size := by omega); (try (refine bcUse (n := w1.heap.size) hb ?_ ?_; (focus ((try simp only [World.size_alloc, World.size_setCell, World.size_drew, World.heap_drewN]); omega)); intro _ _)); (try have h_w2_0 : w2.heap.size < w3.heap.size := by omega); (try have e_w2_0 : ¬ w2.heap.size = w3.heap.size := by omega); (try have d_w2_0 : ¬ w3.heap.size = w2.heap.size := by omega); (try (refine bcUse (n := w2.heap.size) hb ?_ ?_; (focus ((try simp only [World.size_alloc, World.size_setCell, World.size_drew, World.heap_drewN]); omega)); intro _ _))))
  have hb3 : Below w.heap.size w w3 := by (repeat' (first | (with_reducible exact Below.refl _ _) | (with_reducible assumption) | (with_reducible refine Below.call ?_ ?_ (by with_reducible assumption)) | (with_reducible refine Below.alloc ?_ ?_ _) | (with_reducible refine Below.drew ?_) | (with_reducible refine below_drewN ?_ _) | (with_reducible refine Below.setCell ?_ ?_ _) | (with_reducible exact Nat.le_refl _) | omega | (simp only [World.size_alloc, World.size_setCell, World.size_drew, World.heap_drewN] at *; omega)))
  have hz3 := hb3.size
  refine (HD.out _ (hs.below (Nat.le_refl _) hb3)).mono ?_
  rintro e w4 ⟨a4, c4, rfl, q1, q2, hb4⟩
  have hz4 := hb4.size
  have Q := Lib.hid q2
  clear q2
  go_wp2_with fail
  refine (HV.out _ _ _ q1 Q.out).mono ?_
  rintro e w5 ⟨rfl, hb5⟩
  go_wp2_with fail
  go_ret
  refine ⟨rfl, ?_⟩
  exact hb3.trans ((hb4.trans (hb5.mono hz4)).mono hz3)
set_option maxRecDepth 100000 in
set_option maxHeartbeats 4000000 in
theorem walk_cti_ok (n : Nat) (b off cap k p q : Nat) (lo hi : Int) (l : List Bd) (w : World) (hs : BdSlice w (some ⟨b, off, none⟩) l) (hc : l.length ≤ cap) (he : chErr n l = 0) (hk : k < l.length) (hx : l[k] = ⟨p, q, lo, hi⟩) (hok : okB n (wo l k) = true) (is : Bool) (his : is = (decide (lo ≤ -(fw (wo l k) n q p)) && decide (fw (wo l k) n p q ≤ hi))) (HI : Hid (ImpC n (some ⟨b, off, none⟩) cap k l is 0)) (HE : Hid (ErrC' n (some ⟨b, off, none⟩) cap l 0)) :
    Calls Try.prog 10 #[.int .i64 n, .slice (some ⟨b, off, none⟩) l.length cap, .int .i64 k] w fun e w' => e = .returned (.bool true) ∧ Below w.heap.size w w' := by
  have t1 : decide ((l.length : Int) ≤ (k : Int)) = false := decide_eq_false (by omega)
  have t2 : decide ((k : Int) < 0) = false := decide_eq_false (by omega)
  have t3 : decide (l.length ≤ k) = false := decide_eq_false (by omega)
  have h40 := (chErr_parts he).2.1
  have hv := bdOk_at he
  have hmem : l[k] ∈ l := List.getElem_mem hk
  have hp : p < n := by have := hv.an _ hmem; rw [hx] at this; simp at this; omega
  have hq : q < n := by have := hv.bn _ hmem; rw [hx] at this; simp at this; omega
  have n12 := hv.n12
  have hv' := bdOk_at (chErr_wo he hk)
  have HD := Lib.hid (fun w1 hs1 => c_drop (some ⟨b, off, none⟩) cap k l w1 hc hk h40 hs1)
  have HV := Lib.hid (fun w1 a c hc hs1 => c_solv_yes n a c (wo l k) w1 hc hv' (okB_yes hok) hs1)
  have HL := Lib.hid (fun w1 i a c hi hc hs1 => c_lg_ok n i a c (wo l k) w1 hc hv' (okB_yes hok) hi hs1)
  have l1 := fw_low12 hv' n12 q p
  have hle : fw (wo l k) n q p ≤ FAR := (good_fw hv' n (Nat.le_refl _) (fun m hm => okB_yes hok m hm)).far q p hq hp
  have hF : FAR = 1000000000 := rfl
  rw [hF] at hle
  have HX := Lib.hid hx
  have HS := Lib.hid hs
  generalize fw (wo l k) n = D at *
  have hcase : (is = true ∧ decide (D p q ≤ hi) = true ∧ decide (lo ≤ -(D q p)) = true) ∨ (is = false ∧ decide (D p q ≤ hi) = true ∧ decide (lo ≤ -(D q p)) = false) ∨ (is = false ∧ decide (D p q ≤ hi) = false) := by
    rw [his]
    cases decide (D p q ≤ hi) <;> cases decide (lo ≤ -(D q p)) <;> simp
  clear he hok hv hv' hmem hx hF his
  have hkz : (k : Int) < (l.length : Int) := by omega
  have pz : (p : Int) < (n : Int) := by omega
  have qz : (q : Int) < (n : Int) := by omega
  have ew : IntKind.i64.wrap (-(D q p)) = -(D q p) := IntWalk.i64_in _ (by omega)
  rcases hcase with ⟨rfl, t4, t5⟩ | ⟨rfl, t4, t5⟩ | ⟨rfl, t4⟩
  all_goals
    have hgen := sgen; have hgen2 := sgen2; have hgen3 := sgen3; go_enter Try.func10, Try.ntmps10
    go_wp2_with (first | (go_at_call 33; (with_reducible refine (c_contradictWorks _).mono ?_); rintro e w1 ⟨rfl, hb⟩; have hz := hb.size; (try simp only [World.size_alloc, World.size_setCell, World.size_drew, World.heap_drewN] at hz); (try have h_w_0 : w.heap.size < w1.heap.size := by omega); (try have e_w_0 : ¬ w.heap.size = w1.heap.size := by omega); (try have d_w_0 : ¬ w1.heap.size = w.heap.size := by omega); (try (refine bcUse (n := w.heap.size) hb ?_ ?_; (focus ((try simp only [World.size_alloc, World.size_setCell, World.size_drew, World.heap_drewN]); omega)); intro _ _))) | (go_at_call 35; (refine (HI.out _ (hs.below (Nat.le_refl _) (by (repeat' (first | (with_reducible exact Below.refl _ _) | (with_reducible assumption) | (with_reducible refine Below.call ?_ ?_ (by with_reducible assumption)) | (with_reducible refine Below.alloc ?_ ?_ _) | (with_reducible refine Below.drew ?_) | (with_reducible refine below_drewN ?_ _) | (with_reducible refine Below.setCell ?_ ?_ _) | (with_reducible exact Nat.le_refl _) | omega | (simp only [World.size_alloc, World.size_setCell, World.size_drew, World.heap_drewN] at *; omega)))))).mono ?_); rintro e w2 ⟨rfl, hb⟩; have hz := hb.size; (try simp only [World.size_alloc, World.size_setCell, World.size_drew, World.heap_drewN] at hz); (try have h_w_0 : w.heap.size < w2.heap.size := by omega); (try have e_w_0 : ¬ w.heap.size = w2.heap.size := by omega); (try have d_w_0 : ¬ w2.heap.size = w.heap.size := by omega); (try (refine bcUse (n := w.heap.size) hb ?_ ?_; (focus ((try simp only [World.size_alloc, World.size_setCell, World.size_drew, World.heap_drewN]); omega)); intro _ _)); (try have h_w1_0 : w1.heap.size < w2.heap.size := by omega); (try have e_w1_0 : ¬ w1.heap.size = w2.heap.size := by omega); (try have d_w1_0 : ¬ w2.heap.size = w1.heap.size := by omega); (try (refine bcUse (n := w1.heap.size) hb ?_ ?_; (focus ((try simp only [World.size_alloc, World.size_setCell, World.size_drew, World.heap_drewN]); omega)); intro _ _))) | (go_at_call 26; (refine (HE.out _ (hs.below (Nat.le_refl _) (by (repeat' (first | (with_reducible exact Below.refl _ _) | (with_reducible assumption) | (with_reducible refine Below.call ?_ ?_ (by with_reducible assumption)) | (with_reducible refine Below.alloc ?_ ?_ _) | (with_reducible refine Below.drew ?_) | (with_reducible refine below_drewN ?_ _) | (with_reducible refine Below.setCell ?_ ?_ _) | (with_reducible exact Nat.le_refl _) | omega | (simp only [World.size_alloc, World.size_setCell, World.size_drew, World.heap_drewN] at *; omega)))))).mono ?_); rintro e w3 ⟨rfl, hb⟩; have hz := hb.size; (try simp only [World.size_alloc, World.size_setCell, World.size_drew, World.heap_drewN] at hz); (try have h_w_0 : w.heap.size < w3.heap.size := by omega); (try have e_w_0 : ¬ w.heap.size = w3.heap.size := by omega); (try have d_w_0 : ¬ w3.heap.size = w.heap.size := by omega); (try (refine bcUse (n := w.heap.size) hb ?_ ?_; (focus ((try simp only [World.size_alloc, World.size_setCell, World.size_drew, World.heap_drewN]); omega)); intro _ _)); (try have h_w1_0 : w1.heap.size < w3.heap.size := by omega); (try have e_w1_0 : ¬ w1.heap.size = w3.heap.size := by omega); (try have d_w1_0 : ¬ w3.heap.size = w1.heap.size := by omega); (try (refine bcUse (n := w1.heap.size) hb ?_ ?_; (focus ((try simp only [World.size_alloc, World.size_setCell, World.size_drew, World.heap_drewN]); omega)); intro _ _)); (try have h_w2_0 : w2.heap.size < w3.heap.size := by omega); (try have e_w2_0 : ¬ w2.heap.size = w3.heap.size := by omega); (try have d_w2_0 : ¬ w3.heap.size = w2.heap.size := by omega); (try (refine bcUse (n := w2.heap.size) hb ?_ ?_; (focus ((try simp only [World.size_alloc, World.size_setCell, World.size_drew, World.heap_drewN]); omega)); intro _ _))))
    have hb3 : Below w.heap.size w w3 := by (repeat' (first | (with_reducible exact Below.refl _ _) | (with_reducible assumption) | (with_reducible refine Below.call ?_ ?_ (by with_reducible assumption)) | (with_reducible refine Below.alloc ?_ ?_ _) | (with_reducible refine Below.drew ?_) | (with_reducible refine below_drewN ?_ _) | (with_reducible refine Below.setCell ?_ ?_ _) | (with_reducible exact Nat.le_refl _) | omega | (simp only [World.size_alloc, World.size_setCell, World.size_drew, World.heap_drewN] at *; omega)))
    have hz3 := hb3.size
    refine (HD.out _ (hs.below (Nat.le_refl _) hb3)).mono ?_
    rintro e w4 ⟨a4, c4, rfl, q1, q2, hb4⟩
    have hz4 := hb4.size
    have Q := Lib.hid q2
    clear q2
    go_wp2_with fail
    refine (HV.out _ _ _ q1 Q.out).mono ?_
    rintro e w5 ⟨rfl, hb5⟩
    have hz5 := hb5.size
    have hbw5 : Below w.heap.size w w5 := hb3.trans ((hb4.trans (hb5.mono hz4)).mono hz3)
    have hzw5 := hbw5.size
    obtain ⟨b', off', e', hb', c0, c1, c2, c3⟩ := (hs.below (Nat.le_refl _) hbw5) k hk
    simp at e'
    obtain ⟨rfl, rfl⟩ := e'
    rw [HX.out] at c0 c1 c2 c3
    simp only at c0 c1 c2 c3
    clear hs
    go_wp2_with fail
    refine (HL.out _ p _ _ hp q1 (Q.out.below (Nat.le_refl _) hb5)).mono ?_
    rintro e w6 ⟨rfl, hv6, hb6⟩
    have hz6 := hb6.size
    have V6 := Lib.hid hv6
    clear hv6
    refine bcUse (n := b) hb6 hb' ?_
    intro k6 _
    go_wp2_with fail
    refine (HL.out _ q _ _ hq q1 (Q.out.below (Nat.le_refl _) (hb5.trans (hb6.mono hz5)))).mono ?_
    rintro e w7 ⟨rfl, hv7, hb7⟩
    have hz7 := hb7.size
    have hb'6 : b < w6.heap.size := by omega
    refine bcUse (n := b) hb7 hb'6 ?_
    intro k7 _
    have d1 := (V6.out.below hb7).cell hq
    have d2 := hv7.cell hp
    clear hv7 V6
    have hbw7 : Below w.heap.size w w7 := hbw5.trans ((hb6.trans (hb7.mono hz6)).mono hzw5)
    go_wp2_with fail
    go_quiet (fail)
    go_wp2_with fail
    go_ret
    refine ⟨rfl, ?_⟩
    (repeat' (first | (with_reducible exact Below.refl _ _) | (with_reducible assumption) | (with_reducible refine Below.call ?_ ?_ (by with_reducible assumption)) | (with_reducible refine Below.alloc ?_ ?_ _) | (with_reducible refine Below.drew ?_) | (with_reducible refine below_drewN ?_ _) | (with_reducible refine Below.setCell ?_ ?_ _) | (with_reducible exact Nat.le_refl _) | omega | (simp only [World.size_alloc, World.size_setCell, World.size_drew, World.heap_drewN] at *; omega)))
theorem walk_cti (n : Int) (a : Option Addr) (len cap : Nat) (k : Int) (l : List Bd) (w : World) (hlen : l.length = len) (hc : len ≤ cap) (hs : BdSlice w a l) :
    Calls Try.prog 10 #[.int .i64 n, .slice a len cap, .int .i64 k] w fun e w' => e = .returned (.bool true) ∧ Below w.heap.size w w' := by
  subst hlen
  have HE := Lib.hid (fun w1 hs1 => c_refChErr n a cap l w1 hc hs1 : ErrC' n a cap l (chErr n l))
  by_cases he : chErr n l = 0
  · rw [he] at HE
    by_cases hk : k < 0 ∨ (l.length : Int) ≤ k
    · exact walk_cti_range n a cap k l w hs hk (Lib.hid fun w1 hs1 => c_Imp_range n a cap k l w1 hc he hk hs1) HE
    · obtain ⟨m, rfl, hv⟩ := bdOk_of he
      obtain ⟨q, rfl⟩ : ∃ q : Nat, k = q := ⟨k.toNat, by omega⟩
      have hq : q < l.length := by omega
      obtain ⟨b, off, rfl, hb, _⟩ := hs q hq
      cases hok : okB m (wo l q)
      · exact walk_cti_no m _ cap q l w hs hc he hq hok (Lib.hid fun w1 hs1 => c_Imp_no m b off cap q l w1 hc he hq hok hs1 (by obtain ⟨b', off', e', hb', _⟩ := hs1 q hq; simp at e'; obtain ⟨rfl, _⟩ := e'; exact hb')) HE
      · have hmem : l[q] ∈ l := List.getElem_mem hq
        have v1 := hv.a0 _ hmem
        have v2 := hv.b0 _ hmem
        obtain ⟨x, hx⟩ : ∃ x, l[q] = x := ⟨_, rfl⟩
        rw [hx] at v1 v2
        obtain ⟨xa, xb, lo, hi⟩ := x
        simp only at v1 v2
        obtain ⟨p, rfl⟩ : ∃ p : Nat, xa = p := ⟨xa.toNat, by omega⟩
        obtain ⟨r, rfl⟩ : ∃ r : Nat, xb = r := ⟨xb.toNat, by omega⟩
        exact walk_cti_ok m b off cap q p r lo hi l w hs hc he hq hx hok _ rfl (Lib.hid fun w1 hs1 => c_Imp_ok m b off cap q p r lo hi l w1 hc he hq hx hok hs1 (by obtain ⟨b', off', e', hb', _⟩ := hs1 q hq; simp at e'; obtain ⟨rfl, _⟩ := e'; exact hb')) HE
  · exact walk_cti_bad n a cap k l w hs _ he (Lib.hid fun w1 hs1 => c_Imp_bad n a cap k l w1 hc he hs1) HE
end Go.Proofs.Ytdpddidfdifbhaa
