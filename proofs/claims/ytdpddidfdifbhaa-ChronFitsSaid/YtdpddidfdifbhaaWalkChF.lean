/- The walk through the law ChronFits. -/
import Derived.Test.YtdpddidfdifbhaaWalkChw
import Derived.Test.YtdpddidfdifbhaaWalkFits
import Derived.Test.YtdpddidfdifbhaaWalkBey
set_option linter.unusedVariables false
set_option linter.unusedSimpArgs false
namespace Go.Proofs.Ytdpddidfdifbhaa
open Go.RowKit
def FitC (n : Int) (a a2 : Option Addr) (cap cap2 : Nat) (l : List Bd) (ds : List Int) (b : Bool) (x : Int) : Prop := ∀ w1, BdSlice w1 a l → IntSlice w1 a2 ds → Calls Try.prog 25 #[.int .i64 n, .slice a l.length cap, .slice a2 ds.length cap2] w1 fun e w' => e = .returned (.tuple #[.bool b, .int .i64 x]) ∧ Below w1.heap.size w1 w'
def ErrC (n : Int) (a : Option Addr) (cap : Nat) (l : List Bd) (x : Int) : Prop := ∀ w1, BdSlice w1 a l → Calls Try.prog 26 #[.int .i64 n, .slice a l.length cap] w1 fun e w' => e = .returned (.int .i64 x) ∧ Below w1.heap.size w1 w'
/-- An error ahead of the days. -/
theorem walk_cf_err (n : Int) (a a2 : Option Addr) (cap cap2 : Nat) (l : List Bd) (ds : List Int) (w : World) (hm2 : ds.length ≤ 9223372036854775807) (hs : BdSlice w a l) (hs2 : IntSlice w a2 ds) (x0 x : Int) (hx : x ≠ 0) (h0 : (x0 = x) ∨ (x0 = 0 ∧ (ds.length : Int) ≠ n ∧ x = 8)) (HF : Hid (FitC n a a2 cap cap2 l ds false x)) (HE : Hid (ErrC n a cap l x0)) :
    Calls Try.prog 6 #[.int .i64 n, .slice a l.length cap, .slice a2 ds.length cap2] w fun e w' => e = .returned (.bool true) ∧ Below w.heap.size w w' := by
  have h1 : (x != 0) = true := by simp [hx]
  have h2 : (x == 0) = false := by simp [hx]
  have h3 : (x == x) = true := by simp
  rcases h0 with rfl | ⟨rfl, hl, rfl⟩
  · have hgen := sgen; have hgen2 := sgen2; have hgen3 := sgen3; go_enter Try.func6, Try.ntmps6
    go_wp2_with (first | (go_at_call 24; refine (c_chronWorks _).mono ?_; rintro e w1 ⟨rfl, hb⟩; have hz := hb.size; (try simp only [World.size_alloc, World.size_setCell, World.size_drew, World.heap_drewN] at hz); (try have h_w_0 : w.heap.size < w1.heap.size := by omega); (try have e_w_0 : ¬ w.heap.size = w1.heap.size := by omega); (try have d_w_0 : ¬ w1.heap.size = w.heap.size := by omega); (try (refine bcUse (n := w.heap.size) hb ?_ ?_; (focus ((try simp only [World.size_alloc, World.size_setCell, World.size_drew, World.heap_drewN]); omega)); intro _ _))) | (go_at_call 25; refine (HF.out _ (hs.below (Nat.le_refl _) (by (repeat' (first | (with_reducible exact Below.refl _ _) | (with_reducible assumption) | (with_reducible refine Below.call ?_ ?_ (by with_reducible assumption)) | (with_reducible refine Below.alloc ?_ ?_ _) | (with_reducible refine Below.drew ?_) | (with_reducible refine below_drewN ?_ _) | (with_reducible refine Below.setCell ?_ ?_ _) | (with_reducible exact Nat.le_refl _) | omega | (simp only [World.size_alloc, World.size_setCell, World.size_drew, World.heap_drewN] at *; omega))))) (hs2.below (Nat.le_refl _) (by (repeat' (first | (with_reducible exact Below.refl _ _) | (with_reducible assumption) | (with_reducible refine Below.call ?_ ?_ (by with_reducible assumption)) | (with_reducible refine Below.alloc ?_ ?_ _) | (with_reducible refine Below.drew ?_) | (with_reducible refine below_drewN ?_ _) | (with_reducible refine Below.setCell ?_ ?_ _) | (with_reducible exact Nat.le_refl _) | omega | (simp only [World.size_alloc, World.size_setCell, World.size_drew, World.heap_drewN] at *; omega)))))).mono ?_; rintro e w2 ⟨rfl, hb⟩; have hz := hb.size; (try simp only [World.size_alloc, World.size_setCell, World.size_drew, World.heap_drewN] at hz); (try have h_w_0 : w.heap.size < w2.heap.size := by omega); (try have e_w_0 : ¬ w.heap.size = w2.heap.size := by omega); (try have d_w_0 : ¬ w2.heap.size = w.heap.size := by omega); (try (refine bcUse (n := w.heap.size) hb ?_ ?_; (focus ((try simp only [World.size_alloc, World.size_setCell, World.size_drew, World.heap_drewN]); omega)); intro _ _)); (try have h_w1_0 : w1.heap.size < w2.heap.size := by omega); (try have e_w1_0 : ¬ w1.heap.size = w2.heap.size := by omega); (try have d_w1_0 : ¬ w2.heap.size = w1.heap.size := by omega); (try (refine bcUse (n := w1.heap.size) hb ?_ ?_; (focus ((try simp only [World.size_alloc, World.size_setCell, World.size_drew, World.heap_drewN]); omega)); intro _ _))) | (go_at_call 26; refine (HE.out _ (hs.below (Nat.le_refl _) (by (repeat' (first | (with_reducible exact Below.refl _ _) | (with_reducible assumption) | (with_reducible refine Below.call ?_ ?_ (by with_reducible assumption)) | (with_reducible refine Below.alloc ?_ ?_ _) | (with_reducible refine Below.drew ?_) | (with_reducible refine below_drewN ?_ _) | (with_reducible refine Below.setCell ?_ ?_ _) | (with_reducible exact Nat.le_refl _) | omega | (simp only [World.size_alloc, World.size_setCell, World.size_drew, World.heap_drewN] at *; omega)))))).mono ?_; rintro e w3 ⟨rfl, hb⟩; have hz := hb.size; (try simp only [World.size_alloc, World.size_setCell, World.size_drew, World.heap_drewN] at hz); (try have h_w_0 : w.heap.size < w3.heap.size := by omega); (try have e_w_0 : ¬ w.heap.size = w3.heap.size := by omega); (try have d_w_0 : ¬ w3.heap.size = w.heap.size := by omega); (try (refine bcUse (n := w.heap.size) hb ?_ ?_; (focus ((try simp only [World.size_alloc, World.size_setCell, World.size_drew, World.heap_drewN]); omega)); intro _ _)); (try have h_w1_0 : w1.heap.size < w3.heap.size := by omega); (try have e_w1_0 : ¬ w1.heap.size = w3.heap.size := by omega); (try have d_w1_0 : ¬ w3.heap.size = w1.heap.size := by omega); (try (refine bcUse (n := w1.heap.size) hb ?_ ?_; (focus ((try simp only [World.size_alloc, World.size_setCell, World.size_drew, World.heap_drewN]); omega)); intro _ _)); (try have h_w2_0 : w2.heap.size < w3.heap.size := by omega); (try have e_w2_0 : ¬ w2.heap.size = w3.heap.size := by omega); (try have d_w2_0 : ¬ w3.heap.size = w2.heap.size := by omega); (try (refine bcUse (n := w2.heap.size) hb ?_ ?_; (focus ((try simp only [World.size_alloc, World.size_setCell, World.size_drew, World.heap_drewN]); omega)); intro _ _))))
    have hbw3 : Below w.heap.size w w3 := by (repeat' (first | (with_reducible exact Below.refl _ _) | (with_reducible assumption) | (with_reducible refine Below.call ?_ ?_ (by with_reducible assumption)) | (with_reducible refine Below.alloc ?_ ?_ _) | (with_reducible refine Below.drew ?_) | (with_reducible refine below_drewN ?_ _) | (with_reducible refine Below.setCell ?_ ?_ _) | (with_reducible exact Nat.le_refl _) | omega | (simp only [World.size_alloc, World.size_setCell, World.size_drew, World.heap_drewN] at *; omega)))
    go_loopg [9, 37] ds.length (fun gk x9 i wr => ∃ k : Nat, gk + k = ds.length ∧ i = .int .i64 k ∧ x9 = .int .i64 x0 ∧ Below w.heap.size w wr)
    case atStart => exact ⟨0, by omega, rfl, rfl, hbw3⟩
    case round =>
      obtain ⟨k, hk, rfl, rfl, hbel⟩ := hrel
      by_cases hlt : k < ds.length
      · obtain ⟨b, off, ha, hb1, c0⟩ := (hs2.below (Nat.le_refl _) hbel) k hlt
        have ix1 := @ix_Int a2 b off ds.length cap2 k ha hlt
        clear ha
        go_wp2
        go_roundg (ds.length - (k + 1))
        case measure => omega
        case rel => exact ⟨k + 1, by omega, by go_num, rfl, hbel⟩
      · go_wp2
        go_ret
        exact ⟨rfl, hbel⟩
  · have h4 : ((ds.length : Int) != n) = true := by simp [hl]
    clear hl
    have hgen := sgen; have hgen2 := sgen2; have hgen3 := sgen3; go_enter Try.func6, Try.ntmps6
    go_wp2_with (first | (go_at_call 24; refine (c_chronWorks _).mono ?_; rintro e w1 ⟨rfl, hb⟩; have hz := hb.size; (try simp only [World.size_alloc, World.size_setCell, World.size_drew, World.heap_drewN] at hz); (try have h_w_0 : w.heap.size < w1.heap.size := by omega); (try have e_w_0 : ¬ w.heap.size = w1.heap.size := by omega); (try have d_w_0 : ¬ w1.heap.size = w.heap.size := by omega); (try (refine bcUse (n := w.heap.size) hb ?_ ?_; (focus ((try simp only [World.size_alloc, World.size_setCell, World.size_drew, World.heap_drewN]); omega)); intro _ _))) | (go_at_call 25; refine (HF.out _ (hs.below (Nat.le_refl _) (by (repeat' (first | (with_reducible exact Below.refl _ _) | (with_reducible assumption) | (with_reducible refine Below.call ?_ ?_ (by with_reducible assumption)) | (with_reducible refine Below.alloc ?_ ?_ _) | (with_reducible refine Below.drew ?_) | (with_reducible refine below_drewN ?_ _) | (with_reducible refine Below.setCell ?_ ?_ _) | (with_reducible exact Nat.le_refl _) | omega | (simp only [World.size_alloc, World.size_setCell, World.size_drew, World.heap_drewN] at *; omega))))) (hs2.below (Nat.le_refl _) (by (repeat' (first | (with_reducible exact Below.refl _ _) | (with_reducible assumption) | (with_reducible refine Below.call ?_ ?_ (by with_reducible assumption)) | (with_reducible refine Below.alloc ?_ ?_ _) | (with_reducible refine Below.drew ?_) | (with_reducible refine below_drewN ?_ _) | (with_reducible refine Below.setCell ?_ ?_ _) | (with_reducible exact Nat.le_refl _) | omega | (simp only [World.size_alloc, World.size_setCell, World.size_drew, World.heap_drewN] at *; omega)))))).mono ?_; rintro e w2 ⟨rfl, hb⟩; have hz := hb.size; (try simp only [World.size_alloc, World.size_setCell, World.size_drew, World.heap_drewN] at hz); (try have h_w_0 : w.heap.size < w2.heap.size := by omega); (try have e_w_0 : ¬ w.heap.size = w2.heap.size := by omega); (try have d_w_0 : ¬ w2.heap.size = w.heap.size := by omega); (try (refine bcUse (n := w.heap.size) hb ?_ ?_; (focus ((try simp only [World.size_alloc, World.size_setCell, World.size_drew, World.heap_drewN]); omega)); intro _ _)); (try have h_w1_0 : w1.heap.size < w2.heap.size := by omega); (try have e_w1_0 : ¬ w1.heap.size = w2.heap.size := by omega); (try have d_w1_0 : ¬ w2.heap.size = w1.heap.size := by omega); (try (refine bcUse (n := w1.heap.size) hb ?_ ?_; (focus ((try simp only [World.size_alloc, World.size_setCell, World.size_drew, World.heap_drewN]); omega)); intro _ _))) | (go_at_call 26; refine (HE.out _ (hs.below (Nat.le_refl _) (by (repeat' (first | (with_reducible exact Below.refl _ _) | (with_reducible assumption) | (with_reducible refine Below.call ?_ ?_ (by with_reducible assumption)) | (with_reducible refine Below.alloc ?_ ?_ _) | (with_reducible refine Below.drew ?_) | (with_reducible refine below_drewN ?_ _) | (with_reducible refine Below.setCell ?_ ?_ _) | (with_reducible exact Nat.le_refl _) | omega | (simp only [World.size_alloc, World.size_setCell, World.size_drew, World.heap_drewN] at *; omega)))))).mono ?_; rintro e w3 ⟨rfl, hb⟩; have hz := hb.size; (try simp only [World.size_alloc, World.size_setCell, World.size_drew, World.heap_drewN] at hz); (try have h_w_0 : w.heap.size < w3.heap.size := by omega); (try have e_w_0 : ¬ w.heap.size = w3.heap.size := by omega); (try have d_w_0 : ¬ w3.heap.size = w.heap.size := by omega); (try (refine bcUse (n := w.heap.size) hb ?_ ?_; (focus ((try simp only [World.size_alloc, World.size_setCell, World.size_drew, World.heap_drewN]); omega)); intro _ _)); (try have h_w1_0 : w1.heap.size < w3.heap.size := by omega); (try have e_w1_0 : ¬ w1.heap.size = w3.heap.size := by omega); (try have d_w1_0 : ¬ w3.heap.size = w1.heap.size := by omega); (try (refine bcUse (n := w1.heap.size) hb ?_ ?_; (focus ((try simp only [World.size_alloc, World.size_setCell, World.size_drew, World.heap_drewN]); omega)); intro _ _)); (try have h_w2_0 : w2.heap.size < w3.heap.size := by omega); (try have e_w2_0 : ¬ w2.heap.size = w3.heap.size := by omega); (try have d_w2_0 : ¬ w3.heap.size = w2.heap.size := by omega); (try (refine bcUse (n := w2.heap.size) hb ?_ ?_; (focus ((try simp only [World.size_alloc, World.size_setCell, World.size_drew, World.heap_drewN]); omega)); intro _ _))))
    have hbw3 : Below w.heap.size w w3 := by (repeat' (first | (with_reducible exact Below.refl _ _) | (with_reducible assumption) | (with_reducible refine Below.call ?_ ?_ (by with_reducible assumption)) | (with_reducible refine Below.alloc ?_ ?_ _) | (with_reducible refine Below.drew ?_) | (with_reducible refine below_drewN ?_ _) | (with_reducible refine Below.setCell ?_ ?_ _) | (with_reducible exact Nat.le_refl _) | omega | (simp only [World.size_alloc, World.size_setCell, World.size_drew, World.heap_drewN] at *; omega)))
    go_loopg [9, 37] ds.length (fun gk x9 i wr => ∃ k : Nat, gk + k = ds.length ∧ i = .int .i64 k ∧ x9 = .int .i64 8 ∧ Below w.heap.size w wr)
    case atStart => exact ⟨0, by omega, rfl, rfl, hbw3⟩
    case round =>
      obtain ⟨k, hk, rfl, rfl, hbel⟩ := hrel
      by_cases hlt : k < ds.length
      · obtain ⟨b, off, ha, hb1, c0⟩ := (hs2.below (Nat.le_refl _) hbel) k hlt
        have ix1 := @ix_Int a2 b off ds.length cap2 k ha hlt
        clear ha
        go_wp2
        go_roundg (ds.length - (k + 1))
        case measure => omega
        case rel => exact ⟨k + 1, by omega, by go_num, rfl, hbel⟩
      · go_wp2
        go_ret
        exact ⟨rfl, hbel⟩
/-- A day out of range. -/
theorem walk_cf_range (n : Nat) (a a2 : Option Addr) (cap cap2 : Nat) (l : List Bd) (ds : List Int) (w : World) (hl : ds.length = n) (n12 : n ≤ 12) (hs : BdSlice w a l) (hs2 : IntSlice w a2 ds) (hb : anyBey ds = true) (HF : Hid (FitC n a a2 cap cap2 l ds false 3)) (HE : Hid (ErrC n a cap l 0)) :
    Calls Try.prog 6 #[.int .i64 n, .slice a l.length cap, .slice a2 n cap2] w fun e w' => e = .returned (.bool true) ∧ Below w.heap.size w w' := by
  subst hl
  have HB := Lib.hid hb
  have h2 : (ds.length : Int) ≤ 12 := by omega
  have h4 : ((ds.length : Int) != (ds.length : Int)) = false := by simp
  clear hb
  have hgen := sgen; have hgen2 := sgen2; have hgen3 := sgen3; go_enter Try.func6, Try.ntmps6
  go_wp2_with (first | (go_at_call 24; refine (c_chronWorks _).mono ?_; rintro e w1 ⟨rfl, hb⟩; have hz := hb.size; (try simp only [World.size_alloc, World.size_setCell, World.size_drew, World.heap_drewN] at hz); (try have h_w_0 : w.heap.size < w1.heap.size := by omega); (try have e_w_0 : ¬ w.heap.size = w1.heap.size := by omega); (try have d_w_0 : ¬ w1.heap.size = w.heap.size := by omega); (try (refine bcUse (n := w.heap.size) hb ?_ ?_; (focus ((try simp only [World.size_alloc, World.size_setCell, World.size_drew, World.heap_drewN]); omega)); intro _ _))) | (go_at_call 25; refine (HF.out _ (hs.below (Nat.le_refl _) (by (repeat' (first | (with_reducible exact Below.refl _ _) | (with_reducible assumption) | (with_reducible refine Below.call ?_ ?_ (by with_reducible assumption)) | (with_reducible refine Below.alloc ?_ ?_ _) | (with_reducible refine Below.drew ?_) | (with_reducible refine below_drewN ?_ _) | (with_reducible refine Below.setCell ?_ ?_ _) | (with_reducible exact Nat.le_refl _) | omega | (simp only [World.size_alloc, World.size_setCell, World.size_drew, World.heap_drewN] at *; omega))))) (hs2.below (Nat.le_refl _) (by (repeat' (first | (with_reducible exact Below.refl _ _) | (with_reducible assumption) | (with_reducible refine Below.call ?_ ?_ (by with_reducible assumption)) | (with_reducible refine Below.alloc ?_ ?_ _) | (with_reducible refine Below.drew ?_) | (with_reducible refine below_drewN ?_ _) | (with_reducible refine Below.setCell ?_ ?_ _) | (with_reducible exact Nat.le_refl _) | omega | (simp only [World.size_alloc, World.size_setCell, World.size_drew, World.heap_drewN] at *; omega)))))).mono ?_; rintro e w2 ⟨rfl, hb⟩; have hz := hb.size; (try simp only [World.size_alloc, World.size_setCell, World.size_drew, World.heap_drewN] at hz); (try have h_w_0 : w.heap.size < w2.heap.size := by omega); (try have e_w_0 : ¬ w.heap.size = w2.heap.size := by omega); (try have d_w_0 : ¬ w2.heap.size = w.heap.size := by omega); (try (refine bcUse (n := w.heap.size) hb ?_ ?_; (focus ((try simp only [World.size_alloc, World.size_setCell, World.size_drew, World.heap_drewN]); omega)); intro _ _)); (try have h_w1_0 : w1.heap.size < w2.heap.size := by omega); (try have e_w1_0 : ¬ w1.heap.size = w2.heap.size := by omega); (try have d_w1_0 : ¬ w2.heap.size = w1.heap.size := by omega); (try (refine bcUse (n := w1.heap.size) hb ?_ ?_; (focus ((try simp only [World.size_alloc, World.size_setCell, World.size_drew, World.heap_drewN]); omega)); intro _ _))) | (go_at_call 26; refine (HE.out _ (hs.below (Nat.le_refl _) (by (repeat' (first | (with_reducible exact Below.refl _ _) | (with_reducible assumption) | (with_reducible refine Below.call ?_ ?_ (by with_reducible assumption)) | (with_reducible refine Below.alloc ?_ ?_ _) | (with_reducible refine Below.drew ?_) | (with_reducible refine below_drewN ?_ _) | (with_reducible refine Below.setCell ?_ ?_ _) | (with_reducible exact Nat.le_refl _) | omega | (simp only [World.size_alloc, World.size_setCell, World.size_drew, World.heap_drewN] at *; omega)))))).mono ?_; rintro e w3 ⟨rfl, hb⟩; have hz := hb.size; (try simp only [World.size_alloc, World.size_setCell, World.size_drew, World.heap_drewN] at hz); (try have h_w_0 : w.heap.size < w3.heap.size := by omega); (try have e_w_0 : ¬ w.heap.size = w3.heap.size := by omega); (try have d_w_0 : ¬ w3.heap.size = w.heap.size := by omega); (try (refine bcUse (n := w.heap.size) hb ?_ ?_; (focus ((try simp only [World.size_alloc, World.size_setCell, World.size_drew, World.heap_drewN]); omega)); intro _ _)); (try have h_w1_0 : w1.heap.size < w3.heap.size := by omega); (try have e_w1_0 : ¬ w1.heap.size = w3.heap.size := by omega); (try have d_w1_0 : ¬ w3.heap.size = w1.heap.size := by omega); (try (refine bcUse (n := w1.heap.size) hb ?_ ?_; (focus ((try simp only [World.size_alloc, World.size_setCell, World.size_drew, World.heap_drewN]); omega)); intro _ _)); (try have h_w2_0 : w2.heap.size < w3.heap.size := by omega); (try have e_w2_0 : ¬ w2.heap.size = w3.heap.size := by omega); (try have d_w2_0 : ¬ w3.heap.size = w2.heap.size := by omega); (try (refine bcUse (n := w2.heap.size) hb ?_ ?_; (focus ((try simp only [World.size_alloc, World.size_setCell, World.size_drew, World.heap_drewN]); omega)); intro _ _))))
  have hbw3 : Below w.heap.size w w3 := by (repeat' (first | (with_reducible exact Below.refl _ _) | (with_reducible assumption) | (with_reducible refine Below.call ?_ ?_ (by with_reducible assumption)) | (with_reducible refine Below.alloc ?_ ?_ _) | (with_reducible refine Below.drew ?_) | (with_reducible refine below_drewN ?_ _) | (with_reducible refine Below.setCell ?_ ?_ _) | (with_reducible exact Nat.le_refl _) | omega | (simp only [World.size_alloc, World.size_setCell, World.size_drew, World.heap_drewN] at *; omega)))
  go_loopg [9, 37] ds.length (fun gk x9 i wr => ∃ k : Nat, ∃ x : Int, gk + k = ds.length ∧ i = .int .i64 k ∧ x9 = .int .i64 x ∧ Below w.heap.size w wr ∧ ((x = 0 ∧ anyBey (ds.take k) = false) ∨ (x = 3 ∧ anyBey (ds.take k) = true)))
  case atStart => exact ⟨0, 0, by omega, rfl, rfl, hbw3, .inl ⟨rfl, rfl⟩⟩
  case round =>
    obtain ⟨k, x, hk, rfl, rfl, hbel, hx⟩ := hrel
    have hsz := hbel.size
    by_cases hlt : k < ds.length
    · obtain ⟨b, off, ha, hb1, c0⟩ := (hs2.below (Nat.le_refl _) hbel) k hlt
      have ix1 := @ix_Int a2 b off ds.length cap2 k ha hlt
      have hsn := bey_snoc ds k hlt
      clear ha
      generalize ds[k] = d at *
      have HS := Lib.hid hsn
      clear hsn
      rcases hx with ⟨rfl, hx⟩ | ⟨rfl, hx⟩
      · have HX := Lib.hid hx
        clear hx
        by_cases hd : d < -1000000000 ∨ 1000000000 < d
        · go_wp2_with (go_at_call 27; refine (c_bey1 _ _ _ hd (by omega) (by omega)).mono ?_; rintro e w' ⟨rfl, rfl⟩)
          go_roundg (ds.length - (k + 1))
          case measure => omega
          case rel => exact ⟨k + 1, 3, by omega, by go_num, rfl, hbel, .inr ⟨rfl, by rw [HS.out, HX.out]; simp [bey]; omega⟩⟩
        · go_wp2_with (go_at_call 27; refine (c_bey0 _ _ _ (by omega) (by omega) (by omega) (by omega)).mono ?_; rintro e w' ⟨rfl, rfl⟩)
          go_roundg (ds.length - (k + 1))
          case measure => omega
          case rel => exact ⟨k + 1, 0, by omega, by go_num, rfl, hbel, .inl ⟨rfl, by rw [HS.out, HX.out]; simp [bey]; omega⟩⟩
      · have HX := Lib.hid hx
        clear hx
        go_wp2
        go_roundg (ds.length - (k + 1))
        case measure => omega
        case rel => exact ⟨k + 1, 3, by omega, by go_num, rfl, hbel, .inr ⟨rfl, by rw [HS.out, HX.out]; rfl⟩⟩
    · have hkl : k = ds.length := by omega
      rw [hkl, List.take_of_length_le (Nat.le_refl _), HB.out] at hx
      clear hkl
      obtain rfl : x = 3 := by
        rcases hx with ⟨_, h⟩ | ⟨h, _⟩
        · contradiction
        · exact h
      clear hx
      go_wp2
      go_ret
      exact ⟨rfl, hbel⟩
/-- All is well. -/
def fitL (ds : List Int) (p q : Nat) (lo hi : Int) : Bool := decide (dayAt ds p + lo ≤ dayAt ds q) && decide (dayAt ds q ≤ dayAt ds p + hi)
set_option maxRecDepth 100000 in
set_option maxHeartbeats 2000000 in
theorem walk_cf_ok (n : Nat) (a a2 : Option Addr) (cap cap2 : Nat) (l : List Bd) (ds : List Int) (w : World) (hc : l.length ≤ cap) (hl : ds.length = n) (hv : BdOk n l) (hs : BdSlice w a l) (hs2 : IntSlice w a2 ds) (hb : anyBey ds = false) (ans : Bool) (hans : fitsB ds l = ans) (HF : Hid (FitC n a a2 cap cap2 l ds ans 0)) (HE : Hid (ErrC n a cap l 0)) :
    Calls Try.prog 6 #[.int .i64 n, .slice a l.length cap, .slice a2 n cap2] w fun e w' => e = .returned (.bool true) ∧ Below w.heap.size w w' := by
  subst hl
  have n12 := hv.n12
  have h40 := hv.len
  have HBD := Lib.hid (bey_none hb)
  have HV := Lib.hid hv
  have HANS := Lib.hid hans
  have h2 : (ds.length : Int) ≤ 12 := by omega
  have h3 : (l.length : Int) ≤ 40 := by omega
  have h4 : ((ds.length : Int) != (ds.length : Int)) = false := by simp
  clear hb hv hans
  have hgen := sgen; have hgen2 := sgen2; have hgen3 := sgen3; go_enter Try.func6, Try.ntmps6
  go_wp2_with (first | (go_at_call 24; refine (c_chronWorks _).mono ?_; rintro e w1 ⟨rfl, hb⟩; have hz := hb.size; (try simp only [World.size_alloc, World.size_setCell, World.size_drew, World.heap_drewN] at hz); (try have h_w_0 : w.heap.size < w1.heap.size := by omega); (try have e_w_0 : ¬ w.heap.size = w1.heap.size := by omega); (try have d_w_0 : ¬ w1.heap.size = w.heap.size := by omega); (try (refine bcUse (n := w.heap.size) hb ?_ ?_; (focus ((try simp only [World.size_alloc, World.size_setCell, World.size_drew, World.heap_drewN]); omega)); intro _ _))) | (go_at_call 25; refine (HF.out _ (hs.below (Nat.le_refl _) (by (repeat' (first | (with_reducible exact Below.refl _ _) | (with_reducible assumption) | (with_reducible refine Below.call ?_ ?_ (by with_reducible assumption)) | (with_reducible refine Below.alloc ?_ ?_ _) | (with_reducible refine Below.drew ?_) | (with_reducible refine below_drewN ?_ _) | (with_reducible refine Below.setCell ?_ ?_ _) | (with_reducible exact Nat.le_refl _) | omega | (simp only [World.size_alloc, World.size_setCell, World.size_drew, World.heap_drewN] at *; omega))))) (hs2.below (Nat.le_refl _) (by (repeat' (first | (with_reducible exact Below.refl _ _) | (with_reducible assumption) | (with_reducible refine Below.call ?_ ?_ (by with_reducible assumption)) | (with_reducible refine Below.alloc ?_ ?_ _) | (with_reducible refine Below.drew ?_) | (with_reducible refine below_drewN ?_ _) | (with_reducible refine Below.setCell ?_ ?_ _) | (with_reducible exact Nat.le_refl _) | omega | (simp only [World.size_alloc, World.size_setCell, World.size_drew, World.heap_drewN] at *; omega)))))).mono ?_; rintro e w2 ⟨rfl, hb⟩; have hz := hb.size; (try simp only [World.size_alloc, World.size_setCell, World.size_drew, World.heap_drewN] at hz); (try have h_w_0 : w.heap.size < w2.heap.size := by omega); (try have e_w_0 : ¬ w.heap.size = w2.heap.size := by omega); (try have d_w_0 : ¬ w2.heap.size = w.heap.size := by omega); (try (refine bcUse (n := w.heap.size) hb ?_ ?_; (focus ((try simp only [World.size_alloc, World.size_setCell, World.size_drew, World.heap_drewN]); omega)); intro _ _)); (try have h_w1_0 : w1.heap.size < w2.heap.size := by omega); (try have e_w1_0 : ¬ w1.heap.size = w2.heap.size := by omega); (try have d_w1_0 : ¬ w2.heap.size = w1.heap.size := by omega); (try (refine bcUse (n := w1.heap.size) hb ?_ ?_; (focus ((try simp only [World.size_alloc, World.size_setCell, World.size_drew, World.heap_drewN]); omega)); intro _ _))) | (go_at_call 26; refine (HE.out _ (hs.below (Nat.le_refl _) (by (repeat' (first | (with_reducible exact Below.refl _ _) | (with_reducible assumption) | (with_reducible refine Below.call ?_ ?_ (by with_reducible assumption)) | (with_reducible refine Below.alloc ?_ ?_ _) | (with_reducible refine Below.drew ?_) | (with_reducible refine below_drewN ?_ _) | (with_reducible refine Below.setCell ?_ ?_ _) | (with_reducible exact Nat.le_refl _) | omega | (simp only [World.size_alloc, World.size_setCell, World.size_drew, World.heap_drewN] at *; omega)))))).mono ?_; rintro e w3 ⟨rfl, hb⟩; have hz := hb.size; (try simp only [World.size_alloc, World.size_setCell, World.size_drew, World.heap_drewN] at hz); (try have h_w_0 : w.heap.size < w3.heap.size := by omega); (try have e_w_0 : ¬ w.heap.size = w3.heap.size := by omega); (try have d_w_0 : ¬ w3.heap.size = w.heap.size := by omega); (try (refine bcUse (n := w.heap.size) hb ?_ ?_; (focus ((try simp only [World.size_alloc, World.size_setCell, World.size_drew, World.heap_drewN]); omega)); intro _ _)); (try have h_w1_0 : w1.heap.size < w3.heap.size := by omega); (try have e_w1_0 : ¬ w1.heap.size = w3.heap.size := by omega); (try have d_w1_0 : ¬ w3.heap.size = w1.heap.size := by omega); (try (refine bcUse (n := w1.heap.size) hb ?_ ?_; (focus ((try simp only [World.size_alloc, World.size_setCell, World.size_drew, World.heap_drewN]); omega)); intro _ _)); (try have h_w2_0 : w2.heap.size < w3.heap.size := by omega); (try have e_w2_0 : ¬ w2.heap.size = w3.heap.size := by omega); (try have d_w2_0 : ¬ w3.heap.size = w2.heap.size := by omega); (try (refine bcUse (n := w2.heap.size) hb ?_ ?_; (focus ((try simp only [World.size_alloc, World.size_setCell, World.size_drew, World.heap_drewN]); omega)); intro _ _))))
  have hbw3 : Below w.heap.size w w3 := by (repeat' (first | (with_reducible exact Below.refl _ _) | (with_reducible assumption) | (with_reducible refine Below.call ?_ ?_ (by with_reducible assumption)) | (with_reducible refine Below.alloc ?_ ?_ _) | (with_reducible refine Below.drew ?_) | (with_reducible refine below_drewN ?_ _) | (with_reducible refine Below.setCell ?_ ?_ _) | (with_reducible exact Nat.le_refl _) | omega | (simp only [World.size_alloc, World.size_setCell, World.size_drew, World.heap_drewN] at *; omega)))
  go_loopg [9, 37] ds.length (fun gk x9 i wr => ∃ k : Nat, gk + k = ds.length ∧ i = .int .i64 k ∧ x9 = .int .i64 0 ∧ Below w.heap.size w wr)
  case atStart => exact ⟨0, by omega, rfl, rfl, hbw3⟩
  case round =>
    obtain ⟨k, hk, rfl, rfl, hbel⟩ := hrel
    have hsz := hbel.size
    by_cases hlt : k < ds.length
    · obtain ⟨b, off, ha, hb1, c0⟩ := (hs2.below (Nat.le_refl _) hbel) k hlt
      have ix1 := @ix_Int a2 b off ds.length cap2 k ha hlt
      obtain ⟨x1, x2⟩ := HBD.out k hlt
      clear ha
      generalize ds[k] = d at *
      go_wp2_with (go_at_call 27; refine (c_bey0 _ _ _ (by omega) (by omega) (by omega) (by omega)).mono ?_; rintro e w' ⟨rfl, rfl⟩)
      go_roundg (ds.length - (k + 1))
      case measure => omega
      case rel => exact ⟨k + 1, by omega, by go_num, rfl, hbel⟩
    · obtain ⟨wo, rfl⟩ : ∃ wo : World, wo = wr := ⟨_, rfl⟩
      go_wp2
      go_loopg [12, 59] l.length (fun gk x12 i wr => ∃ k : Nat, ∃ wt : Bool, gk + k = l.length ∧ i = .int .i64 k ∧ x12 = .bool wt ∧ Below w.heap.size w wr ∧ fitsB ds (l.take k) = wt)
      case atStart => exact ⟨0, true, by omega, rfl, rfl, hbel, rfl⟩
      case round =>
        clear hbel
        obtain ⟨k, wt, hk, rfl, rfl, hbel, hfit⟩ := hrel
        have hsz := hbel.size
        by_cases hlt : k < l.length
        · obtain ⟨b, off, ha, hb1, c0, c1, c2, c3⟩ := (hs.below (Nat.le_refl _) hbel) k hlt
          have ix1 := @ix_Bd a b off l.length cap k ha hlt
          have hsn := fits_snoc ds l k hlt
          rw [hfit] at hsn
          have hmem : l[k] ∈ l := List.getElem_mem hlt
          have v1 := HV.out.a0 _ hmem
          have v2 := HV.out.an _ hmem
          have v3 := HV.out.b0 _ hmem
          have v4 := HV.out.bn _ hmem
          have v6 := HV.out.lo _ hmem
          have v7 := HV.out.le _ hmem
          have v8 := HV.out.hi _ hmem
          clear ha hmem hfit
          generalize l[k] = x at *
          obtain ⟨xa, xb, xlo, xhi⟩ := x
          simp only at c0 c1 c2 c3 v1 v2 v3 v4 v6 v7 v8
          obtain ⟨p, rfl⟩ : ∃ p : Nat, xa = p := ⟨xa.toNat, by omega⟩
          obtain ⟨q, rfl⟩ : ∃ q : Nat, xb = q := ⟨xb.toNat, by omega⟩
          have hp : p < ds.length := by omega
          have hq : q < ds.length := by omega
          obtain ⟨b2, off2, ha2, hb2, e0⟩ := (hs2.below (Nat.le_refl _) hbel) p hp
          obtain ⟨b3, off3, ha3, hb3, f0⟩ := (hs2.below (Nat.le_refl _) hbel) q hq
          have ix2 := @ix_Int a2 b2 off2 ds.length cap2 p ha2 hp
          have ix3 := @ix_Int a2 b3 off3 ds.length cap2 q ha3 hq
          obtain ⟨y1, y2⟩ := HBD.out p hp
          obtain ⟨y3, y4⟩ := HBD.out q hq
          have hone : fitOne ds ⟨p, q, xlo, xhi⟩ = (decide (xlo ≤ ds[q] - ds[p]) && decide (ds[q] - ds[p] ≤ xhi)) := by
            unfold fitOne; rw [dayAt_nat ds p hp, dayAt_nat ds q hq]
          have HS := Lib.hid hsn
          have HONE := Lib.hid hone
          clear hsn hone ha2 ha3
          generalize ds[p] = dp at *
          generalize ds[q] = dq at *
          have ew : IntKind.i64.wrap (dp + xlo) = dp + xlo := IntWalk.i64_in _ (by omega)
          have ew2 : IntKind.i64.wrap (dp + xhi) = dp + xhi := IntWalk.i64_in _ (by omega)
          cases wt with
          | false =>
            go_wp2_with fail
            go_quiet (fail)
            go_wp2_with fail
            go_roundg (l.length - (k + 1))
            case measure => omega
            case rel => refine ⟨k + 1, false, by omega, by go_num, rfl, by (repeat' (first | (with_reducible exact Below.refl _ _) | (with_reducible assumption) | (with_reducible refine Below.call ?_ ?_ (by with_reducible assumption)) | (with_reducible refine Below.alloc ?_ ?_ _) | (with_reducible refine Below.drew ?_) | (with_reducible refine below_drewN ?_ _) | (with_reducible refine Below.setCell ?_ ?_ _) | (with_reducible exact Nat.le_refl _) | omega | (simp only [World.size_alloc, World.size_setCell, World.size_drew, World.heap_drewN] at *; omega))), by rw [HS.out]; rfl⟩
          | true =>
            by_cases t1 : dp + xlo ≤ dq
            · by_cases t2 : dq ≤ dp + xhi
              · go_wp2_with fail
                go_quiet (fail)
                go_wp2_with fail
                go_roundg (l.length - (k + 1))
                case measure => omega
                case rel => refine ⟨k + 1, true, by omega, by go_num, rfl, by (repeat' (first | (with_reducible exact Below.refl _ _) | (with_reducible assumption) | (with_reducible refine Below.call ?_ ?_ (by with_reducible assumption)) | (with_reducible refine Below.alloc ?_ ?_ _) | (with_reducible refine Below.drew ?_) | (with_reducible refine below_drewN ?_ _) | (with_reducible refine Below.setCell ?_ ?_ _) | (with_reducible exact Nat.le_refl _) | omega | (simp only [World.size_alloc, World.size_setCell, World.size_drew, World.heap_drewN] at *; omega))), by rw [HS.out, HONE.out]; simp; omega⟩
              · have t2' : decide (dq ≤ dp + xhi) = false := decide_eq_false t2
                go_wp2_with fail
                go_quiet (fail)
                go_wp2_with fail
                go_roundg (l.length - (k + 1))
                case measure => omega
                case rel => refine ⟨k + 1, false, by omega, by go_num, rfl, by (repeat' (first | (with_reducible exact Below.refl _ _) | (with_reducible assumption) | (with_reducible refine Below.call ?_ ?_ (by with_reducible assumption)) | (with_reducible refine Below.alloc ?_ ?_ _) | (with_reducible refine Below.drew ?_) | (with_reducible refine below_drewN ?_ _) | (with_reducible refine Below.setCell ?_ ?_ _) | (with_reducible exact Nat.le_refl _) | omega | (simp only [World.size_alloc, World.size_setCell, World.size_drew, World.heap_drewN] at *; omega))), by rw [HS.out, HONE.out]; simp; omega⟩
            · have t1' : decide (dp + xlo ≤ dq) = false := decide_eq_false t1
              go_wp2_with fail
              go_quiet (fail)
              go_wp2_with fail
              go_roundg (l.length - (k + 1))
              case measure => omega
              case rel => refine ⟨k + 1, false, by omega, by go_num, rfl, by (repeat' (first | (with_reducible exact Below.refl _ _) | (with_reducible assumption) | (with_reducible refine Below.call ?_ ?_ (by with_reducible assumption)) | (with_reducible refine Below.alloc ?_ ?_ _) | (with_reducible refine Below.drew ?_) | (with_reducible refine below_drewN ?_ _) | (with_reducible refine Below.setCell ?_ ?_ _) | (with_reducible exact Nat.le_refl _) | omega | (simp only [World.size_alloc, World.size_setCell, World.size_drew, World.heap_drewN] at *; omega))), by rw [HS.out, HONE.out]; simp; omega⟩
        · have hkl : k = l.length := by omega
          rw [hkl, List.take_of_length_le (Nat.le_refl _), HANS.out] at hfit
          subst hfit
          have hbb : (ans == ans) = true := by simp
          clear hkl
          go_wp2
          go_ret
          exact ⟨by first | rfl | exact ret_bool (by simp), hbel⟩
theorem walk_cf_any (n : Int) (a a2 : Option Addr) (len cap len2 cap2 : Nat) (l : List Bd) (ds : List Int) (w : World) (hlen : l.length = len) (hc : len ≤ cap) (hlen2 : ds.length = len2) (hc2 : len2 ≤ cap2) (hm2 : cap2 ≤ maxLen) (hs : BdSlice w a l) (hs2 : IntSlice w a2 ds) :
    Calls Try.prog 6 #[.int .i64 n, .slice a len cap, .slice a2 len2 cap2] w fun e w' => e = .returned (.bool true) ∧ Below w.heap.size w w' := by
  subst hlen hlen2
  have hm : ds.length ≤ 9223372036854775807 := by unfold maxLen at hm2; omega
  have HE := Lib.hid (fun w1 hs1 => c_refChErr n a cap l w1 hc hs1 : ErrC n a cap l (chErr n l))
  by_cases he : chErr n l = 0
  · rw [he] at HE
    by_cases hl : (ds.length : Int) = n
    · subst hl
      obtain ⟨m, hm', hv⟩ := bdOk_of he
      obtain rfl : ds.length = m := by omega
      cases hb : anyBey ds with
      | true => exact walk_cf_range _ a a2 cap cap2 l ds w rfl hv.n12 hs hs2 hb (Lib.hid fun w1 h1 h2 => c_fits_range _ a a2 cap cap2 l ds w1 hc he h1 rfl hv.n12 h2 hb) HE
      | false => exact walk_cf_ok _ a a2 cap cap2 l ds w hc rfl hv hs hs2 hb _ rfl (Lib.hid fun w1 h1 h2 => c_fits_ok _ a a2 cap cap2 l ds w1 hc he hv h1 rfl h2 hb _ rfl) HE
    · exact walk_cf_err n a a2 cap cap2 l ds w hm hs hs2 0 8 (by omega) (.inr ⟨rfl, hl, rfl⟩) (Lib.hid fun w1 h1 h2 => c_fits_form n a a2 cap ds.length cap2 l w1 hc he h1 hl) HE
  · exact walk_cf_err n a a2 cap cap2 l ds w hm hs hs2 _ _ he (.inl rfl) (Lib.hid fun w1 h1 h2 => c_fits_bad n a a2 cap ds.length cap2 l w1 hc he h1) HE
end Go.Proofs.Ytdpddidfdifbhaa
