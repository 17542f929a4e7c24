/- Contracts of the checks of a chronology. -/
import Derived.Test.YtdpddidfdifbhaaWalk1
import Derived.Test.YtdpddidfdifbhaaPlainChr
import Derived.Test.YtdpddidfdifbhaaIxBound
import Derived.Deep.LoopGhost
import Derived.Deep.QuietTactic
import Derived.BigQuiet
import Derived.BigGuard
set_option linter.unusedVariables false
set_option linter.unusedSimpArgs false
namespace Go.Proofs.Ytdpddidfdifbhaa
open Go.RowKit
theorem c_refChErr_large (n : Int) (a : Option Addr) (len cap : Nat) (w : World) (h : 12 < n ∨ 40 < len) : Calls Try.prog 26 #[.int .i64 n, .slice a len cap] w fun e w' => e = .returned (.int .i64 2) ∧ Below w.heap.size w w' := by
  have h' : 12 < n ∨ (¬ 12 < n ∧ 40 < len) := by omega
  rcases h' with h | ⟨h, h1⟩
  all_goals
    have hgen := sgen; have hgen2 := sgen2; have hgen3 := sgen3; go_enter Try.func26, Try.ntmps26
    go_wp2
    go_ret
    exact ⟨rfl, Below.refl _ _⟩
theorem c_refChErr_form (n : Int) (a : Option Addr) (len cap : Nat) (w : World) (h : len ≤ 40) (h1 : n < 1) : Calls Try.prog 26 #[.int .i64 n, .slice a len cap] w fun e w' => e = .returned (.int .i64 8) ∧ Below w.heap.size w w' := by
  have hgen := sgen; have hgen2 := sgen2; have hgen3 := sgen3; go_enter Try.func26, Try.ntmps26
  go_wp2
  go_ret
  exact ⟨rfl, Below.refl _ _⟩
set_option maxHeartbeats 1000000 in
theorem c_refChErr_some (n : Int) (a : Option Addr) (cap : Nat) (l : List Bd) (w : World) (hc : l.length ≤ cap) (h40 : l.length ≤ 40) (n1 : 1 ≤ n) (n12 : n ≤ 12) (hs : BdSlice w a l) :
    Calls Try.prog 26 #[.int .i64 n, .slice a l.length cap] w fun e w' => e = .returned (.int .i64 (fe (bdOne n) l)) ∧ Below w.heap.size w w' := by
  have h2 : (l.length : Int) ≤ 40 := by omega
  have hgen := sgen; have hgen2 := sgen2; have hgen3 := sgen3; go_enter Try.func26, Try.ntmps26
  go_wp2_with fail
  go_loopg [18] l.length (fun gk i wr => ∃ k : Nat, gk + k = l.length ∧ i = .int .i64 k ∧ Below w.heap.size w wr ∧ fe (bdOne n) (l.take k) = 0)
  case atStart => exact ⟨0, by omega, rfl, Below.refl _ _, rfl⟩
  case round =>
    obtain ⟨k, hk, rfl, hbel, hfe⟩ := hrel
    by_cases hlt : k < l.length
    · obtain ⟨b, off, ha, hb1, c0, c1, c2, c3⟩ := (hs.below (Nat.le_refl _) hbel) k hlt
      have ix1 := @ix_Bd a b off l.length cap k ha hlt
      have hsz := hbel.size
      have hat := fe_at (bdOne n) l k hlt hfe
      have hsn := fe_snoc (bdOne n) l k hlt
      rw [if_pos hfe] at hsn
      clear ha hfe
      generalize l[k] = x at *
      have HS := Lib.hid hsn
      have HA := Lib.hid hat
      clear hsn hat
      by_cases h5 : x.a = x.b
      · have t5 : (x.a == x.b) = true := by simp [h5]
        have H5 := Lib.hid h5
        clear h5
        go_wp2
        all_goals
          go_ret
          refine ⟨ret_int ?_, ?_⟩
        all_goals first
          | exact fe_is HA.out (by unfold bdOne; rw [if_pos (by omega)]) (by omega)
          | exact fe_is HA.out (by unfold bdOne; rw [if_neg (by omega), if_pos H5.out]) (by omega)
          | (repeat' (first | (with_reducible exact Below.refl _ _) | (with_reducible assumption) | (with_reducible refine Below.call ?_ ?_ (by with_reducible assumption)) | (with_reducible refine Below.alloc ?_ ?_ _) | (with_reducible refine Below.drew ?_) | (with_reducible refine below_drewN ?_ _) | (with_reducible refine Below.setCell ?_ ?_ _) | (with_reducible exact Nat.le_refl _) | omega | (simp only [World.size_alloc, World.size_setCell, World.size_drew, World.heap_drewN] at *; omega)))
      · have t5 : (x.a == x.b) = false := by simp [h5]
        have H5 := Lib.hid h5
        clear h5
        go_wp2
        all_goals first
          | (go_ret; refine ⟨ret_int ?_, ?_⟩; (focus first
              | exact fe_is HA.out (by unfold bdOne; rw [if_pos (by omega)]) (by omega)
              | exact fe_is HA.out (by unfold bdOne; rw [if_neg (by omega), if_neg H5.out, if_pos (by omega)]) (by omega)); (repeat' (first | (with_reducible exact Below.refl _ _) | (with_reducible assumption) | (with_reducible refine Below.call ?_ ?_ (by with_reducible assumption)) | (with_reducible refine Below.alloc ?_ ?_ _) | (with_reducible refine Below.drew ?_) | (with_reducible refine below_drewN ?_ _) | (with_reducible refine Below.setCell ?_ ?_ _) | (with_reducible exact Nat.le_refl _) | omega | (simp only [World.size_alloc, World.size_setCell, World.size_drew, World.heap_drewN] at *; omega))))
          | (go_roundg (l.length - (k + 1)); (focus (refine ⟨k + 1, by omega, by go_num, ?_, by rw [HS.out]; unfold bdOne; rw [if_neg (by omega), if_neg H5.out, if_neg (by omega)]⟩; (repeat' (first | (with_reducible exact Below.refl _ _) | (with_reducible assumption) | (with_reducible refine Below.call ?_ ?_ (by with_reducible assumption)) | (with_reducible refine Below.alloc ?_ ?_ _) | (with_reducible refine Below.drew ?_) | (with_reducible refine below_drewN ?_ _) | (with_reducible refine Below.setCell ?_ ?_ _) | (with_reducible exact Nat.le_refl _) | omega | (simp only [World.size_alloc, World.size_setCell, World.size_drew, World.heap_drewN] at *; omega))))); omega)
    · have hkl : k = l.length := by omega
      rw [hkl, List.take_of_length_le (Nat.le_refl _)] at hfe
      have HF := Lib.hid hfe
      clear hfe hkl
      go_wp2
      go_ret
      exact ⟨ret_int HF.out.symm, hbel⟩
theorem c_refChErr (n : Int) (a : Option Addr) (cap : Nat) (l : List Bd) (w : World) (hc : l.length ≤ cap) (hs : BdSlice w a l) :
    Calls Try.prog 26 #[.int .i64 n, .slice a l.length cap] w fun e w' => e = .returned (.int .i64 (chErr n l)) ∧ Below w.heap.size w w' := by
  unfold chErr
  by_cases h : 12 < n ∨ 40 < l.length
  · rw [if_pos h]; exact c_refChErr_large n a _ cap w h
  · rw [if_neg h]
    by_cases h1 : n < 1
    · rw [if_pos h1]; exact c_refChErr_form n a _ cap w (by omega) h1
    · rw [if_neg h1]; exact c_refChErr_some n a cap l w hc (by omega) (by omega) (by omega) hs
theorem c_chCheck_large (n : Int) (a : Option Addr) (len cap : Nat) (w : World) (h : 12 < n ∨ 40 < len) : Calls Try.prog 29 #[.int .i64 n, .slice a len cap] w fun e w' => e = .returned (.int .i64 2) ∧ Below w.heap.size w w' := by
  have h' : 12 < n ∨ (¬ 12 < n ∧ 40 < len) := by omega
  rcases h' with h | ⟨h, h1⟩
  all_goals
    have hgen := sgen; have hgen2 := sgen2; have hgen3 := sgen3; go_enter Try.func29, Try.ntmps29
    go_wp2
    go_ret
    exact ⟨rfl, Below.refl _ _⟩
theorem c_chCheck_form (n : Int) (a : Option Addr) (len cap : Nat) (w : World) (h : len ≤ 40) (h1 : n < 1) : Calls Try.prog 29 #[.int .i64 n, .slice a len cap] w fun e w' => e = .returned (.int .i64 8) ∧ Below w.heap.size w w' := by
  have hgen := sgen; have hgen2 := sgen2; have hgen3 := sgen3; go_enter Try.func29, Try.ntmps29
  go_wp2
  go_ret
  exact ⟨rfl, Below.refl _ _⟩
set_option maxHeartbeats 1000000 in
theorem c_chCheck_some (n : Int) (a : Option Addr) (cap : Nat) (l : List Bd) (w : World) (hc : l.length ≤ cap) (h40 : l.length ≤ 40) (n1 : 1 ≤ n) (n12 : n ≤ 12) (hs : BdSlice w a l) :
    Calls Try.prog 29 #[.int .i64 n, .slice a l.length cap] w fun e w' => e = .returned (.int .i64 (fe (bdOne n) l)) ∧ Below w.heap.size w w' := by
  have h2 : (l.length : Int) ≤ 40 := by omega
  have hgen := sgen; have hgen2 := sgen2; have hgen3 := sgen3; go_enter Try.func29, Try.ntmps29
  go_wp2_with fail
  go_loopg [18] l.length (fun gk i wr => ∃ k : Nat, gk + k = l.length ∧ i = .int .i64 k ∧ Below w.heap.size w wr ∧ fe (bdOne n) (l.take k) = 0)
  case atStart => exact ⟨0, by omega, rfl, Below.refl _ _, rfl⟩
  case round =>
    obtain ⟨k, hk, rfl, hbel, hfe⟩ := hrel
    by_cases hlt : k < l.length
    · obtain ⟨b, off, ha, hb1, c0, c1, c2, c3⟩ := (hs.below (Nat.le_refl _) hbel) k hlt
      have ix1 := @ix_Bd a b off l.length cap k ha hlt
      have hsz := hbel.size
      have hat := fe_at (bdOne n) l k hlt hfe
      have hsn := fe_snoc (bdOne n) l k hlt
      rw [if_pos hfe] at hsn
      clear ha hfe
      generalize l[k] = x at *
      have HS := Lib.hid hsn
      have HA := Lib.hid hat
      clear hsn hat
      by_cases h5 : x.a = x.b
      · have t5 : (x.a == x.b) = true := by simp [h5]
        have H5 := Lib.hid h5
        clear h5
        go_wp2
        all_goals
          go_ret
          refine ⟨ret_int ?_, ?_⟩
        all_goals first
          | exact fe_is HA.out (by unfold bdOne; rw [if_pos (by omega)]) (by omega)
          | exact fe_is HA.out (by unfold bdOne; rw [if_neg (by omega), if_pos H5.out]) (by omega)
          | (repeat' (first | (with_reducible exact Below.refl _ _) | (with_reducible assumption) | (with_reducible refine Below.call ?_ ?_ (by with_reducible assumption)) | (with_reducible refine Below.alloc ?_ ?_ _) | (with_reducible refine Below.drew ?_) | (with_reducible refine below_drewN ?_ _) | (with_reducible refine Below.setCell ?_ ?_ _) | (with_reducible exact Nat.le_refl _) | omega | (simp only [World.size_alloc, World.size_setCell, World.size_drew, World.heap_drewN] at *; omega)))
      · have t5 : (x.a == x.b) = false := by simp [h5]
        have H5 := Lib.hid h5
        clear h5
        go_wp2
        all_goals first
          | (go_ret; refine ⟨ret_int ?_, ?_⟩; (focus first
              | exact fe_is HA.out (by unfold bdOne; rw [if_pos (by omega)]) (by omega)
              | exact fe_is HA.out (by unfold bdOne; rw [if_neg (by omega), if_neg H5.out, if_pos (by omega)]) (by omega)); (repeat' (first | (with_reducible exact Below.refl _ _) | (with_reducible assumption) | (with_reducible refine Below.call ?_ ?_ (by with_reducible assumption)) | (with_reducible refine Below.alloc ?_ ?_ _) | (with_reducible refine Below.drew ?_) | (with_reducible refine below_drewN ?_ _) | (with_reducible refine Below.setCell ?_ ?_ _) | (with_reducible exact Nat.le_refl _) | omega | (simp only [World.size_alloc, World.size_setCell, World.size_drew, World.heap_drewN] at *; omega))))
          | (go_roundg (l.length - (k + 1)); (focus (refine ⟨k + 1, by omega, by go_num, ?_, by rw [HS.out]; unfold bdOne; rw [if_neg (by omega), if_neg H5.out, if_neg (by omega)]⟩; (repeat' (first | (with_reducible exact Below.refl _ _) | (with_reducible assumption) | (with_reducible refine Below.call ?_ ?_ (by with_reducible assumption)) | (with_reducible refine Below.alloc ?_ ?_ _) | (with_reducible refine Below.drew ?_) | (with_reducible refine below_drewN ?_ _) | (with_reducible refine Below.setCell ?_ ?_ _) | (with_reducible exact Nat.le_refl _) | omega | (simp only [World.size_alloc, World.size_setCell, World.size_drew, World.heap_drewN] at *; omega))))); omega)
    · have hkl : k = l.length := by omega
      rw [hkl, List.take_of_length_le (Nat.le_refl _)] at hfe
      have HF := Lib.hid hfe
      clear hfe hkl
      go_wp2
      go_ret
      exact ⟨ret_int HF.out.symm, hbel⟩
theorem c_chCheck (n : Int) (a : Option Addr) (cap : Nat) (l : List Bd) (w : World) (hc : l.length ≤ cap) (hs : BdSlice w a l) :
    Calls Try.prog 29 #[.int .i64 n, .slice a l.length cap] w fun e w' => e = .returned (.int .i64 (chErr n l)) ∧ Below w.heap.size w w' := by
  unfold chErr
  by_cases h : 12 < n ∨ 40 < l.length
  · rw [if_pos h]; exact c_chCheck_large n a _ cap w h
  · rw [if_neg h]
    by_cases h1 : n < 1
    · rw [if_pos h1]; exact c_chCheck_form n a _ cap w (by omega) h1
    · rw [if_neg h1]; exact c_chCheck_some n a cap l w hc (by omega) (by omega) (by omega) hs
end Go.Proofs.Ytdpddidfdifbhaa
