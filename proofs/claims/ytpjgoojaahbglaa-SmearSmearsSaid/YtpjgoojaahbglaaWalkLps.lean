/- Contracts of leap.Check and of the reference's LeapsErr. -/
import Derived.Test.YtpjgoojaahbglaaWalk1
import Derived.Test.YtpjgoojaahbglaaPlainLps
import Derived.Test.YtpjgoojaahbglaaIxLeap
import Derived.Deep.LoopGhost
import Derived.Deep.QuietTactic
import Derived.BigQuiet
set_option linter.unusedVariables false
set_option linter.unusedSimpArgs false
namespace Go.Proofs.Ytpjgoojaahbglaa
open Go.RowKit
theorem leapsErr_small {l : List Lp} (h : ¬ 60 < l.length) : leapsErr l = lpsFrom (-5000000) l := by unfold leapsErr; rw [if_neg h]
theorem c_lps_large (a : Option Addr) (len cap : Nat) (w : World) (h : 60 < len) : Calls Try.prog 35 #[.slice a len cap] w fun e w' => e = .returned (.int .i64 2) ∧ Below w.heap.size w w' := by
  have hgen := sgen; have hgen2 := sgen2; have hgen3 := sgen3; go_enter Try.func35, Try.ntmps35
  go_wp2
  go_ret
  exact ⟨rfl, Below.refl _ _⟩
theorem c_lpc_large (a : Option Addr) (len cap : Nat) (w : World) (h : 60 < len) : Calls Try.prog 44 #[.slice a len cap] w fun e w' => e = .returned (.int .i64 2) ∧ Below w.heap.size w w' := by
  have hgen := sgen; have hgen2 := sgen2; have hgen3 := sgen3; go_enter Try.func44, Try.ntmps44
  go_wp2
  go_ret
  exact ⟨rfl, Below.refl _ _⟩
set_option maxHeartbeats 1000000 in
theorem c_lps_small (a : Option Addr) (cap : Nat) (l : List Lp) (w : World) (hc : l.length ≤ cap) (h60 : ¬ 60 < l.length) (hs : LpSlice w a l) :
    Calls Try.prog 35 #[.slice a l.length cap] w fun e w' => e = .returned (.int .i64 (lpsFrom (-5000000) l)) ∧ Below w.heap.size w w' := by
  have h2 : (l.length : Int) ≤ 60 := by omega
  have hgen := sgen; have hgen2 := sgen2; have hgen3 := sgen3; go_enter Try.func35, Try.ntmps35
  go_wp2_with fail
  go_loopg [3, 11] l.length (fun gk x3 i wr => ∃ k : Nat, ∃ last : Int, gk + k = l.length ∧ i = .int .i64 k ∧ x3 = .int .i64 last ∧ Below w.heap.size w wr ∧ -5000000 ≤ last ∧ last ≤ 3999998 ∧ lpsFrom last (l.drop k) = lpsFrom (-5000000) l)
  case atStart => exact ⟨0, -5000000, by omega, rfl, rfl, Below.refl _ _, by omega, by omega, rfl⟩
  case round =>
    obtain ⟨k, last, hk, rfl, rfl, hbel, l1, l2, hl⟩ := hrel
    by_cases hlt : k < l.length
    · obtain ⟨b, off, ha, hb1, c0, c1⟩ := (hs.below (Nat.le_refl _) hbel) k hlt
      have ix1 := @ix_Lp a b off l.length cap k ha hlt
      clear ha
      rw [drop_cons l k hlt] at hl
      generalize l[k] = x at *
      have hl' : (if lpOne last x ≠ 0 then lpOne last x else lpsFrom x.day (l.drop (k + 1))) = lpsFrom (-5000000) l := hl
      have hsz := hbel.size
      clear hl
      by_cases r : x.day < -3999998 ∨ 3999998 < x.day
      · have e : lpOne last x = 3 := by unfold lpOne; rw [if_pos r]
        rw [e, if_pos (by omega)] at hl'
        have HL := Lib.hid hl'
        clear hl' e
        rcases r with r | r
        all_goals
          go_wp2
          go_ret
          refine ⟨ret_int HL.out, ?_⟩
          (repeat' (first | (with_reducible exact Below.refl _ _) | (with_reducible assumption) | (with_reducible refine Below.call ?_ ?_ (by with_reducible assumption)) | (with_reducible refine Below.alloc ?_ ?_ _) | (with_reducible refine Below.drew ?_) | (with_reducible refine below_drewN ?_ _) | (with_reducible refine Below.setCell ?_ ?_ _) | (with_reducible exact Nat.le_refl _) | omega | (simp only [World.size_alloc, World.size_setCell, World.size_drew, World.heap_drewN] at *; omega)))
      · by_cases s : x.sh ≠ 1 ∧ x.sh ≠ -1
        · have e : lpOne last x = 1 := by unfold lpOne; rw [if_neg r, if_pos s]
          rw [e, if_pos (by omega)] at hl'
          have HL := Lib.hid hl'
          have s1 : (x.sh != 1) = true := by simp [s.1]
          have s2 : (x.sh != -1) = true := by simp [s.2]
          clear hl' e s
          go_wp2
          go_ret
          refine ⟨ret_int HL.out, ?_⟩
          (repeat' (first | (with_reducible exact Below.refl _ _) | (with_reducible assumption) | (with_reducible refine Below.call ?_ ?_ (by with_reducible assumption)) | (with_reducible refine Below.alloc ?_ ?_ _) | (with_reducible refine Below.drew ?_) | (with_reducible refine below_drewN ?_ _) | (with_reducible refine Below.setCell ?_ ?_ _) | (with_reducible exact Nat.le_refl _) | omega | (simp only [World.size_alloc, World.size_setCell, World.size_drew, World.heap_drewN] at *; omega)))
        · by_cases o : x.day - last < 2
          · have e : lpOne last x = 9 := by unfold lpOne; rw [if_neg r, if_neg s, if_pos o]
            rw [e, if_pos (by omega)] at hl'
            have HL := Lib.hid hl'
            have s' : x.sh = 1 ∨ x.sh = -1 := by omega
            clear hl' e s
            rcases s' with s' | s'
            · have s1 : (x.sh != 1) = false := by simp [s']
              clear s'
              go_wp2
              go_ret
              refine ⟨ret_int HL.out, ?_⟩
              (repeat' (first | (with_reducible exact Below.refl _ _) | (with_reducible assumption) | (with_reducible refine Below.call ?_ ?_ (by with_reducible assumption)) | (with_reducible refine Below.alloc ?_ ?_ _) | (with_reducible refine Below.drew ?_) | (with_reducible refine below_drewN ?_ _) | (with_reducible refine Below.setCell ?_ ?_ _) | (with_reducible exact Nat.le_refl _) | omega | (simp only [World.size_alloc, World.size_setCell, World.size_drew, World.heap_drewN] at *; omega)))
            · have s1 : (x.sh != 1) = true := by simp [s']
              have s2 : (x.sh != -1) = false := by simp [s']
              clear s'
              go_wp2
              go_ret
              refine ⟨ret_int HL.out, ?_⟩
              (repeat' (first | (with_reducible exact Below.refl _ _) | (with_reducible assumption) | (with_reducible refine Below.call ?_ ?_ (by with_reducible assumption)) | (with_reducible refine Below.alloc ?_ ?_ _) | (with_reducible refine Below.drew ?_) | (with_reducible refine below_drewN ?_ _) | (with_reducible refine Below.setCell ?_ ?_ _) | (with_reducible exact Nat.le_refl _) | omega | (simp only [World.size_alloc, World.size_setCell, World.size_drew, World.heap_drewN] at *; omega)))
          · have e : lpOne last x = 0 := by unfold lpOne; rw [if_neg r, if_neg s, if_neg o]
            rw [e, if_neg (by omega)] at hl'
            have HL := Lib.hid hl'
            have s' : x.sh = 1 ∨ x.sh = -1 := by omega
            clear hl' e s
            rcases s' with s' | s'
            · have s1 : (x.sh != 1) = false := by simp [s']
              clear s'
              go_wp2
              go_roundg (l.length - (k + 1))
              case measure => omega
              case rel =>
                refine ⟨k + 1, x.day, by omega, by go_num, rfl, ?_, by omega, by omega, HL.out⟩
                (repeat' (first | (with_reducible exact Below.refl _ _) | (with_reducible assumption) | (with_reducible refine Below.call ?_ ?_ (by with_reducible assumption)) | (with_reducible refine Below.alloc ?_ ?_ _) | (with_reducible refine Below.drew ?_) | (with_reducible refine below_drewN ?_ _) | (with_reducible refine Below.setCell ?_ ?_ _) | (with_reducible exact Nat.le_refl _) | omega | (simp only [World.size_alloc, World.size_setCell, World.size_drew, World.heap_drewN] at *; omega)))
            · have s1 : (x.sh != 1) = true := by simp [s']
              have s2 : (x.sh != -1) = false := by simp [s']
              clear s'
              go_wp2
              go_roundg (l.length - (k + 1))
              case measure => omega
              case rel =>
                refine ⟨k + 1, x.day, by omega, by go_num, rfl, ?_, by omega, by omega, HL.out⟩
                (repeat' (first | (with_reducible exact Below.refl _ _) | (with_reducible assumption) | (with_reducible refine Below.call ?_ ?_ (by with_reducible assumption)) | (with_reducible refine Below.alloc ?_ ?_ _) | (with_reducible refine Below.drew ?_) | (with_reducible refine below_drewN ?_ _) | (with_reducible refine Below.setCell ?_ ?_ _) | (with_reducible exact Nat.le_refl _) | omega | (simp only [World.size_alloc, World.size_setCell, World.size_drew, World.heap_drewN] at *; omega)))
    · have hkl : k = l.length := by omega
      rw [hkl, List.drop_of_length_le (Nat.le_refl _)] at hl
      have HL := Lib.hid hl
      clear hl hkl
      go_wp2
      go_ret
      exact ⟨ret_int HL.out, hbel⟩
theorem c_leapsErr (a : Option Addr) (cap : Nat) (l : List Lp) (w : World) (hc : l.length ≤ cap) (hs : LpSlice w a l) :
    Calls Try.prog 35 #[.slice a l.length cap] w fun e w' => e = .returned (.int .i64 (leapsErr l)) ∧ Below w.heap.size w w' := by
  by_cases h : 60 < l.length
  · have e : leapsErr l = 2 := by unfold leapsErr; rw [if_pos h]
    rw [e]; exact c_lps_large a _ cap w h
  · rw [leapsErr_small h]; exact c_lps_small a cap l w hc h hs
end Go.Proofs.Ytpjgoojaahbglaa
