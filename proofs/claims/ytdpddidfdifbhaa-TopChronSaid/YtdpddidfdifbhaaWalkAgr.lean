/- Contracts of the checks of intervals that should agree, and of how many contain a number. -/
import Derived.Test.YtdpddidfdifbhaaWalk1
import Derived.Test.YtdpddidfdifbhaaPlainAgr
import Derived.Test.YtdpddidfdifbhaaIxSpan2
import Derived.Deep.LoopGhost
import Derived.Deep.QuietTactic
import Derived.BigQuiet
import Derived.BigGuard
set_option linter.unusedVariables false
set_option linter.unusedSimpArgs false
namespace Go.Proofs.Ytdpddidfdifbhaa
open Go.RowKit
theorem c_sps_large (a : Option Addr) (len cap : Nat) (w : World) (h : 40 < len) : Calls Try.prog 16 #[.slice a len cap] w fun e w' => e = .returned (.int .i64 2) ∧ Below w.heap.size w w' := by
  have hgen := sgen; have hgen2 := sgen2; have hgen3 := sgen3; go_enter Try.func16, Try.ntmps16
  go_wp2
  go_ret
  exact ⟨rfl, Below.refl _ _⟩
theorem c_spc_large (a : Option Addr) (len cap : Nat) (w : World) (h : 40 < len) : Calls Try.prog 17 #[.slice a len cap] w fun e w' => e = .returned (.int .i64 2) ∧ Below w.heap.size w w' := by
  have hgen := sgen; have hgen2 := sgen2; have hgen3 := sgen3; go_enter Try.func17, Try.ntmps17
  go_wp2
  go_ret
  exact ⟨rfl, Below.refl _ _⟩
theorem c_sps_none (a : Option Addr) (cap : Nat) (w : World) : Calls Try.prog 16 #[.slice a 0 cap] w fun e w' => e = .returned (.int .i64 6) ∧ Below w.heap.size w w' := by
  have hgen := sgen; have hgen2 := sgen2; have hgen3 := sgen3; go_enter Try.func16, Try.ntmps16
  go_wp2
  go_ret
  exact ⟨rfl, Below.refl _ _⟩
theorem c_spc_none (a : Option Addr) (cap : Nat) (w : World) : Calls Try.prog 17 #[.slice a 0 cap] w fun e w' => e = .returned (.int .i64 6) ∧ Below w.heap.size w w' := by
  have hgen := sgen; have hgen2 := sgen2; have hgen3 := sgen3; go_enter Try.func17, Try.ntmps17
  go_wp2
  go_ret
  exact ⟨rfl, Below.refl _ _⟩
theorem c_sps_some (a : Option Addr) (cap : Nat) (l : List Sp) (w : World) (hc : l.length ≤ cap) (h40 : l.length ≤ 40) (h0 : 0 < l.length) (hs : SpSlice w a l) :
    Calls Try.prog 16 #[.slice a l.length cap] w fun e w' => e = .returned (.int .i64 (fe spsOne l)) ∧ Below w.heap.size w w' := by
  have h2 : (l.length : Int) ≤ 40 := by omega
  have h3 : ((l.length : Int) == 0) = false := beq_eq_false_iff_ne.2 (by omega)
  have hgen := sgen; have hgen2 := sgen2; have hgen3 := sgen3; go_enter Try.func16, Try.ntmps16
  go_wp2_with fail
  go_loopg [14] l.length (fun gk i wr => ∃ k : Nat, gk + k = l.length ∧ i = .int .i64 k ∧ Below w.heap.size w wr ∧ fe spsOne (l.take k) = 0)
  case atStart => exact ⟨0, by omega, rfl, Below.refl _ _, rfl⟩
  case round =>
    obtain ⟨k, hk, rfl, hbel, hfe⟩ := hrel
    by_cases hlt : k < l.length
    · obtain ⟨b, off, ha, hb1, c0, c1⟩ := (hs.below (Nat.le_refl _) hbel) k hlt
      have ix1 := @ix_Sp a b off l.length cap k ha hlt
      have hsz := hbel.size
      have hat := fe_at spsOne l k hlt hfe
      have hsn := fe_snoc spsOne l k hlt
      rw [if_pos hfe] at hsn
      clear ha hfe
      generalize l[k] = x at *
      have HS := Lib.hid hsn
      have HA := Lib.hid hat
      clear hsn hat
      by_cases hx : spanErr x.lo x.hi = 0
      · have x1 : (spanErr x.lo x.hi != 0) = false := by simp [hx]
        have HX := Lib.hid hx
        clear hx
        go_wp2_with (go_at_call 49; (refine (c_spanErr _ _ _).mono ?_); rintro e w1 ⟨rfl, hb⟩; have hz := hb.size; (try simp only [World.size_alloc, World.size_setCell, World.size_drew, World.heap_drewN] at hz); (try have h_wr_0 : wr.heap.size < w1.heap.size := by omega); (try have e_wr_0 : ¬ wr.heap.size = w1.heap.size := by omega); (try have d_wr_0 : ¬ w1.heap.size = wr.heap.size := by omega); (try (refine bcUse (n := wr.heap.size) hb ?_ ?_; (focus ((try simp only [World.size_alloc, World.size_setCell, World.size_drew, World.heap_drewN]); omega)); intro _ _)))
        go_roundg (l.length - (k + 1))
        case measure => omega
        case rel =>
          refine ⟨k + 1, by omega, by go_num, ?_, by rw [HS.out]; exact HX.out⟩
          (repeat' (first | (with_reducible exact Below.refl _ _) | (with_reducible assumption) | (with_reducible refine Below.call ?_ ?_ (by with_reducible assumption)) | (with_reducible refine Below.alloc ?_ ?_ _) | (with_reducible refine Below.drew ?_) | (with_reducible refine below_drewN ?_ _) | (with_reducible refine Below.setCell ?_ ?_ _) | (with_reducible exact Nat.le_refl _) | omega | (simp only [World.size_alloc, World.size_setCell, World.size_drew, World.heap_drewN] at *; omega)))
      · have x1 : (spanErr x.lo x.hi != 0) = true := by simp [hx]
        have HX := Lib.hid hx
        clear hx
        go_wp2_with (go_at_call 49; (refine (c_spanErr _ _ _).mono ?_); rintro e w1 ⟨rfl, hb⟩; have hz := hb.size; (try simp only [World.size_alloc, World.size_setCell, World.size_drew, World.heap_drewN] at hz); (try have h_wr_0 : wr.heap.size < w1.heap.size := by omega); (try have e_wr_0 : ¬ wr.heap.size = w1.heap.size := by omega); (try have d_wr_0 : ¬ w1.heap.size = wr.heap.size := by omega); (try (refine bcUse (n := wr.heap.size) hb ?_ ?_; (focus ((try simp only [World.size_alloc, World.size_setCell, World.size_drew, World.heap_drewN]); omega)); intro _ _)))
        go_ret
        refine ⟨ret_int (HA.out HX.out).symm, ?_⟩
        (repeat' (first | (with_reducible exact Below.refl _ _) | (with_reducible assumption) | (with_reducible refine Below.call ?_ ?_ (by with_reducible assumption)) | (with_reducible refine Below.alloc ?_ ?_ _) | (with_reducible refine Below.drew ?_) | (with_reducible refine below_drewN ?_ _) | (with_reducible refine Below.setCell ?_ ?_ _) | (with_reducible exact Nat.le_refl _) | omega | (simp only [World.size_alloc, World.size_setCell, World.size_drew, World.heap_drewN] at *; omega)))
    · have hkl : k = l.length := by omega
      rw [hkl, List.take_of_length_le (Nat.le_refl _)] at hfe
      have HF := Lib.hid hfe
      clear hfe hkl
      go_wp2
      go_ret
      exact ⟨ret_int HF.out.symm, hbel⟩
theorem c_spc_some (a : Option Addr) (cap : Nat) (l : List Sp) (w : World) (hc : l.length ≤ cap) (h40 : l.length ≤ 40) (h0 : 0 < l.length) (hs : SpSlice w a l) :
    Calls Try.prog 17 #[.slice a l.length cap] w fun e w' => e = .returned (.int .i64 (fe spsOne l)) ∧ Below w.heap.size w w' := by
  have h2 : (l.length : Int) ≤ 40 := by omega
  have h3 : ((l.length : Int) == 0) = false := beq_eq_false_iff_ne.2 (by omega)
  have hgen := sgen; have hgen2 := sgen2; have hgen3 := sgen3; go_enter Try.func17, Try.ntmps17
  go_wp2_with fail
  go_loopg [14] l.length (fun gk i wr => ∃ k : Nat, gk + k = l.length ∧ i = .int .i64 k ∧ Below w.heap.size w wr ∧ fe spsOne (l.take k) = 0)
  case atStart => exact ⟨0, by omega, rfl, Below.refl _ _, rfl⟩
  case round =>
    obtain ⟨k, hk, rfl, hbel, hfe⟩ := hrel
    by_cases hlt : k < l.length
    · obtain ⟨b, off, ha, hb1, c0, c1⟩ := (hs.below (Nat.le_refl _) hbel) k hlt
      have ix1 := @ix_Sp a b off l.length cap k ha hlt
      have hsz := hbel.size
      have hat := fe_at spsOne l k hlt hfe
      have hsn := fe_snoc spsOne l k hlt
      rw [if_pos hfe] at hsn
      clear ha hfe
      generalize l[k] = x at *
      have HS := Lib.hid hsn
      have HA := Lib.hid hat
      clear hsn hat
      by_cases hx : spanErr x.lo x.hi = 0
      · have x1 : (spanErr x.lo x.hi != 0) = false := by simp [hx]
        have HX := Lib.hid hx
        clear hx
        go_wp2_with (go_at_call 50; (refine (c_intervalCheck _ _ _).mono ?_); rintro e w1 ⟨rfl, hb⟩; have hz := hb.size; (try simp only [World.size_alloc, World.size_setCell, World.size_drew, World.heap_drewN] at hz); (try have h_wr_0 : wr.heap.size < w1.heap.size := by omega); (try have e_wr_0 : ¬ wr.heap.size = w1.heap.size := by omega); (try have d_wr_0 : ¬ w1.heap.size = wr.heap.size := by omega); (try (refine bcUse (n := wr.heap.size) hb ?_ ?_; (focus ((try simp only [World.size_alloc, World.size_setCell, World.size_drew, World.heap_drewN]); omega)); intro _ _)))
        go_roundg (l.length - (k + 1))
        case measure => omega
        case rel =>
          refine ⟨k + 1, by omega, by go_num, ?_, by rw [HS.out]; exact HX.out⟩
          (repeat' (first | (with_reducible exact Below.refl _ _) | (with_reducible assumption) | (with_reducible refine Below.call ?_ ?_ (by with_reducible assumption)) | (with_reducible refine Below.alloc ?_ ?_ _) | (with_reducible refine Below.drew ?_) | (with_reducible refine below_drewN ?_ _) | (with_reducible refine Below.setCell ?_ ?_ _) | (with_reducible exact Nat.le_refl _) | omega | (simp only [World.size_alloc, World.size_setCell, World.size_drew, World.heap_drewN] at *; omega)))
      · have x1 : (spanErr x.lo x.hi != 0) = true := by simp [hx]
        have HX := Lib.hid hx
        clear hx
        go_wp2_with (go_at_call 50; (refine (c_intervalCheck _ _ _).mono ?_); rintro e w1 ⟨rfl, hb⟩; have hz := hb.size; (try simp only [World.size_alloc, World.size_setCell, World.size_drew, World.heap_drewN] at hz); (try have h_wr_0 : wr.heap.size < w1.heap.size := by omega); (try have e_wr_0 : ¬ wr.heap.size = w1.heap.size := by omega); (try have d_wr_0 : ¬ w1.heap.size = wr.heap.size := by omega); (try (refine bcUse (n := wr.heap.size) hb ?_ ?_; (focus ((try simp only [World.size_alloc, World.size_setCell, World.size_drew, World.heap_drewN]); omega)); intro _ _)))
        go_ret
        refine ⟨ret_int (HA.out HX.out).symm, ?_⟩
        (repeat' (first | (with_reducible exact Below.refl _ _) | (with_reducible assumption) | (with_reducible refine Below.call ?_ ?_ (by with_reducible assumption)) | (with_reducible refine Below.alloc ?_ ?_ _) | (with_reducible refine Below.drew ?_) | (with_reducible refine below_drewN ?_ _) | (with_reducible refine Below.setCell ?_ ?_ _) | (with_reducible exact Nat.le_refl _) | omega | (simp only [World.size_alloc, World.size_setCell, World.size_drew, World.heap_drewN] at *; omega)))
    · have hkl : k = l.length := by omega
      rw [hkl, List.take_of_length_le (Nat.le_refl _)] at hfe
      have HF := Lib.hid hfe
      clear hfe hkl
      go_wp2
      go_ret
      exact ⟨ret_int HF.out.symm, hbel⟩
theorem c_sps (a : Option Addr) (cap : Nat) (l : List Sp) (w : World) (hc : l.length ≤ cap) (hs : SpSlice w a l) :
    Calls Try.prog 16 #[.slice a l.length cap] w fun e w' => e = .returned (.int .i64 (spsErr l)) ∧ Below w.heap.size w w' := by
  unfold spsErr
  by_cases h : 40 < l.length
  · rw [if_pos h]; exact c_sps_large a _ cap w h
  · rw [if_neg h]
    by_cases h0 : l.length = 0
    · rw [if_pos h0, h0]; exact c_sps_none a cap w
    · rw [if_neg h0]; exact c_sps_some a cap l w hc (by omega) (by omega) hs
theorem c_agCheck (a : Option Addr) (cap : Nat) (l : List Sp) (w : World) (hc : l.length ≤ cap) (hs : SpSlice w a l) :
    Calls Try.prog 17 #[.slice a l.length cap] w fun e w' => e = .returned (.int .i64 (spsErr l)) ∧ Below w.heap.size w w' := by
  unfold spsErr
  by_cases h : 40 < l.length
  · rw [if_pos h]; exact c_spc_large a _ cap w h
  · rw [if_neg h]
    by_cases h0 : l.length = 0
    · rw [if_pos h0, h0]; exact c_spc_none a cap w
    · rw [if_neg h0]; exact c_spc_some a cap l w hc (by omega) (by omega) hs
theorem c_cover (a : Option Addr) (cap : Nat) (l : List Sp) (n : Int) (w : World) (hc : l.length ≤ cap) (h40 : l.length ≤ 40) (hs : SpSlice w a l) :
    Calls Try.prog 19 #[.slice a l.length cap, .int .i64 n] w fun e w' => e = .returned (.int .i64 (cov l n)) ∧ Below w.heap.size w w' := by
  have h2 : (l.length : Int) ≤ 40 := by omega
  have hgen := sgen; have hgen2 := sgen2; have hgen3 := sgen3; go_enter Try.func19, Try.ntmps19
  go_wp2_with fail
  go_loopg [5, 10] l.length (fun gk x4 i wr => ∃ k : Nat, gk + k = l.length ∧ i = .int .i64 k ∧ x4 = .int .i64 (cov (l.take k) n) ∧ Below w.heap.size w wr)
  case atStart => exact ⟨0, by omega, rfl, rfl, Below.refl _ _⟩
  case round =>
    obtain ⟨k, hk, rfl, rfl, hbel⟩ := hrel
    by_cases hlt : k < l.length
    · obtain ⟨b, off, ha, hb1, c0, c1⟩ := (hs.below (Nat.le_refl _) hbel) k hlt
      have ix1 := @ix_Sp a b off l.length cap k ha hlt
      have hsz := hbel.size
      have hsn := cov_snoc l n k hlt
      obtain ⟨b1, b2⟩ := cov_bdk l n k
      clear ha
      generalize l[k] = x at *
      generalize cov (l.take k) n = q at *
      have HS := Lib.hid hsn
      clear hsn
      go_wp2
      all_goals
        go_roundg (l.length - (k + 1))
        case measure => omega
        case rel =>
          refine ⟨k + 1, by omega, by go_num, ?_, ?_⟩
          · rw [HS.out]; first | (rw [if_pos (by omega)]; done) | rw [if_neg (by omega)]
          · (repeat' (first | (with_reducible exact Below.refl _ _) | (with_reducible assumption) | (with_reducible refine Below.call ?_ ?_ (by with_reducible assumption)) | (with_reducible refine Below.alloc ?_ ?_ _) | (with_reducible refine Below.drew ?_) | (with_reducible refine below_drewN ?_ _) | (with_reducible refine Below.setCell ?_ ?_ _) | (with_reducible exact Nat.le_refl _) | omega | (simp only [World.size_alloc, World.size_setCell, World.size_drew, World.heap_drewN] at *; omega)))
    · have hkl : k = l.length := by omega
      rw [hkl, List.take_of_length_le (Nat.le_refl _)]
      clear hkl
      go_wp2
      go_ret
      exact ⟨rfl, hbel⟩
theorem c_depth (a : Option Addr) (cap : Nat) (l : List Sp) (n : Int) (w : World) (hc : l.length ≤ cap) (h40 : l.length ≤ 40) (hs : SpSlice w a l) :
    Calls Try.prog 51 #[.slice a l.length cap, .int .i64 n] w fun e w' => e = .returned (.int .i64 (cov l n)) ∧ Below w.heap.size w w' := by
  have h2 : (l.length : Int) ≤ 40 := by omega
  have hgen := sgen; have hgen2 := sgen2; have hgen3 := sgen3; go_enter Try.func51, Try.ntmps51
  go_wp2_with fail
  go_loopg [5, 10] l.length (fun gk x4 i wr => ∃ k : Nat, gk + k = l.length ∧ i = .int .i64 k ∧ x4 = .int .i64 (cov (l.take k) n) ∧ Below w.heap.size w wr)
  case atStart => exact ⟨0, by omega, rfl, rfl, Below.refl _ _⟩
  case round =>
    obtain ⟨k, hk, rfl, rfl, hbel⟩ := hrel
    by_cases hlt : k < l.length
    · obtain ⟨b, off, ha, hb1, c0, c1⟩ := (hs.below (Nat.le_refl _) hbel) k hlt
      have ix1 := @ix_Sp a b off l.length cap k ha hlt
      have hsz := hbel.size
      have hsn := cov_snoc l n k hlt
      obtain ⟨b1, b2⟩ := cov_bdk l n k
      clear ha
      generalize l[k] = x at *
      generalize cov (l.take k) n = q at *
      have HS := Lib.hid hsn
      clear hsn
      go_wp2
      all_goals
        go_roundg (l.length - (k + 1))
        case measure => omega
        case rel =>
          refine ⟨k + 1, by omega, by go_num, ?_, ?_⟩
          · rw [HS.out]; first | (rw [if_pos (by omega)]; done) | rw [if_neg (by omega)]
          · (repeat' (first | (with_reducible exact Below.refl _ _) | (with_reducible assumption) | (with_reducible refine Below.call ?_ ?_ (by with_reducible assumption)) | (with_reducible refine Below.alloc ?_ ?_ _) | (with_reducible refine Below.drew ?_) | (with_reducible refine below_drewN ?_ _) | (with_reducible refine Below.setCell ?_ ?_ _) | (with_reducible exact Nat.le_refl _) | omega | (simp only [World.size_alloc, World.size_setCell, World.size_drew, World.heap_drewN] at *; omega)))
    · have hkl : k = l.length := by omega
      rw [hkl, List.take_of_length_le (Nat.le_refl _)]
      clear hkl
      go_wp2
      go_ret
      exact ⟨rfl, hbel⟩
theorem c_starts (a : Option Addr) (cap : Nat) (l : List Sp) (n : Int) (w : World) (hc : l.length ≤ cap) (h40 : l.length ≤ 40) (hs : SpSlice w a l) :
    Calls Try.prog 20 #[.slice a l.length cap, .int .i64 n] w fun e w' => e = .returned (.int .i64 (starts l n)) ∧ Below w.heap.size w w' := by
  have h2 : (l.length : Int) ≤ 40 := by omega
  have hgen := sgen; have hgen2 := sgen2; have hgen3 := sgen3; go_enter Try.func20, Try.ntmps20
  go_wp2_with fail
  go_loopg [5, 10] l.length (fun gk x4 i wr => ∃ k : Nat, gk + k = l.length ∧ i = .int .i64 k ∧ x4 = .int .i64 (starts (l.take k) n) ∧ Below w.heap.size w wr)
  case atStart => exact ⟨0, by omega, rfl, rfl, Below.refl _ _⟩
  case round =>
    obtain ⟨k, hk, rfl, rfl, hbel⟩ := hrel
    by_cases hlt : k < l.length
    · obtain ⟨b, off, ha, hb1, c0, c1⟩ := (hs.below (Nat.le_refl _) hbel) k hlt
      have ix1 := @ix_Sp a b off l.length cap k ha hlt
      have hsz := hbel.size
      have hsn := starts_snoc l n k hlt
      obtain ⟨b1, b2⟩ := starts_bdk l n k
      clear ha
      generalize l[k] = x at *
      generalize starts (l.take k) n = q at *
      have HS := Lib.hid hsn
      clear hsn
      by_cases g : x.lo = n
      · have g1 : (x.lo == n) = true := by simp [g]
        have G := Lib.hid g
        clear g
        go_wp2
        go_roundg (l.length - (k + 1))
        case measure => omega
        case rel =>
          refine ⟨k + 1, by omega, by go_num, ?_, ?_⟩
          · rw [HS.out, if_pos G.out]
          · (repeat' (first | (with_reducible exact Below.refl _ _) | (with_reducible assumption) | (with_reducible refine Below.call ?_ ?_ (by with_reducible assumption)) | (with_reducible refine Below.alloc ?_ ?_ _) | (with_reducible refine Below.drew ?_) | (with_reducible refine below_drewN ?_ _) | (with_reducible refine Below.setCell ?_ ?_ _) | (with_reducible exact Nat.le_refl _) | omega | (simp only [World.size_alloc, World.size_setCell, World.size_drew, World.heap_drewN] at *; omega)))
      · have g1 : (x.lo == n) = false := by simp [g]
        have G := Lib.hid g
        clear g
        go_wp2
        go_roundg (l.length - (k + 1))
        case measure => omega
        case rel =>
          refine ⟨k + 1, by omega, by go_num, ?_, ?_⟩
          · rw [HS.out, if_neg G.out]
          · (repeat' (first | (with_reducible exact Below.refl _ _) | (with_reducible assumption) | (with_reducible refine Below.call ?_ ?_ (by with_reducible assumption)) | (with_reducible refine Below.alloc ?_ ?_ _) | (with_reducible refine Below.drew ?_) | (with_reducible refine below_drewN ?_ _) | (with_reducible refine Below.setCell ?_ ?_ _) | (with_reducible exact Nat.le_refl _) | omega | (simp only [World.size_alloc, World.size_setCell, World.size_drew, World.heap_drewN] at *; omega)))
    · have hkl : k = l.length := by omega
      rw [hkl, List.take_of_length_le (Nat.le_refl _)]
      clear hkl
      go_wp2
      go_ret
      exact ⟨rfl, hbel⟩
end Go.Proofs.Ytdpddidfdifbhaa
