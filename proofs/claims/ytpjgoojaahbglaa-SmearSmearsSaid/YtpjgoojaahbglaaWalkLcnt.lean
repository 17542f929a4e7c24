/- Contracts of leap.Count and of the reference's Count. -/
import Derived.Test.YtpjgoojaahbglaaWalkLsum
set_option linter.unusedVariables false
set_option linter.unusedSimpArgs false
namespace Go.Proofs.Ytpjgoojaahbglaa
open Go.RowKit
/-- The day and the millisecond of an instant. -/
def dOf (t : Int) : Int := t / 86400000
def mOf (t : Int) : Int := t % 86400000
theorem dm_of (t : Int) : t = 86400000 * dOf t + mOf t ∧ 0 ≤ mOf t ∧ mOf t < 86400000 := by unfold dOf mOf; omega
set_option maxHeartbeats 2000000 in
theorem c_refCount (a : Option Addr) (cap : Nat) (l : List Lp) (t : Int) (w : World) (hc : l.length ≤ cap) (hv : LpOk l) (hs : LpSlice w a l) (t1 : -400000000000000 ≤ t) (t2 : t ≤ 400000000000000) :
    Calls Try.prog 41 #[.slice a l.length cap, .int .i64 t] w fun e w' => Below w.heap.size w w' ∧ ((gapB l (dOf t) (mOf t) = true ∧ e = .returned (.tuple #[.int .i64 0, .bool false])) ∨ (gapB l (dOf t) (mOf t) = false ∧ e = .returned (.tuple #[.int .i64 (t + 1000 * lpSum l (dOf t)), .bool true]))) := by
  have h2 := hv.len
  obtain ⟨e0, e1, e2⟩ := dm_of t
  generalize dOf t = d at *
  generalize mOf t = m at *
  have ET := Lib.hid e0
  clear e0
  have hgen := sgen; have hgen2 := sgen2; have hgen3 := sgen3; go_enter Try.func41, Try.ntmps41
  go_wp2_with fail
  go_loopg [6, 13] l.length (fun gk x6 i wr => ∃ k : Nat, gk + k = l.length ∧ i = .int .i64 k ∧ x6 = .int .i64 (t + 1000 * lpSum (l.take k) d) ∧ Below w.heap.size w wr ∧ gapB (l.take k) d m = false)
  case atStart => exact ⟨0, by omega, rfl, by simp [lpSum], Below.refl _ _, rfl⟩
  case round =>
    obtain ⟨k, hk, rfl, rfl, hbel, hgap⟩ := hrel
    by_cases hlt : k < l.length
    · obtain ⟨b, off, ha, hb1, c0, c1⟩ := (hs.below (Nat.le_refl _) hbel) k hlt
      have ix1 := @ix_Lp a b off l.length cap k ha hlt
      have hsz := hbel.size
      have hsn := lpSum_snoc l d k hlt
      have hsh := hv.sh k hlt
      have hlo := hv.lo k hlt
      have hhi := hv.hi k hlt
      have hga := gap_at l d m k hlt
      have hgs := gap_snoc l d m k hlt
      rw [hgap, Bool.false_or] at hgs
      obtain ⟨b1, b2⟩ := lpSum_bd hv d k (by omega)
      clear ha hgap
      generalize l[k] = x at *
      generalize lpSum (l.take k) d = n at *
      have HS := Lib.hid hsn
      have HG := Lib.hid hgs
      have HA := Lib.hid hga
      have h3 : -1 ≤ x.sh := by omega
      have h4 : x.sh ≤ 1 := by omega
      clear hsn hgs hga
      by_cases hd : x.day < d
      · have hlt' : (x.day + 1) * 86400000 ≤ t := by have := ET.out; omega
        have hgo : gapOne d m x = false := by
          unfold gapOne
          have : (x.day == d) = false := by simp; omega
          simp [this]
        have HGO := Lib.hid hgo
        clear hgo hsh
        go_wp2
        go_roundg (l.length - (k + 1))
        case measure => omega
        case rel =>
          refine ⟨k + 1, by omega, by go_num, ?_, ?_, by rw [HG.out]; exact HGO.out⟩
          · rw [HS.out, if_pos hd]; congr 1; omega
          · (repeat' (first | (with_reducible exact Below.refl _ _) | (with_reducible assumption) | (with_reducible refine Below.call ?_ ?_ (by with_reducible assumption)) | (with_reducible refine Below.alloc ?_ ?_ _) | (with_reducible refine Below.drew ?_) | (with_reducible refine below_drewN ?_ _) | (with_reducible refine Below.setCell ?_ ?_ _) | (with_reducible exact Nat.le_refl _) | omega | (simp only [World.size_alloc, World.size_setCell, World.size_drew, World.heap_drewN] at *; omega)))
      · have hlt' : t < (x.day + 1) * 86400000 := by have := ET.out; omega
        rcases hsh with hsh | hsh
        · have s1 : (x.sh == -1) = false := by simp [hsh]
          have hgo : gapOne d m x = false := by simp [gapOne, s1]
          have HGO := Lib.hid hgo
          clear hgo hsh
          go_wp2
          go_roundg (l.length - (k + 1))
          case measure => omega
          case rel =>
            refine ⟨k + 1, by omega, by go_num, ?_, ?_, by rw [HG.out]; exact HGO.out⟩
            · rw [HS.out, if_neg (by omega)]
            · (repeat' (first | (with_reducible exact Below.refl _ _) | (with_reducible assumption) | (with_reducible refine Below.call ?_ ?_ (by with_reducible assumption)) | (with_reducible refine Below.alloc ?_ ?_ _) | (with_reducible refine Below.drew ?_) | (with_reducible refine below_drewN ?_ _) | (with_reducible refine Below.setCell ?_ ?_ _) | (with_reducible exact Nat.le_refl _) | omega | (simp only [World.size_alloc, World.size_setCell, World.size_drew, World.heap_drewN] at *; omega)))
        · have s1 : (x.sh == -1) = true := by simp [hsh]
          by_cases hgp : x.day = d ∧ 86399000 ≤ m
          · have hgo : gapOne d m x = true := by simp [gapOne, s1, hgp.1, hgp.2]
            have hge : (x.day + 1) * 86400000 - 1000 ≤ t := by have := ET.out; omega
            have HGO := Lib.hid hgo
            clear hgo hsh hgp
            go_wp2
            go_ret2
            refine ⟨?_, .inl ⟨HA.out HGO.out, rfl⟩⟩
            (repeat' (first | (with_reducible exact Below.refl _ _) | (with_reducible assumption) | (with_reducible refine Below.call ?_ ?_ (by with_reducible assumption)) | (with_reducible refine Below.alloc ?_ ?_ _) | (with_reducible refine Below.drew ?_) | (with_reducible refine below_drewN ?_ _) | (with_reducible refine Below.setCell ?_ ?_ _) | (with_reducible exact Nat.le_refl _) | omega | (simp only [World.size_alloc, World.size_setCell, World.size_drew, World.heap_drewN] at *; omega)))
          · have hgo : gapOne d m x = false := by
              unfold gapOne
              by_cases h5 : x.day = d
              · have : decide (86399000 ≤ m) = false := by simp; omega
                simp [this]
              · have : (x.day == d) = false := by simp [h5]
                simp [this]
            have hge : t < (x.day + 1) * 86400000 - 1000 := by have := ET.out; omega
            have HGO := Lib.hid hgo
            clear hgo hsh hgp
            go_wp2
            go_roundg (l.length - (k + 1))
            case measure => omega
            case rel =>
              refine ⟨k + 1, by omega, by go_num, ?_, ?_, by rw [HG.out]; exact HGO.out⟩
              · rw [HS.out, if_neg (by omega)]
              · (repeat' (first | (with_reducible exact Below.refl _ _) | (with_reducible assumption) | (with_reducible refine Below.call ?_ ?_ (by with_reducible assumption)) | (with_reducible refine Below.alloc ?_ ?_ _) | (with_reducible refine Below.drew ?_) | (with_reducible refine below_drewN ?_ _) | (with_reducible refine Below.setCell ?_ ?_ _) | (with_reducible exact Nat.le_refl _) | omega | (simp only [World.size_alloc, World.size_setCell, World.size_drew, World.heap_drewN] at *; omega)))
    · have hkl : k = l.length := by omega
      have e : lpSum (l.take k) d = lpSum l d := by rw [hkl, List.take_of_length_le (Nat.le_refl _)]
      have e' : gapB l d m = false := by rw [hkl, List.take_of_length_le (Nat.le_refl _)] at hgap; exact hgap
      have HE := Lib.hid e
      have HE' := Lib.hid e'
      clear hkl e e' hgap
      go_wp2
      go_ret2
      exact ⟨hbel, .inr ⟨HE'.out, by rw [← HE.out]; rfl⟩⟩
/-- Whatever the table: it answers something. -/
theorem c_refCount_any (a : Option Addr) (cap : Nat) (l : List Lp) (t : Int) (w : World) (hc : l.length ≤ cap) (hm : cap ≤ 9223372036854775807) (hs : LpSlice w a l) :
    Calls Try.prog 41 #[.slice a l.length cap, .int .i64 t] w fun e w' => Below w.heap.size w w' ∧ ∃ c : Int, ∃ is : Bool, e = .returned (.tuple #[.int .i64 c, .bool is]) := by
  have hgen := sgen; have hgen2 := sgen2; have hgen3 := sgen3; go_enter Try.func41, Try.ntmps41
  go_wp2_with fail
  go_loopg [6, 13] l.length (fun gk x6 i wr => ∃ k : Nat, ∃ c : Int, gk + k = l.length ∧ i = .int .i64 k ∧ x6 = .int .i64 c ∧ Below w.heap.size w wr)
  case atStart => exact ⟨0, t, by omega, rfl, rfl, Below.refl _ _⟩
  case round =>
    obtain ⟨k, c, hk, rfl, rfl, hbel⟩ := hrel
    by_cases hlt : k < l.length
    · obtain ⟨b, off, ha, hb1, c0, c1⟩ := (hs.below (Nat.le_refl _) hbel) k hlt
      have ix1 := @ix_Lp a b off l.length cap k ha hlt
      have hsz := hbel.size
      clear ha
      generalize l[k] = x at *
      go_wp2
      all_goals first
        | (go_ret2; refine ⟨?_, _, _, rfl⟩; (repeat' (first | (with_reducible exact Below.refl _ _) | (with_reducible assumption) | (with_reducible refine Below.call ?_ ?_ (by with_reducible assumption)) | (with_reducible refine Below.alloc ?_ ?_ _) | (with_reducible refine Below.drew ?_) | (with_reducible refine below_drewN ?_ _) | (with_reducible refine Below.setCell ?_ ?_ _) | (with_reducible exact Nat.le_refl _) | omega | (simp only [World.size_alloc, World.size_setCell, World.size_drew, World.heap_drewN] at *; omega))))
        | (go_roundg (l.length - (k + 1)); (focus (refine ⟨k + 1, _, by omega, by go_num, rfl, ?_⟩; (repeat' (first | (with_reducible exact Below.refl _ _) | (with_reducible assumption) | (with_reducible refine Below.call ?_ ?_ (by with_reducible assumption)) | (with_reducible refine Below.alloc ?_ ?_ _) | (with_reducible refine Below.drew ?_) | (with_reducible refine below_drewN ?_ _) | (with_reducible refine Below.setCell ?_ ?_ _) | (with_reducible exact Nat.le_refl _) | omega | (simp only [World.size_alloc, World.size_setCell, World.size_drew, World.heap_drewN] at *; omega))))); omega)
    · go_wp2
      go_ret2
      exact ⟨hbel, _, _, rfl⟩
theorem c_leapCount_bad (a : Option Addr) (cap : Nat) (l : List Lp) (t : Int) (w : World) (hc : l.length ≤ cap) (h : leapsErr l ≠ 0) (hs : LpSlice w a l) :
    Calls Try.prog 43 #[.slice a l.length cap, .int .i64 t] w fun e w' => e = .returned (.tuple #[.int .i64 0, .int .i64 (leapsErr l)]) ∧ Below w.heap.size w w' := by
  have h1 : (leapsErr l != 0) = true := by simp [h]
  have hgen := sgen; have hgen2 := sgen2; have hgen3 := sgen3; go_enter Try.func43, Try.ntmps43
  go_wp2_with (go_at_call 44; refine (c_leapCheck _ _ l _ hc hs).mono ?_; rintro e w1 ⟨rfl, hb⟩; have hz := hb.size; (try simp only [World.size_alloc, World.size_setCell, World.size_drew, World.heap_drewN] at hz); (try have h_w_0 : w.heap.size < w1.heap.size := by omega); (try have e_w_0 : ¬ w.heap.size = w1.heap.size := by omega); (try have d_w_0 : ¬ w1.heap.size = w.heap.size := by omega); (try (refine bcUse (n := w.heap.size) hb ?_ ?_; (focus ((try simp only [World.size_alloc, World.size_setCell, World.size_drew, World.heap_drewN]); omega)); intro _ _)))
  go_ret2
  refine ⟨rfl, ?_⟩
  (repeat' (first | (with_reducible exact Below.refl _ _) | (with_reducible assumption) | (with_reducible refine Below.call ?_ ?_ (by with_reducible assumption)) | (with_reducible refine Below.alloc ?_ ?_ _) | (with_reducible refine Below.drew ?_) | (with_reducible refine below_drewN ?_ _) | (with_reducible refine Below.setCell ?_ ?_ _) | (with_reducible exact Nat.le_refl _) | omega | (simp only [World.size_alloc, World.size_setCell, World.size_drew, World.heap_drewN] at *; omega)))
theorem c_leapCount_range (a : Option Addr) (cap : Nat) (l : List Lp) (t : Int) (w : World) (hc : l.length ≤ cap) (h : leapsErr l = 0) (hs : LpSlice w a l) (t1 : -9223372036854775808 ≤ t) (t2 : t ≤ 9223372036854775807) (hd : dayB (t / 86400000) = false) :
    Calls Try.prog 43 #[.slice a l.length cap, .int .i64 t] w fun e w' => e = .returned (.tuple #[.int .i64 0, .int .i64 3]) ∧ Below w.heap.size w w' := by
  have h1 : (leapsErr l != 0) = false := by simp [h]
  have hgen := sgen; have hgen2 := sgen2; have hgen3 := sgen3; go_enter Try.func43, Try.ntmps43
  go_wp2_with (first | (go_at_call 44; refine (c_leapCheck _ _ l _ hc hs).mono ?_; rintro e w1 ⟨rfl, hb⟩; have hz := hb.size; (try simp only [World.size_alloc, World.size_setCell, World.size_drew, World.heap_drewN] at hz); (try have h_w_0 : w.heap.size < w1.heap.size := by omega); (try have e_w_0 : ¬ w.heap.size = w1.heap.size := by omega); (try have d_w_0 : ¬ w1.heap.size = w.heap.size := by omega); (try (refine bcUse (n := w.heap.size) hb ?_ ?_; (focus ((try simp only [World.size_alloc, World.size_setCell, World.size_drew, World.heap_drewN]); omega)); intro _ _))) | (go_at_call 55; refine (c_div t 86400000 _ (by omega) t1 t2 (by omega)).mono ?_; rintro e w' ⟨rfl, n, rfl⟩) | (go_at_call 56; refine (c_lineIs _ _).mono ?_; rintro e w' ⟨rfl, rfl⟩))
  go_ret2
  refine ⟨rfl, ?_⟩
  (repeat' (first | (with_reducible exact Below.refl _ _) | (with_reducible assumption) | (with_reducible refine Below.call ?_ ?_ (by with_reducible assumption)) | (with_reducible refine Below.alloc ?_ ?_ _) | (with_reducible refine Below.drew ?_) | (with_reducible refine below_drewN ?_ _) | (with_reducible refine Below.setCell ?_ ?_ _) | (with_reducible exact Nat.le_refl _) | omega | (simp only [World.size_alloc, World.size_setCell, World.size_drew, World.heap_drewN] at *; omega)))
set_option maxHeartbeats 2000000 in
theorem c_leapCount' (a : Option Addr) (cap : Nat) (l : List Lp) (t d m : Int) (w : World) (hc : l.length ≤ cap) (h : leapsErr l = 0) (hs : LpSlice w a l) (t1 : -9223372036854775808 ≤ t) (t2 : t ≤ 9223372036854775807) (hd : dayB d = true) (e1 : t / 86400000 = d) (e2 : t % 86400000 = m) :
    Calls Try.prog 43 #[.slice a l.length cap, .int .i64 t] w fun e w' => Below w.heap.size w w' ∧ ((gapB l d m = true ∧ e = .returned (.tuple #[.int .i64 0, .int .i64 15])) ∨ (gapB l d m = false ∧ e = .returned (.tuple #[.int .i64 (t + 1000 * lpSum l d), .int .i64 0]))) := by
  have h1 : (leapsErr l != 0) = false := by simp [h]
  have hv := lpOk_of h
  have h2 := hv.len
  have hdd : -4000000 ≤ d ∧ d ≤ 4000000 := by simpa [dayB] using hd
  have ht : -345600000000000 ≤ t ∧ t < 345600086400000 := by omega
  obtain ⟨b1, b2⟩ := lpSum_bd hv d l.length (Nat.le_refl _)
  rw [List.take_of_length_le (Nat.le_refl _)] at b1 b2
  have m1 : 0 ≤ m := by omega
  have m2 : m < 86400000 := by omega
  obtain ⟨ht1, ht2⟩ := ht
  clear hdd
  have hgen := sgen; have hgen2 := sgen2; have hgen3 := sgen3; go_enter Try.func43, Try.ntmps43
  go_wp2_with (first | (go_at_call 44; refine (c_leapCheck _ _ l _ hc hs).mono ?_; rintro e w1 ⟨rfl, hb⟩; have hz := hb.size; (try simp only [World.size_alloc, World.size_setCell, World.size_drew, World.heap_drewN] at hz); (try have h_w_0 : w.heap.size < w1.heap.size := by omega); (try have e_w_0 : ¬ w.heap.size = w1.heap.size := by omega); (try have d_w_0 : ¬ w1.heap.size = w.heap.size := by omega); (try (refine bcUse (n := w.heap.size) hb ?_ ?_; (focus ((try simp only [World.size_alloc, World.size_setCell, World.size_drew, World.heap_drewN]); omega)); intro _ _))) | (go_at_call 55; refine (c_div t 86400000 _ (by omega) t1 t2 (by omega)).mono ?_; rintro e w' ⟨rfl, n, rfl⟩) | (go_at_call 56; refine (c_lineIs _ _).mono ?_; rintro e w' ⟨rfl, rfl⟩))
  have hbw1 : Below w.heap.size w w1 := by assumption
  go_loopg [28] l.length (fun gk i wr => ∃ k : Nat, gk + k = l.length ∧ i = .int .i64 k ∧ Below w.heap.size w wr ∧ gapB (l.take k) d m = false)
  case atStart => exact ⟨0, by omega, rfl, below_drewN hbw1 _, rfl⟩
  case round =>
    obtain ⟨k, hk, rfl, hbel, hgap⟩ := hrel
    by_cases hlt : k < l.length
    · obtain ⟨b, off, ha, hblk, c0, c1⟩ := (hs.below (Nat.le_refl _) hbel) k hlt
      have ix1 := @ix_Lp a b off l.length cap k ha hlt
      have hsz := hbel.size
      have hga := gap_at l d m k hlt
      have hgs := gap_snoc l d m k hlt
      rw [hgap, Bool.false_or] at hgs
      clear ha hgap
      generalize l[k] = x at *
      have HG := Lib.hid hgs
      have HA := Lib.hid hga
      clear hgs hga
      by_cases hsh : x.sh = -1
      · have s1 : (x.sh == -1) = true := by simp [hsh]
        by_cases h5 : x.day = d
        · have s2 : (x.day == d) = true := by simp [h5]
          by_cases h6 : 86399000 ≤ m
          · have hgo : gapOne d m x = true := by simp [gapOne, s1, s2, h6]
            have HGO := Lib.hid hgo
            clear hgo hsh h5
            go_wp2
            go_ret2
            refine ⟨?_, .inl ⟨HA.out HGO.out, rfl⟩⟩
            (repeat' (first | (with_reducible exact Below.refl _ _) | (with_reducible assumption) | (with_reducible refine Below.call ?_ ?_ (by with_reducible assumption)) | (with_reducible refine Below.alloc ?_ ?_ _) | (with_reducible refine Below.drew ?_) | (with_reducible refine below_drewN ?_ _) | (with_reducible refine Below.setCell ?_ ?_ _) | (with_reducible exact Nat.le_refl _) | omega | (simp only [World.size_alloc, World.size_setCell, World.size_drew, World.heap_drewN] at *; omega)))
          · have hgo : gapOne d m x = false := by
              have : decide (86399000 ≤ m) = false := by simp; omega
              simp [gapOne, this]
            have HGO := Lib.hid hgo
            clear hgo hsh h5
            go_wp2
            go_roundg (l.length - (k + 1))
            case measure => omega
            case rel =>
              refine ⟨k + 1, by omega, by go_num, ?_, by rw [HG.out]; exact HGO.out⟩
              (repeat' (first | (with_reducible exact Below.refl _ _) | (with_reducible assumption) | (with_reducible refine Below.call ?_ ?_ (by with_reducible assumption)) | (with_reducible refine Below.alloc ?_ ?_ _) | (with_reducible refine Below.drew ?_) | (with_reducible refine below_drewN ?_ _) | (with_reducible refine Below.setCell ?_ ?_ _) | (with_reducible exact Nat.le_refl _) | omega | (simp only [World.size_alloc, World.size_setCell, World.size_drew, World.heap_drewN] at *; omega)))
        · have s2 : (x.day == d) = false := by simp [h5]
          have hgo : gapOne d m x = false := by simp [gapOne, s2]
          have HGO := Lib.hid hgo
          clear hgo hsh h5
          go_wp2
          go_roundg (l.length - (k + 1))
          case measure => omega
          case rel =>
            refine ⟨k + 1, by omega, by go_num, ?_, by rw [HG.out]; exact HGO.out⟩
            (repeat' (first | (with_reducible exact Below.refl _ _) | (with_reducible assumption) | (with_reducible refine Below.call ?_ ?_ (by with_reducible assumption)) | (with_reducible refine Below.alloc ?_ ?_ _) | (with_reducible refine Below.drew ?_) | (with_reducible refine below_drewN ?_ _) | (with_reducible refine Below.setCell ?_ ?_ _) | (with_reducible exact Nat.le_refl _) | omega | (simp only [World.size_alloc, World.size_setCell, World.size_drew, World.heap_drewN] at *; omega)))
      · have s1 : (x.sh == -1) = false := by simp [hsh]
        have hgo : gapOne d m x = false := by simp [gapOne, s1]
        have HGO := Lib.hid hgo
        clear hgo hsh
        go_wp2
        go_roundg (l.length - (k + 1))
        case measure => omega
        case rel =>
          refine ⟨k + 1, by omega, by go_num, ?_, by rw [HG.out]; exact HGO.out⟩
          (repeat' (first | (with_reducible exact Below.refl _ _) | (with_reducible assumption) | (with_reducible refine Below.call ?_ ?_ (by with_reducible assumption)) | (with_reducible refine Below.alloc ?_ ?_ _) | (with_reducible refine Below.drew ?_) | (with_reducible refine below_drewN ?_ _) | (with_reducible refine Below.setCell ?_ ?_ _) | (with_reducible exact Nat.le_refl _) | omega | (simp only [World.size_alloc, World.size_setCell, World.size_drew, World.heap_drewN] at *; omega)))
    · have hkl : k = l.length := by omega
      rw [hkl, List.take_of_length_le (Nat.le_refl _)] at hgap
      have HE' := Lib.hid hgap
      have hsz := hbel.size
      clear hkl hgap
      go_wp2_with (go_at_call 57; refine (c_lsum _ _ l _ _ hc hv (hs.below (Nat.le_refl _) hbel)).mono ?_; rintro e w2 ⟨rfl, hb⟩; have hz := hb.size; (try simp only [World.size_alloc, World.size_setCell, World.size_drew, World.heap_drewN] at hz); (try have h_w_0 : w.heap.size < w2.heap.size := by omega); (try have e_w_0 : ¬ w.heap.size = w2.heap.size := by omega); (try have d_w_0 : ¬ w2.heap.size = w.heap.size := by omega); (try (refine bcUse (n := w.heap.size) hb ?_ ?_; (focus ((try simp only [World.size_alloc, World.size_setCell, World.size_drew, World.heap_drewN]); omega)); intro _ _)))
      go_ret2
      refine ⟨?_, .inr ⟨HE'.out, rfl⟩⟩
      (repeat' (first | (with_reducible exact Below.refl _ _) | (with_reducible assumption) | (with_reducible refine Below.call ?_ ?_ (by with_reducible assumption)) | (with_reducible refine Below.alloc ?_ ?_ _) | (with_reducible refine Below.drew ?_) | (with_reducible refine below_drewN ?_ _) | (with_reducible refine Below.setCell ?_ ?_ _) | (with_reducible exact Nat.le_refl _) | omega | (simp only [World.size_alloc, World.size_setCell, World.size_drew, World.heap_drewN] at *; omega)))
theorem c_leapCount (a : Option Addr) (cap : Nat) (l : List Lp) (t : Int) (w : World) (hc : l.length ≤ cap) (h : leapsErr l = 0) (hs : LpSlice w a l) (t1 : -9223372036854775808 ≤ t) (t2 : t ≤ 9223372036854775807) (hd : dayB (t / 86400000) = true) :
    Calls Try.prog 43 #[.slice a l.length cap, .int .i64 t] w fun e w' => Below w.heap.size w w' ∧ ((gapB l (dOf t) (mOf t) = true ∧ e = .returned (.tuple #[.int .i64 0, .int .i64 15])) ∨ (gapB l (dOf t) (mOf t) = false ∧ e = .returned (.tuple #[.int .i64 (t + 1000 * lpSum l (dOf t)), .int .i64 0]))) :=
  c_leapCount' a cap l t (dOf t) (mOf t) w hc h hs t1 t2 hd rfl rfl
end Go.Proofs.Ytpjgoojaahbglaa
