/- Contracts of the small functions of packages leap and line. -/
import Derived.Test.YtpjgoojaahbglaaWalkLpc
import Derived.Test.YtpjgoojaahbglaaWalkInt
import Derived.Test.YtpjgoojaahbglaaPlainLsum
set_option linter.unusedVariables false
set_option linter.unusedSimpArgs false
namespace Go.Proofs.Ytpjgoojaahbglaa
open Go.RowKit
set_option maxHeartbeats 1000000 in
theorem c_lsum (a : Option Addr) (cap : Nat) (l : List Lp) (d : Int) (w : World) (hc : l.length ≤ cap) (hv : LpOk l) (hs : LpSlice w a l) :
    Calls Try.prog 57 #[.slice a l.length cap, .int .i64 d] w fun e w' => e = .returned (.int .i64 (lpSum l d)) ∧ Below w.heap.size w w' := by
  have h2 := hv.len
  have hgen := sgen; have hgen2 := sgen2; have hgen3 := sgen3; go_enter Try.func57, Try.ntmps57
  go_wp2_with fail
  go_loopg [5, 10] l.length (fun gk x5 i wr => ∃ k : Nat, gk + k = l.length ∧ i = .int .i64 k ∧ x5 = .int .i64 (lpSum (l.take k) d) ∧ Below w.heap.size w wr)
  case atStart => exact ⟨0, by omega, rfl, rfl, Below.refl _ _⟩
  case round =>
    obtain ⟨k, hk, rfl, rfl, hbel⟩ := hrel
    by_cases hlt : k < l.length
    · obtain ⟨b, off, ha, hb1, c0, c1⟩ := (hs.below (Nat.le_refl _) hbel) k hlt
      have ix1 := @ix_Lp a b off l.length cap k ha hlt
      have hsz := hbel.size
      have hsn := lpSum_snoc l d k hlt
      have hsh := hv.sh k hlt
      obtain ⟨b1, b2⟩ := lpSum_bd hv d k (by omega)
      clear ha
      generalize l[k] = x at *
      generalize lpSum (l.take k) d = n at *
      have HS := Lib.hid hsn
      have h3 : -1 ≤ x.sh := by omega
      have h4 : x.sh ≤ 1 := by omega
      clear hsn hsh
      by_cases hd : x.day < d
      · go_wp2
        go_roundg (l.length - (k + 1))
        case measure => omega
        case rel =>
          refine ⟨k + 1, by omega, by go_num, by rw [HS.out, if_pos hd], ?_⟩
          (repeat' (first | (with_reducible exact Below.refl _ _) | (with_reducible assumption) | (with_reducible refine Below.call ?_ ?_ (by with_reducible assumption)) | (with_reducible refine Below.alloc ?_ ?_ _) | (with_reducible refine Below.drew ?_) | (with_reducible refine below_drewN ?_ _) | (with_reducible refine Below.setCell ?_ ?_ _) | (with_reducible exact Nat.le_refl _) | omega | (simp only [World.size_alloc, World.size_setCell, World.size_drew, World.heap_drewN] at *; omega)))
      · go_wp2
        go_roundg (l.length - (k + 1))
        case measure => omega
        case rel =>
          refine ⟨k + 1, by omega, by go_num, by rw [HS.out, if_neg (by omega)], ?_⟩
          (repeat' (first | (with_reducible exact Below.refl _ _) | (with_reducible assumption) | (with_reducible refine Below.call ?_ ?_ (by with_reducible assumption)) | (with_reducible refine Below.alloc ?_ ?_ _) | (with_reducible refine Below.drew ?_) | (with_reducible refine below_drewN ?_ _) | (with_reducible refine Below.setCell ?_ ?_ _) | (with_reducible exact Nat.le_refl _) | omega | (simp only [World.size_alloc, World.size_setCell, World.size_drew, World.heap_drewN] at *; omega)))
    · have hkl : k = l.length := by omega
      have e : lpSum (l.take k) d = lpSum l d := by rw [hkl, List.take_of_length_le (Nat.le_refl _)]
      have HE := Lib.hid e
      clear hkl e
      go_wp2
      go_ret
      exact ⟨ret_int HE.out, hbel⟩
def dayB (n : Int) : Bool := decide (-4000000 ≤ n) && decide (n ≤ 4000000)
theorem c_lineIs (n : Int) (w : World) : Calls Try.prog 56 #[.int .i64 n] w fun e w' => e = .returned (.bool (dayB n)) ∧ w = w' := by
  have hgen := sgen; have hgen2 := sgen2; have hgen3 := sgen3; go_enter Try.func56, Try.ntmps56
  go_wp2
  all_goals go_ret
  all_goals exact ⟨ret_bool (by simp [dayB]; first | done | omega), rfl⟩
theorem c_instErr (t : Int) (w : World) : Calls Try.prog 38 #[.int .i64 t] w fun e w' => e = .returned (.int .i64 (iErr t)) ∧ Below w.heap.size w w' := by
  have hgen := sgen; have hgen2 := sgen2; have hgen3 := sgen3; go_enter Try.func38, Try.ntmps38
  go_wp2
  all_goals go_ret
  all_goals exact ⟨ret_int (by unfold iErr; (repeat' split) <;> first | rfl | omega), Below.refl _ _⟩
theorem c_refMod (a m : Int) (w : World) (hm : 0 < m) (ha1 : -9223372036854775808 ≤ a) (ha2 : a ≤ 9223372036854775807) (hm2 : m ≤ 4611686018427387903) : Calls Try.prog 42 #[.int .i64 a, .int .i64 m] w fun e w' => e = .returned (.int .i64 (a % m)) ∧ Below w.heap.size w w' := by
  have m0 : (m == 0) = false := by simp; omega
  have m1 : (m == -1) = false := by simp; omega
  obtain ⟨d1, d2, d3, d4⟩ := ediv_bd a m hm ha1 ha2
  have u2 : wrap64 (a % m) = a % m := w64 (by omega) (by omega)
  by_cases h : 0 ≤ a
  · have t2 := (tdiv_pos a m hm h).2
    have hgen := sgen; have hgen2 := sgen2; have hgen3 := sgen3; go_enter Try.func42, Try.ntmps42
    go_wp2
    go_ret
    exact ⟨ret_int (by first | rfl | omega), Below.refl _ _⟩
  · have h := Int.not_le.1 h
    obtain ⟨t1, t2⟩ := tdiv_neg a m hm h
    by_cases hz : a.tmod m = 0
    · have e := (t1 hz).2
      clear t1 t2
      have hgen := sgen; have hgen2 := sgen2; have hgen3 := sgen3; go_enter Try.func42, Try.ntmps42
      go_wp2
      all_goals go_ret
      all_goals exact ⟨ret_int (by first | rfl | omega), Below.refl _ _⟩
    · obtain ⟨_, e1, e2⟩ := t2 hz
      clear t1 t2
      have hgen := sgen; have hgen2 := sgen2; have hgen3 := sgen3; go_enter Try.func42, Try.ntmps42
      go_wp2
      all_goals go_ret
      all_goals exact ⟨ret_int (by first | rfl | omega), Below.refl _ _⟩
theorem c_leapSum_bad (a : Option Addr) (cap : Nat) (l : List Lp) (d : Int) (w : World) (hc : l.length ≤ cap) (h : leapsErr l ≠ 0) (hs : LpSlice w a l) :
    Calls Try.prog 45 #[.slice a l.length cap, .int .i64 d] w fun e w' => e = .returned (.tuple #[.int .i64 0, .int .i64 (leapsErr l)]) ∧ Below w.heap.size w w' := by
  have h1 : (leapsErr l != 0) = true := by simp [h]
  have hgen := sgen; have hgen2 := sgen2; have hgen3 := sgen3; go_enter Try.func45, Try.ntmps45
  go_wp2_with (go_at_call 44; refine (c_leapCheck _ _ l _ hc hs).mono ?_; rintro e w1 ⟨rfl, hb⟩; have hz := hb.size; (try simp only [World.size_alloc, World.size_setCell, World.size_drew, World.heap_drewN] at hz); (try have h_w_0 : w.heap.size < w1.heap.size := by omega); (try have e_w_0 : ¬ w.heap.size = w1.heap.size := by omega); (try have d_w_0 : ¬ w1.heap.size = w.heap.size := by omega); (try (refine bcUse (n := w.heap.size) hb ?_ ?_; (focus ((try simp only [World.size_alloc, World.size_setCell, World.size_drew, World.heap_drewN]); omega)); intro _ _)))
  go_ret2
  refine ⟨rfl, ?_⟩
  (repeat' (first | (with_reducible exact Below.refl _ _) | (with_reducible assumption) | (with_reducible refine Below.call ?_ ?_ (by with_reducible assumption)) | (with_reducible refine Below.alloc ?_ ?_ _) | (with_reducible refine Below.drew ?_) | (with_reducible refine below_drewN ?_ _) | (with_reducible refine Below.setCell ?_ ?_ _) | (with_reducible exact Nat.le_refl _) | omega | (simp only [World.size_alloc, World.size_setCell, World.size_drew, World.heap_drewN] at *; omega)))
theorem c_leapSum_ok (a : Option Addr) (cap : Nat) (l : List Lp) (d : Int) (w : World) (hc : l.length ≤ cap) (h : leapsErr l = 0) (hs : LpSlice w a l) (hd : dayB d = true) :
    Calls Try.prog 45 #[.slice a l.length cap, .int .i64 d] w fun e w' => e = .returned (.tuple #[.int .i64 (lpSum l d), .int .i64 0]) ∧ Below w.heap.size w w' := by
  have h1 : (leapsErr l != 0) = false := by simp [h]
  have hv := lpOk_of h
  have hgen := sgen; have hgen2 := sgen2; have hgen3 := sgen3; go_enter Try.func45, Try.ntmps45
  go_wp2_with (first | (go_at_call 44; refine (c_leapCheck _ _ l _ hc hs).mono ?_; rintro e w1 ⟨rfl, hb⟩; have hz := hb.size; (try simp only [World.size_alloc, World.size_setCell, World.size_drew, World.heap_drewN] at hz); (try have h_w_0 : w.heap.size < w1.heap.size := by omega); (try have e_w_0 : ¬ w.heap.size = w1.heap.size := by omega); (try have d_w_0 : ¬ w1.heap.size = w.heap.size := by omega); (try (refine bcUse (n := w.heap.size) hb ?_ ?_; (focus ((try simp only [World.size_alloc, World.size_setCell, World.size_drew, World.heap_drewN]); omega)); intro _ _))) | (go_at_call 56; refine (c_lineIs _ _).mono ?_; rintro e w' ⟨rfl, rfl⟩) | (go_at_call 57; refine (c_lsum _ _ l _ _ hc hv (hs.below (Nat.le_refl _) (by assumption))).mono ?_; rintro e w2 ⟨rfl, hb⟩; have hz := hb.size; (try simp only [World.size_alloc, World.size_setCell, World.size_drew, World.heap_drewN] at hz); (try have h_w_0 : w.heap.size < w2.heap.size := by omega); (try have e_w_0 : ¬ w.heap.size = w2.heap.size := by omega); (try have d_w_0 : ¬ w2.heap.size = w.heap.size := by omega); (try (refine bcUse (n := w.heap.size) hb ?_ ?_; (focus ((try simp only [World.size_alloc, World.size_setCell, World.size_drew, World.heap_drewN]); omega)); intro _ _))))
  go_ret2
  refine ⟨rfl, ?_⟩
  (repeat' (first | (with_reducible exact Below.refl _ _) | (with_reducible assumption) | (with_reducible refine Below.call ?_ ?_ (by with_reducible assumption)) | (with_reducible refine Below.alloc ?_ ?_ _) | (with_reducible refine Below.drew ?_) | (with_reducible refine below_drewN ?_ _) | (with_reducible refine Below.setCell ?_ ?_ _) | (with_reducible exact Nat.le_refl _) | omega | (simp only [World.size_alloc, World.size_setCell, World.size_drew, World.heap_drewN] at *; omega)))
end Go.Proofs.Ytpjgoojaahbglaa
