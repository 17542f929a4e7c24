/- Contracts of leap.Count and of the reference's Count. -/
import Derived.Test.YtenmiilndiaopaaWalkLsum
set_option linter.unusedVariables false
set_option linter.unusedSimpArgs false
namespace Go.Proofs.Ytenmiilndiaopaa
open Go.RowKit
/-- The day and the millisecond of an instant. -/
def dOf (t : Int) : Int := t / 86400000
def mOf (t : Int) : Int := t % 86400000
theorem dm_of (t : Int) : t = 86400000 * dOf t + mOf t ∧ 0 ≤ mOf t ∧ mOf t < 86400000 := by unfold dOf mOf; omega
theorem c_leapCount_bad (a : Option Addr) (cap : Nat) (l : List Lp) (t : Int) (w : World) (hc : l.length ≤ cap) (h : leapsErr l ≠ 0) (hs : LpSlice w a l) :
    Calls Try.prog 9 #[.slice a l.length cap, .int .i64 t] w fun e w' => e = .returned (.tuple #[.int .i64 0, .int .i64 (leapsErr l)]) ∧ Below w.heap.size w w' := by
  have h1 : (leapsErr l != 0) = true := by simp [h]
  have hgen := sgen; have hgen2 := sgen2; have hgen3 := sgen3; go_enter Try.func9, Try.ntmps9
  go_wp2_with (go_at_call 22; (refine (c_leapCheck _ _ l _ hc hs).mono ?_); rintro e w1 ⟨rfl, hb⟩; have hz := hb.size; (try simp only [szA, szS, szD, szN] at hz); (try (refine bcB (n := w.heap.size) hb ?_; intro h_w_0 e_w_0 d_w_0 _ _)))
  go_ret2
  refine ⟨rfl, ?_⟩
  exact belz
theorem c_leapCount_range (a : Option Addr) (cap : Nat) (l : List Lp) (t : Int) (w : World) (hc : l.length ≤ cap) (h : leapsErr l = 0) (hs : LpSlice w a l) (t1 : -9223372036854775808 ≤ t) (t2 : t ≤ 9223372036854775807) (hd : dayB (t / 86400000) = false) :
    Calls Try.prog 9 #[.slice a l.length cap, .int .i64 t] w fun e w' => e = .returned (.tuple #[.int .i64 0, .int .i64 3]) ∧ Below w.heap.size w w' := by
  have h1 : (leapsErr l != 0) = false := by simp [h]
  have hgen := sgen; have hgen2 := sgen2; have hgen3 := sgen3; go_enter Try.func9, Try.ntmps9
  go_wp2_with (first | (go_at_call 22; (refine (c_leapCheck _ _ l _ hc hs).mono ?_); rintro e w1 ⟨rfl, hb⟩; have hz := hb.size; (try simp only [szA, szS, szD, szN] at hz); (try (refine bcB (n := w.heap.size) hb ?_; intro h_w_0 e_w_0 d_w_0 _ _))) | (go_at_call 23; refine (c_div t 86400000 _ (by omega) t1 t2 (by omega)).mono ?_; rintro e w' ⟨rfl, n, rfl⟩) | (go_at_call 24; refine (c_lineIs _ _).mono ?_; rintro e w' ⟨rfl, rfl⟩))
  go_ret2
  refine ⟨rfl, ?_⟩
  exact belz
set_option maxHeartbeats 2000000 in
theorem c_leapCount' (a : Option Addr) (cap : Nat) (l : List Lp) (t d m : Int) (w : World) (hc : l.length ≤ cap) (h : leapsErr l = 0) (hs : LpSlice w a l) (t1 : -9223372036854775808 ≤ t) (t2 : t ≤ 9223372036854775807) (hd : dayB d = true) (e1 : t / 86400000 = d) (e2 : t % 86400000 = m) :
    Calls Try.prog 9 #[.slice a l.length cap, .int .i64 t] w fun e w' => Below w.heap.size w w' ∧ ((gapB l d m = true ∧ e = .returned (.tuple #[.int .i64 0, .int .i64 15])) ∨ (gapB l d m = false ∧ e = .returned (.tuple #[.int .i64 (t + 1000 * lpSum l d), .int .i64 0]))) := by
  have h1 : (leapsErr l != 0) = false := by simp [h]
  have hv := lpOk_of h
  have h2 := hv.len
  have hdd : -4000000 ≤ d ∧ d ≤ 4000000 := by simpa [dayB] using hd
  have ht : -345600000000000 ≤ t ∧ t < 345600086400000 := by omega
  obtain ⟨b1, b2⟩ := lpSum_bd hv d l.length (Nat.le_refl _)
  rw [List.take_of_length_le (Nat.le_refl _)] at b1 b2
  have m1 : 0 ≤ m := by omega
  have m2 : m < 86400000 := by omega
  obtain ⟨ht1, ht2⟩ := ht
  clear hdd
  have hgen := sgen; have hgen2 := sgen2; have hgen3 := sgen3; go_enter Try.func9, Try.ntmps9
  go_wp2_with (first | (go_at_call 22; (refine (c_leapCheck _ _ l _ hc hs).mono ?_); rintro e w1 ⟨rfl, hb⟩; have hz := hb.size; (try simp only [szA, szS, szD, szN] at hz); (try (refine bcB (n := w.heap.size) hb ?_; intro h_w_0 e_w_0 d_w_0 _ _))) | (go_at_call 23; refine (c_div t 86400000 _ (by omega) t1 t2 (by omega)).mono ?_; rintro e w' ⟨rfl, n, rfl⟩) | (go_at_call 24; refine (c_lineIs _ _).mono ?_; rintro e w' ⟨rfl, rfl⟩))
  have hbw1 : Below w.heap.size w w1 := by assumption
  go_loopg [28] l.length (fun gk i wr => ∃ k : Nat, gk + k = l.length ∧ i = .int .i64 k ∧ Below w.heap.size w wr ∧ gapB (l.take k) d m = false)
  case atStart => exact ⟨0, by omega, rfl, below_drewN hbw1 _, rfl⟩
  case round =>
    obtain ⟨k, hk, rfl, hbel, hgap⟩ := hrel
    by_cases hlt : k < l.length
    · obtain ⟨b, off, ha, hblk, c0, c1⟩ := (hs.below (Nat.le_refl _) hbel) k hlt
      have ix1 := @ix_Lp a b off l.length cap k ha hlt
      have hsz := hbel.size
      have hga := gap_at l d m k hlt
      have hgs := gap_snoc l d m k hlt
      rw [hgap, Bool.false_or] at hgs
      clear ha hgap
      generalize l[k] = x at *
      have HG := Lib.hid hgs
      have HA := Lib.hid hga
      clear hgs hga
      by_cases hsh : x.sh = -1
      · have s1 : (x.sh == -1) = true := by simp [hsh]
        by_cases h5 : x.day = d
        · have s2 : (x.day == d) = true := by simp [h5]
          by_cases h6 : 86399000 ≤ m
          · have hgo : gapOne d m x = true := by simp [gapOne, s1, s2, h6]
            have HGO := Lib.hid hgo
            clear hgo hsh h5
            go_wp2
            go_ret2
            refine ⟨?_, .inl ⟨HA.out HGO.out, rfl⟩⟩
            exact belz
          · have hgo : gapOne d m x = false := by
              have : decide (86399000 ≤ m) = false := by simp; omega
              simp [gapOne, this]
            have HGO := Lib.hid hgo
            clear hgo hsh h5
            go_wp2
            go_roundg (l.length - (k + 1))
            case measure => omega
            case rel =>
              refine ⟨k + 1, by omega, by go_num, ?_, by rw [HG.out]; exact HGO.out⟩
              exact belz
        · have s2 : (x.day == d) = false := by simp [h5]
          have hgo : gapOne d m x = false := by simp [gapOne, s2]
          have HGO := Lib.hid hgo
          clear hgo hsh h5
          go_wp2
          go_roundg (l.length - (k + 1))
          case measure => omega
          case rel =>
            refine ⟨k + 1, by omega, by go_num, ?_, by rw [HG.out]; exact HGO.out⟩
            exact belz
      · have s1 : (x.sh == -1) = false := by simp [hsh]
        have hgo : gapOne d m x = false := by simp [gapOne, s1]
        have HGO := Lib.hid hgo
        clear hgo hsh
        go_wp2
        go_roundg (l.length - (k + 1))
        case measure => omega
        case rel =>
          refine ⟨k + 1, by omega, by go_num, ?_, by rw [HG.out]; exact HGO.out⟩
          exact belz
    · have hkl : k = l.length := by omega
      rw [hkl, List.take_of_length_le (Nat.le_refl _)] at hgap
      have HE' := Lib.hid hgap
      have hsz := hbel.size
      clear hkl hgap
      go_wp2_with (go_at_call 25; (refine (c_lsum _ _ l _ _ hc hv (hs.below (Nat.le_refl _) hbel)).mono ?_); rintro e w2 ⟨rfl, hb⟩; have hz := hb.size; (try simp only [szA, szS, szD, szN] at hz); (try (refine bcB (n := w.heap.size) hb ?_; intro h_w_0 e_w_0 d_w_0 _ _)))
      go_ret2
      refine ⟨?_, .inr ⟨HE'.out, rfl⟩⟩
      exact belz
theorem c_leapCount (a : Option Addr) (cap : Nat) (l : List Lp) (t : Int) (w : World) (hc : l.length ≤ cap) (h : leapsErr l = 0) (hs : LpSlice w a l) (t1 : -9223372036854775808 ≤ t) (t2 : t ≤ 9223372036854775807) (hd : dayB (t / 86400000) = true) :
    Calls Try.prog 9 #[.slice a l.length cap, .int .i64 t] w fun e w' => Below w.heap.size w w' ∧ ((gapB l (dOf t) (mOf t) = true ∧ e = .returned (.tuple #[.int .i64 0, .int .i64 15])) ∨ (gapB l (dOf t) (mOf t) = false ∧ e = .returned (.tuple #[.int .i64 (t + 1000 * lpSum l (dOf t)), .int .i64 0]))) :=
  c_leapCount' a cap l t (dOf t) (mOf t) w hc h hs t1 t2 hd rfl rfl
end Go.Proofs.Ytenmiilndiaopaa
