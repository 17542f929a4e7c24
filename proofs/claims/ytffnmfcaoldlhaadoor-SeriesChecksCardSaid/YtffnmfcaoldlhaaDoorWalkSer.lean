/- Contracts of series.Check, the reference's SumErr, series.bound and Bound. -/
import Derived.Test.YtffnmfcaoldlhaaDoorWalkGr
import Derived.Test.YtffnmfcaoldlhaaDoorPlainSer
import Derived.Test.YtffnmfcaoldlhaaDoorIxTerm
import Derived.Deep.LoopGhost
set_option linter.unusedVariables false
set_option linter.unusedSimpArgs false
namespace Go.Proofs.YtffnmfcaoldlhaaDoor
open Go.RowKit
abbrev sumV (m r : Int) (a : Option Addr) (len cap : Nat) (s : Int) : Value := .agg #[.int .i64 m, .int .i64 r, .slice a len cap, .int .i64 s]
theorem c_srange1 (n m : Int) (w : World) (h1 : -m ≤ n) (h2 : n ≤ m) (m1 : 0 ≤ m) (m2 : m ≤ 9223372036854775807) : Calls Tryd.prog 72 #[.int .i64 n, .int .i64 m] w fun e w' => e = .returned (.bool true) ∧ w = w' := by
  have hgen := sgen; have hgen2 := sgen2; have hgen3 := sgen3; go_enter Tryd.func72, Tryd.ntmps72
  go_wp2
  go_ret
  exact ⟨rfl, rfl⟩
theorem c_srange0 (n m : Int) (w : World) (h : n < -m ∨ m < n) (m1 : 0 ≤ m) (m2 : m ≤ 9223372036854775807) : Calls Tryd.prog 72 #[.int .i64 n, .int .i64 m] w fun e w' => e = .returned (.bool false) ∧ w = w' := by
  rcases h with h | h
  all_goals
    have hgen := sgen; have hgen2 := sgen2; have hgen3 := sgen3; go_enter Tryd.func72, Tryd.ntmps72
    go_wp2
    go_ret
    first | exact ⟨rfl, rfl⟩ | exact ⟨ret_bool (decide_eq_false (by omega)), rfl⟩
theorem c_serCheck_large (m r s : Int) (a : Option Addr) (len cap : Nat) (w : World) (h : 40 < len) : Calls Tryd.prog 37 #[sumV m r a len cap s] w fun e w' => e = .returned (.int .i64 2) ∧ Below w.heap.size w w' := by
  have hgen := sgen; have hgen2 := sgen2; have hgen3 := sgen3; go_enter Tryd.func37, Tryd.ntmps37
  go_wp2
  go_ret
  exact ⟨rfl, (Below.refl _ _).alloc (Nat.le_refl _) _⟩
theorem c_sumErr_large (m r s : Int) (a : Option Addr) (len cap : Nat) (w : World) (h : 40 < len) : Calls Tryd.prog 35 #[sumV m r a len cap s] w fun e w' => e = .returned (.int .i64 2) ∧ Below w.heap.size w w' := by
  have hgen := sgen; have hgen2 := sgen2; have hgen3 := sgen3; go_enter Tryd.func35, Tryd.ntmps35
  go_wp2
  go_ret
  exact ⟨rfl, (Below.refl _ _).alloc (Nat.le_refl _) _⟩
set_option maxHeartbeats 1000000 in
theorem c_serCheck_hd (m r s : Int) (a : Option Addr) (len cap : Nat) (w : World) (h : len ≤ 40) (hb : m < -1000000000 ∨ 1000000000 < m ∨ r < -4000000000000000 ∨ 4000000000000000 < r ∨ s < 0 ∨ 100000000 < s) : Calls Tryd.prog 37 #[sumV m r a len cap s] w fun e w' => e = .returned (.int .i64 3) ∧ Below w.heap.size w w' := by
  rcases (show (m < -1000000000 ∨ 1000000000 < m) ∨ (-1000000000 ≤ m ∧ m ≤ 1000000000 ∧ (r < -4000000000000000 ∨ 4000000000000000 < r)) ∨ (-1000000000 ≤ m ∧ m ≤ 1000000000 ∧ -4000000000000000 ≤ r ∧ r ≤ 4000000000000000 ∧ s < 0) ∨ (-1000000000 ≤ m ∧ m ≤ 1000000000 ∧ -4000000000000000 ≤ r ∧ r ≤ 4000000000000000 ∧ 100000000 < s) by omega) with h1 | ⟨h1, h2, h3⟩ | ⟨h1, h2, h3, h4, h5⟩ | ⟨h1, h2, h3, h4, h5⟩
  all_goals
    clear hb
    have hgen := sgen; have hgen2 := sgen2; have hgen3 := sgen3; go_enter Tryd.func37, Tryd.ntmps37
    go_wp2_with (first | (go_at_call 72; (with_reducible refine (c_srange1 _ _ _ (by omega) (by omega) (by omega) (by omega)).mono ?_); rintro e w' ⟨rfl, rfl⟩) | (go_at_call 72; (with_reducible refine (c_srange0 _ _ _ (by omega) (by omega) (by omega)).mono ?_); rintro e w' ⟨rfl, rfl⟩))
    go_ret
    exact ⟨rfl, (Below.refl _ _).alloc (Nat.le_refl _) _⟩
set_option maxHeartbeats 1000000 in
theorem c_sumErr_hd (m r s : Int) (a : Option Addr) (len cap : Nat) (w : World) (h : len ≤ 40) (hb : m < -1000000000 ∨ 1000000000 < m ∨ r < -4000000000000000 ∨ 4000000000000000 < r ∨ s < 0 ∨ 100000000 < s) : Calls Tryd.prog 35 #[sumV m r a len cap s] w fun e w' => e = .returned (.int .i64 3) ∧ Below w.heap.size w w' := by
  rcases (show (1000000000 < m) ∨ (m < -1000000000) ∨ (-1000000000 ≤ m ∧ m ≤ 1000000000 ∧ 4000000000000000 < r) ∨ (-1000000000 ≤ m ∧ m ≤ 1000000000 ∧ r < -4000000000000000) ∨ (-1000000000 ≤ m ∧ m ≤ 1000000000 ∧ -4000000000000000 ≤ r ∧ r ≤ 4000000000000000 ∧ s < 0) ∨ (-1000000000 ≤ m ∧ m ≤ 1000000000 ∧ -4000000000000000 ≤ r ∧ r ≤ 4000000000000000 ∧ 100000000 < s) by omega) with h1 | h1 | ⟨h1, h2, h3⟩ | ⟨h1, h2, h3⟩ | ⟨h1, h2, h3, h4, h5⟩ | ⟨h1, h2, h3, h4, h5⟩
  all_goals
    clear hb
    have hgen := sgen; have hgen2 := sgen2; have hgen3 := sgen3; go_enter Tryd.func35, Tryd.ntmps35
    go_wp2
    go_ret
    exact ⟨rfl, (Below.refl _ _).alloc (Nat.le_refl _) _⟩
theorem tmOne_ok {t : Tm} (h : ¬ (t.amp < -1000000000 ∨ 1000000000 < t.amp ∨ t.ph < 0 ∨ 999999999 < t.ph ∨ t.rt < -4000000000000000 ∨ 4000000000000000 < t.rt)) : tmOne t = 0 := by unfold tmOne; rw [if_neg h]
theorem tmOne_bad {t : Tm} (h : t.amp < -1000000000 ∨ 1000000000 < t.amp ∨ t.ph < 0 ∨ 999999999 < t.ph ∨ t.rt < -4000000000000000 ∨ 4000000000000000 < t.rt) : tmOne t = 3 := by unfold tmOne; rw [if_pos h]
set_option maxHeartbeats 2000000 in
theorem c_serCheck_tm (m r s : Int) (a : Option Addr) (cap : Nat) (l : List Tm) (w : World) (hc : l.length ≤ cap) (h40 : l.length ≤ 40) (hs : TmSlice w a l) (m1 : -1000000000 ≤ m) (m2 : m ≤ 1000000000) (r1 : -4000000000000000 ≤ r) (r2 : r ≤ 4000000000000000) (s1 : 0 ≤ s) (s2 : s ≤ 100000000) :
    Calls Tryd.prog 37 #[sumV m r a l.length cap s] w fun e w' => e = .returned (.int .i64 (fe tmOne l)) ∧ Below w.heap.size w w' := by
  have h2 : (l.length : Int) ≤ 40 := by omega
  have hgen := sgen; have hgen2 := sgen2; have hgen3 := sgen3; go_enter Tryd.func37, Tryd.ntmps37
  go_wp2_with (first | (go_at_call 72; (with_reducible refine (c_srange1 _ _ _ (by omega) (by omega) (by omega) (by omega)).mono ?_); rintro e w' ⟨rfl, rfl⟩) | (go_at_call 72; (with_reducible refine (c_srange0 _ _ _ (by omega) (by omega) (by omega)).mono ?_); rintro e w' ⟨rfl, rfl⟩))
  go_loopg [32] l.length (fun gk i wr => ∃ k : Nat, gk + k = l.length ∧ i = .int .i64 k ∧ Below w.heap.size w wr ∧ fe tmOne (l.take k) = 0)
  case atStart => exact ⟨0, by omega, rfl, (Below.refl _ _).alloc (Nat.le_refl _) _, rfl⟩
  case round =>
    obtain ⟨k, hk, rfl, hbel, hfe⟩ := hrel
    by_cases hlt : k < l.length
    · obtain ⟨b, off, ha, hb1, c0, c1, c2⟩ := (hs.below (Nat.le_refl _) hbel) k hlt
      have ix1 := @ix_Tm a b off l.length cap k ha hlt
      have hsz := hbel.size
      have hat := fe_at tmOne l k hlt hfe
      have hsn := fe_snoc tmOne l k hlt
      rw [if_pos hfe] at hsn
      clear ha hfe
      generalize l[k] = x at *
      by_cases hx : x.amp < -1000000000 ∨ 1000000000 < x.amp ∨ x.ph < 0 ∨ 999999999 < x.ph ∨ x.rt < -4000000000000000 ∨ 4000000000000000 < x.rt
      · have hb := tmOne_bad hx
        have HA := Lib.hid ((hat (by rw [hb]; omega)).trans hb)
        clear hsn hat hb
        rcases (show (x.amp < -1000000000 ∨ 1000000000 < x.amp) ∨ (-1000000000 ≤ x.amp ∧ x.amp ≤ 1000000000 ∧ x.ph < 0) ∨ (-1000000000 ≤ x.amp ∧ x.amp ≤ 1000000000 ∧ 1000000000 ≤ x.ph) ∨ (-1000000000 ≤ x.amp ∧ x.amp ≤ 1000000000 ∧ 0 ≤ x.ph ∧ x.ph < 1000000000 ∧ (x.rt < -4000000000000000 ∨ 4000000000000000 < x.rt)) by omega) with q1 | ⟨q1, q2, q3⟩ | ⟨q1, q2, q3⟩ | ⟨q1, q2, q3, q4, q5⟩
        all_goals
          clear hx
          try have q0 : 0 ≤ x.ph := by omega
          go_wp2_with (first | (go_at_call 72; (with_reducible refine (c_srange1 _ _ _ (by omega) (by omega) (by omega) (by omega)).mono ?_); rintro e w' ⟨rfl, rfl⟩) | (go_at_call 72; (with_reducible refine (c_srange0 _ _ _ (by omega) (by omega) (by omega)).mono ?_); rintro e w' ⟨rfl, rfl⟩))
          go_ret
          refine ⟨ret_int HA.out.symm, ?_⟩
          (repeat' (first | (with_reducible exact Below.refl _ _) | (with_reducible assumption) | (with_reducible refine Below.call ?_ ?_ (by with_reducible assumption)) | (with_reducible refine Below.alloc ?_ ?_ _) | (with_reducible refine Below.drew ?_) | (with_reducible refine below_drewN ?_ _) | (with_reducible refine Below.setCell ?_ ?_ _) | (with_reducible exact Nat.le_refl _) | omega | (simp only [World.size_alloc, World.size_setCell, World.size_drew, World.heap_drewN] at *; omega)))
      · have hb := tmOne_ok hx
        rw [hb] at hsn
        have HS := Lib.hid hsn
        clear hsn hat hb
        have q1 : -1000000000 ≤ x.amp := by omega
        have q2 : x.amp ≤ 1000000000 := by omega
        have q3 : 0 ≤ x.ph := by omega
        have q4 : x.ph < 1000000000 := by omega
        have q5 : -4000000000000000 ≤ x.rt := by omega
        have q6 : x.rt ≤ 4000000000000000 := by omega
        clear hx
        go_wp2_with (first | (go_at_call 72; (with_reducible refine (c_srange1 _ _ _ (by omega) (by omega) (by omega) (by omega)).mono ?_); rintro e w' ⟨rfl, rfl⟩) | (go_at_call 72; (with_reducible refine (c_srange0 _ _ _ (by omega) (by omega) (by omega)).mono ?_); rintro e w' ⟨rfl, rfl⟩))
        go_roundg (l.length - (k + 1))
        case measure => omega
        case rel =>
          refine ⟨k + 1, by omega, by go_num, ?_, HS.out⟩
          (repeat' (first | (with_reducible exact Below.refl _ _) | (with_reducible assumption) | (with_reducible refine Below.call ?_ ?_ (by with_reducible assumption)) | (with_reducible refine Below.alloc ?_ ?_ _) | (with_reducible refine Below.drew ?_) | (with_reducible refine below_drewN ?_ _) | (with_reducible refine Below.setCell ?_ ?_ _) | (with_reducible exact Nat.le_refl _) | omega | (simp only [World.size_alloc, World.size_setCell, World.size_drew, World.heap_drewN] at *; omega)))
    · have hkl : k = l.length := by omega
      rw [hkl, List.take_of_length_le (Nat.le_refl _)] at hfe
      have HF := Lib.hid hfe
      clear hfe hkl
      go_wp2
      go_ret
      exact ⟨ret_int HF.out.symm, hbel⟩
set_option maxHeartbeats 2000000 in
theorem c_sumErr_tm (m r s : Int) (a : Option Addr) (cap : Nat) (l : List Tm) (w : World) (hc : l.length ≤ cap) (h40 : l.length ≤ 40) (hs : TmSlice w a l) (m1 : -1000000000 ≤ m) (m2 : m ≤ 1000000000) (r1 : -4000000000000000 ≤ r) (r2 : r ≤ 4000000000000000) (s1 : 0 ≤ s) (s2 : s ≤ 100000000) :
    Calls Tryd.prog 35 #[sumV m r a l.length cap s] w fun e w' => e = .returned (.int .i64 (fe tmOne l)) ∧ Below w.heap.size w w' := by
  have h2 : (l.length : Int) ≤ 40 := by omega
  have hgen := sgen; have hgen2 := sgen2; have hgen3 := sgen3; go_enter Tryd.func35, Tryd.ntmps35
  go_wp2_with fail
  go_loopg [40] l.length (fun gk i wr => ∃ k : Nat, gk + k = l.length ∧ i = .int .i64 k ∧ Below w.heap.size w wr ∧ fe tmOne (l.take k) = 0)
  case atStart => exact ⟨0, by omega, rfl, (Below.refl _ _).alloc (Nat.le_refl _) _, rfl⟩
  case round =>
    obtain ⟨k, hk, rfl, hbel, hfe⟩ := hrel
    by_cases hlt : k < l.length
    · obtain ⟨b, off, ha, hb1, c0, c1, c2⟩ := (hs.below (Nat.le_refl _) hbel) k hlt
      have ix1 := @ix_Tm a b off l.length cap k ha hlt
      have hsz := hbel.size
      have hat := fe_at tmOne l k hlt hfe
      have hsn := fe_snoc tmOne l k hlt
      rw [if_pos hfe] at hsn
      clear ha hfe
      generalize l[k] = x at *
      by_cases hx : x.amp < -1000000000 ∨ 1000000000 < x.amp ∨ x.ph < 0 ∨ 999999999 < x.ph ∨ x.rt < -4000000000000000 ∨ 4000000000000000 < x.rt
      · have hb := tmOne_bad hx
        have HA := Lib.hid ((hat (by rw [hb]; omega)).trans hb)
        clear hsn hat hb
        rcases (show 1000000000 < x.amp ∨ x.amp < -1000000000 ∨ (-1000000000 ≤ x.amp ∧ x.amp ≤ 1000000000 ∧ x.ph < 0) ∨ (-1000000000 ≤ x.amp ∧ x.amp ≤ 1000000000 ∧ 0 ≤ x.ph ∧ 999999999 < x.ph) ∨ (-1000000000 ≤ x.amp ∧ x.amp ≤ 1000000000 ∧ 0 ≤ x.ph ∧ x.ph ≤ 999999999 ∧ 4000000000000000 < x.rt) ∨ (-1000000000 ≤ x.amp ∧ x.amp ≤ 1000000000 ∧ 0 ≤ x.ph ∧ x.ph ≤ 999999999 ∧ x.rt < -4000000000000000) by omega) with q1 | q1 | ⟨q1, q2, q3⟩ | ⟨q1, q2, q3, q4⟩ | ⟨q1, q2, q3, q4, q5⟩ | ⟨q1, q2, q3, q4, q5⟩
        all_goals
          clear hx
          go_wp2
          go_ret
          refine ⟨ret_int HA.out.symm, ?_⟩
          (repeat' (first | (with_reducible exact Below.refl _ _) | (with_reducible assumption) | (with_reducible refine Below.call ?_ ?_ (by with_reducible assumption)) | (with_reducible refine Below.alloc ?_ ?_ _) | (with_reducible refine Below.drew ?_) | (with_reducible refine below_drewN ?_ _) | (with_reducible refine Below.setCell ?_ ?_ _) | (with_reducible exact Nat.le_refl _) | omega | (simp only [World.size_alloc, World.size_setCell, World.size_drew, World.heap_drewN] at *; omega)))
      · have hb := tmOne_ok hx
        rw [hb] at hsn
        have HS := Lib.hid hsn
        clear hsn hat hb
        have q1 : -1000000000 ≤ x.amp := by omega
        have q2 : x.amp ≤ 1000000000 := by omega
        have q3 : 0 ≤ x.ph := by omega
        have q4 : x.ph ≤ 999999999 := by omega
        have q5 : -4000000000000000 ≤ x.rt := by omega
        have q6 : x.rt ≤ 4000000000000000 := by omega
        clear hx
        go_wp2
        go_roundg (l.length - (k + 1))
        case measure => omega
        case rel =>
          refine ⟨k + 1, by omega, by go_num, ?_, HS.out⟩
          (repeat' (first | (with_reducible exact Below.refl _ _) | (with_reducible assumption) | (with_reducible refine Below.call ?_ ?_ (by with_reducible assumption)) | (with_reducible refine Below.alloc ?_ ?_ _) | (with_reducible refine Below.drew ?_) | (with_reducible refine below_drewN ?_ _) | (with_reducible refine Below.setCell ?_ ?_ _) | (with_reducible exact Nat.le_refl _) | omega | (simp only [World.size_alloc, World.size_setCell, World.size_drew, World.heap_drewN] at *; omega)))
    · have hkl : k = l.length := by omega
      rw [hkl, List.take_of_length_le (Nat.le_refl _)] at hfe
      have HF := Lib.hid hfe
      clear hfe hkl
      go_wp2
      go_ret
      exact ⟨ret_int HF.out.symm, hbel⟩
theorem hdOne_bad {m r s : Int} (h : m < -1000000000 ∨ 1000000000 < m ∨ r < -4000000000000000 ∨ 4000000000000000 < r ∨ s < 0 ∨ 100000000 < s) : hdOne m r s = 3 := by unfold hdOne; rw [if_pos h]
theorem hdOne_ok {m r s : Int} (h : ¬ (m < -1000000000 ∨ 1000000000 < m ∨ r < -4000000000000000 ∨ 4000000000000000 < r ∨ s < 0 ∨ 100000000 < s)) : hdOne m r s = 0 := by unfold hdOne; rw [if_neg h]
theorem c_serCheck (m r s : Int) (a : Option Addr) (cap : Nat) (l : List Tm) (w : World) (hc : l.length ≤ cap) (hs : TmSlice w a l) :
    Calls Tryd.prog 37 #[sumV m r a l.length cap s] w fun e w' => e = .returned (.int .i64 (sumE m r l s)) ∧ Below w.heap.size w w' := by
  unfold sumE
  by_cases h : 40 < l.length
  · rw [if_pos h]; exact c_serCheck_large m r s a _ cap w h
  · rw [if_neg h]
    by_cases hb : m < -1000000000 ∨ 1000000000 < m ∨ r < -4000000000000000 ∨ 4000000000000000 < r ∨ s < 0 ∨ 100000000 < s
    · rw [hdOne_bad hb, if_pos (by omega)]; exact c_serCheck_hd m r s a _ cap w (by omega) hb
    · rw [hdOne_ok hb, if_neg (by omega)]; exact c_serCheck_tm m r s a cap l w hc (by omega) hs (by omega) (by omega) (by omega) (by omega) (by omega) (by omega)
theorem c_sumErr (m r s : Int) (a : Option Addr) (cap : Nat) (l : List Tm) (w : World) (hc : l.length ≤ cap) (hs : TmSlice w a l) :
    Calls Tryd.prog 35 #[sumV m r a l.length cap s] w fun e w' => e = .returned (.int .i64 (sumE m r l s)) ∧ Below w.heap.size w w' := by
  unfold sumE
  by_cases h : 40 < l.length
  · rw [if_pos h]; exact c_sumErr_large m r s a _ cap w h
  · rw [if_neg h]
    by_cases hb : m < -1000000000 ∨ 1000000000 < m ∨ r < -4000000000000000 ∨ 4000000000000000 < r ∨ s < 0 ∨ 100000000 < s
    · rw [hdOne_bad hb, if_pos (by omega)]; exact c_sumErr_hd m r s a _ cap w (by omega) hb
    · rw [hdOne_ok hb, if_neg (by omega)]; exact c_sumErr_tm m r s a cap l w hc (by omega) hs (by omega) (by omega) (by omega) (by omega) (by omega) (by omega)
end Go.Proofs.YtffnmfcaoldlhaaDoor
