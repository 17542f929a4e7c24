/- Contracts of tide.Check, the law's tideErr, tide.height and tide.Height. -/
import Derived.Test.YtjkhoepohiafeaaDoorWalkSva
import Derived.Test.YtjkhoepohiafeaaDoorIxTide
import Derived.Deep.LoopGhost
set_option linter.unusedVariables false
set_option linter.unusedSimpArgs false
namespace Go.Proofs.YtjkhoepohiafeaaDoor
open Go.RowKit
def TdBad (t : Tm) : Prop := t.amp < 0 ∨ 20000 < t.amp ∨ t.ph < 0 ∨ 999999999 < t.ph ∨ t.rt < 1 ∨ 4000000000000000 < t.rt
instance (t : Tm) : Decidable (TdBad t) := by unfold TdBad; infer_instance
def tdOne (t : Tm) : Int := if TdBad t then 3 else 0
/-- The error of constituents. -/
def tdE (l : List Tm) : Int := if 12 < l.length then 2 else fe tdOne l
theorem tdOne_ok {t : Tm} (h : ¬ TdBad t) : tdOne t = 0 := by unfold tdOne; rw [if_neg h]
theorem tdOne_bad {t : Tm} (h : TdBad t) : tdOne t = 3 := by unfold tdOne; rw [if_pos h]
theorem td_of {l : List Tm} (h : tdE l = 0) : l.length ≤ 12 ∧ ∀ t ∈ l, ¬ TdBad t := by
  unfold tdE at h
  by_cases h1 : 12 < l.length
  · rw [if_pos h1] at h; omega
  · rw [if_neg h1] at h
    refine ⟨by omega, fun t ht hb => ?_⟩
    have := fe_all tdOne l h t ht
    rw [tdOne_bad hb] at this; omega
theorem c_tCheck_large (a : Option Addr) (len cap : Nat) (w : World) (h : 12 < len) : Calls Tryd.prog 34 #[.slice a len cap] w fun e w' => e = .returned (.int .i64 2) ∧ Below w.heap.size w w' := by
  have h1 : decide ((12 : Int) < (len : Int)) = true := decide_eq_true (by omega)
  have hgen := sgen; have hgen2 := sgen2; have hgen3 := sgen3; go_enter Tryd.func34, Tryd.ntmps34
  go_wp2
  go_ret
  exact ⟨rfl, Below.refl _ _⟩
theorem c_tideErr_large (a : Option Addr) (len cap : Nat) (w : World) (h : 12 < len) : Calls Tryd.prog 33 #[.slice a len cap] w fun e w' => e = .returned (.int .i64 2) ∧ Below w.heap.size w w' := by
  have h1 : decide ((12 : Int) < (len : Int)) = true := decide_eq_true (by omega)
  have hgen := sgen; have hgen2 := sgen2; have hgen3 := sgen3; go_enter Tryd.func33, Tryd.ntmps33
  go_wp2
  go_ret
  exact ⟨rfl, Below.refl _ _⟩
set_option maxHeartbeats 2000000 in
theorem c_tCheck_tm (a : Option Addr) (cap : Nat) (l : List Tm) (w : World) (hc : l.length ≤ cap) (h12 : l.length ≤ 12) (hs : TmSlice w a l) :
    Calls Tryd.prog 34 #[.slice a l.length cap] w fun e w' => e = .returned (.int .i64 (fe tdOne l)) ∧ Below w.heap.size w w' := by
  have h1 : decide ((12 : Int) < (l.length : Int)) = false := decide_eq_false (by omega)
  have hgen := sgen; have hgen2 := sgen2; have hgen3 := sgen3; go_enter Tryd.func34, Tryd.ntmps34
  go_wp2_with fail
  go_loopg [10] l.length (fun gk i wr => ∃ k : Nat, gk + k = l.length ∧ i = .int .i64 k ∧ Below w.heap.size w wr ∧ fe tdOne (l.take k) = 0)
  case atStart => exact ⟨0, by omega, rfl, Below.refl _ _, rfl⟩
  case round =>
    obtain ⟨k, hk, rfl, hbel, hfe⟩ := hrel
    by_cases hlt : k < l.length
    · obtain ⟨b, off, ha, hb1, c0, c1, c2⟩ := (hs.below (Nat.le_refl _) hbel) k hlt
      have ix1 := @ix_Td a b off l.length cap k ha hlt
      have hsz := hbel.size
      have hat := fe_at tdOne l k hlt hfe
      have hsn := fe_snoc tdOne l k hlt
      rw [if_pos hfe] at hsn
      clear ha hfe
      generalize l[k] = x at *
      by_cases hx : TdBad x
      · have hb := tdOne_bad hx
        have HA := Lib.hid ((hat (by rw [hb]; omega)).trans hb)
        clear hsn hat hb
        unfold TdBad at hx
        rcases (show x.amp < 0 ∨ (0 ≤ x.amp ∧ 20000 < x.amp) ∨ (0 ≤ x.amp ∧ x.amp ≤ 20000 ∧ x.ph < 0) ∨ (0 ≤ x.amp ∧ x.amp ≤ 20000 ∧ 0 ≤ x.ph ∧ 999999999 < x.ph) ∨ (0 ≤ x.amp ∧ x.amp ≤ 20000 ∧ 0 ≤ x.ph ∧ x.ph ≤ 999999999 ∧ x.rt < 1) ∨ (0 ≤ x.amp ∧ x.amp ≤ 20000 ∧ 0 ≤ x.ph ∧ x.ph ≤ 999999999 ∧ 1 ≤ x.rt ∧ 4000000000000000 < x.rt) by omega) with q | q | q | q | q | q
        all_goals
          clear hx
          ((try have z1 : decide (x.amp < 0) = true := decide_eq_true (by omega)); (try have z1 : decide (x.amp < 0) = false := decide_eq_false (by omega)); (try have z2 : decide (20000 < x.amp) = true := decide_eq_true (by omega)); (try have z2 : decide (20000 < x.amp) = false := decide_eq_false (by omega)); (try have z3 : decide (x.ph < 0) = true := decide_eq_true (by omega)); (try have z3 : decide (x.ph < 0) = false := decide_eq_false (by omega)); (try have z4 : decide (999999999 < x.ph) = true := decide_eq_true (by omega)); (try have z4 : decide (999999999 < x.ph) = false := decide_eq_false (by omega)); (try have z6 : decide (1000000000 ≤ x.ph) = true := decide_eq_true (by omega)); (try have z6 : decide (1000000000 ≤ x.ph) = false := decide_eq_false (by omega)); (try have z5 : decide (x.rt < 1) = true := decide_eq_true (by omega)); (try have z5 : decide (x.rt < 1) = false := decide_eq_false (by omega)); (try have z7 : decide (4000000000000000 < x.rt) = true := decide_eq_true (by omega)); (try have z7 : decide (4000000000000000 < x.rt) = false := decide_eq_false (by omega)))
          clear q
          go_wp2
          go_ret
          refine ⟨by rw [HA.out]; try rfl, ?_⟩
          exact belz
      · have hb := tdOne_ok hx
        rw [hb] at hsn
        have HS := Lib.hid hsn
        clear hat hsn hb
        unfold TdBad at hx
        have q : 0 ≤ x.amp ∧ x.amp ≤ 20000 ∧ 0 ≤ x.ph ∧ x.ph ≤ 999999999 ∧ 1 ≤ x.rt ∧ x.rt ≤ 4000000000000000 := by omega
        clear hx
        ((try have z1 : decide (x.amp < 0) = true := decide_eq_true (by omega)); (try have z1 : decide (x.amp < 0) = false := decide_eq_false (by omega)); (try have z2 : decide (20000 < x.amp) = true := decide_eq_true (by omega)); (try have z2 : decide (20000 < x.amp) = false := decide_eq_false (by omega)); (try have z3 : decide (x.ph < 0) = true := decide_eq_true (by omega)); (try have z3 : decide (x.ph < 0) = false := decide_eq_false (by omega)); (try have z4 : decide (999999999 < x.ph) = true := decide_eq_true (by omega)); (try have z4 : decide (999999999 < x.ph) = false := decide_eq_false (by omega)); (try have z6 : decide (1000000000 ≤ x.ph) = true := decide_eq_true (by omega)); (try have z6 : decide (1000000000 ≤ x.ph) = false := decide_eq_false (by omega)); (try have z5 : decide (x.rt < 1) = true := decide_eq_true (by omega)); (try have z5 : decide (x.rt < 1) = false := decide_eq_false (by omega)); (try have z7 : decide (4000000000000000 < x.rt) = true := decide_eq_true (by omega)); (try have z7 : decide (4000000000000000 < x.rt) = false := decide_eq_false (by omega)))
        clear q
        go_wp2
        go_roundg (gk - 1)
        case measure => omega
        case rel => exact ⟨k + 1, by omega, by go_num, by exact belz, HS.out⟩
    · have hkl : k = l.length := by omega
      subst hkl
      rw [List.take_length] at hfe
      have HF := Lib.hid hfe
      clear hfe
      go_wp2
      go_ret
      exact ⟨by rw [HF.out]; try rfl, hbel⟩
set_option maxHeartbeats 2000000 in
theorem c_tideErr_tm (a : Option Addr) (cap : Nat) (l : List Tm) (w : World) (hc : l.length ≤ cap) (h12 : l.length ≤ 12) (hs : TmSlice w a l) :
    Calls Tryd.prog 33 #[.slice a l.length cap] w fun e w' => e = .returned (.int .i64 (fe tdOne l)) ∧ Below w.heap.size w w' := by
  have h1 : decide ((12 : Int) < (l.length : Int)) = false := decide_eq_false (by omega)
  have hgen := sgen; have hgen2 := sgen2; have hgen3 := sgen3; go_enter Tryd.func33, Tryd.ntmps33
  go_wp2_with fail
  go_loopg [10] l.length (fun gk i wr => ∃ k : Nat, gk + k = l.length ∧ i = .int .i64 k ∧ Below w.heap.size w wr ∧ fe tdOne (l.take k) = 0)
  case atStart => exact ⟨0, by omega, rfl, Below.refl _ _, rfl⟩
  case round =>
    obtain ⟨k, hk, rfl, hbel, hfe⟩ := hrel
    by_cases hlt : k < l.length
    · obtain ⟨b, off, ha, hb1, c0, c1, c2⟩ := (hs.below (Nat.le_refl _) hbel) k hlt
      have ix1 := @ix_Td a b off l.length cap k ha hlt
      have hsz := hbel.size
      have hat := fe_at tdOne l k hlt hfe
      have hsn := fe_snoc tdOne l k hlt
      rw [if_pos hfe] at hsn
      clear ha hfe
      generalize l[k] = x at *
      by_cases hx : TdBad x
      · have hb := tdOne_bad hx
        have HA := Lib.hid ((hat (by rw [hb]; omega)).trans hb)
        clear hsn hat hb
        unfold TdBad at hx
        rcases (show x.amp < 0 ∨ (0 ≤ x.amp ∧ 20000 < x.amp) ∨ (0 ≤ x.amp ∧ x.amp ≤ 20000 ∧ x.ph < 0) ∨ (0 ≤ x.amp ∧ x.amp ≤ 20000 ∧ 0 ≤ x.ph ∧ 999999999 < x.ph) ∨ (0 ≤ x.amp ∧ x.amp ≤ 20000 ∧ 0 ≤ x.ph ∧ x.ph ≤ 999999999 ∧ x.rt < 1) ∨ (0 ≤ x.amp ∧ x.amp ≤ 20000 ∧ 0 ≤ x.ph ∧ x.ph ≤ 999999999 ∧ 1 ≤ x.rt ∧ 4000000000000000 < x.rt) by omega) with q | q | q | q | q | q
        all_goals
          clear hx
          ((try have z1 : decide (x.amp < 0) = true := decide_eq_true (by omega)); (try have z1 : decide (x.amp < 0) = false := decide_eq_false (by omega)); (try have z2 : decide (20000 < x.amp) = true := decide_eq_true (by omega)); (try have z2 : decide (20000 < x.amp) = false := decide_eq_false (by omega)); (try have z3 : decide (x.ph < 0) = true := decide_eq_true (by omega)); (try have z3 : decide (x.ph < 0) = false := decide_eq_false (by omega)); (try have z4 : decide (999999999 < x.ph) = true := decide_eq_true (by omega)); (try have z4 : decide (999999999 < x.ph) = false := decide_eq_false (by omega)); (try have z6 : decide (1000000000 ≤ x.ph) = true := decide_eq_true (by omega)); (try have z6 : decide (1000000000 ≤ x.ph) = false := decide_eq_false (by omega)); (try have z5 : decide (x.rt < 1) = true := decide_eq_true (by omega)); (try have z5 : decide (x.rt < 1) = false := decide_eq_false (by omega)); (try have z7 : decide (4000000000000000 < x.rt) = true := decide_eq_true (by omega)); (try have z7 : decide (4000000000000000 < x.rt) = false := decide_eq_false (by omega)))
          clear q
          go_wp2
          go_ret
          refine ⟨by rw [HA.out]; try rfl, ?_⟩
          exact belz
      · have hb := tdOne_ok hx
        rw [hb] at hsn
        have HS := Lib.hid hsn
        clear hat hsn hb
        unfold TdBad at hx
        have q : 0 ≤ x.amp ∧ x.amp ≤ 20000 ∧ 0 ≤ x.ph ∧ x.ph ≤ 999999999 ∧ 1 ≤ x.rt ∧ x.rt ≤ 4000000000000000 := by omega
        clear hx
        ((try have z1 : decide (x.amp < 0) = true := decide_eq_true (by omega)); (try have z1 : decide (x.amp < 0) = false := decide_eq_false (by omega)); (try have z2 : decide (20000 < x.amp) = true := decide_eq_true (by omega)); (try have z2 : decide (20000 < x.amp) = false := decide_eq_false (by omega)); (try have z3 : decide (x.ph < 0) = true := decide_eq_true (by omega)); (try have z3 : decide (x.ph < 0) = false := decide_eq_false (by omega)); (try have z4 : decide (999999999 < x.ph) = true := decide_eq_true (by omega)); (try have z4 : decide (999999999 < x.ph) = false := decide_eq_false (by omega)); (try have z6 : decide (1000000000 ≤ x.ph) = true := decide_eq_true (by omega)); (try have z6 : decide (1000000000 ≤ x.ph) = false := decide_eq_false (by omega)); (try have z5 : decide (x.rt < 1) = true := decide_eq_true (by omega)); (try have z5 : decide (x.rt < 1) = false := decide_eq_false (by omega)); (try have z7 : decide (4000000000000000 < x.rt) = true := decide_eq_true (by omega)); (try have z7 : decide (4000000000000000 < x.rt) = false := decide_eq_false (by omega)))
        clear q
        go_wp2
        go_roundg (gk - 1)
        case measure => omega
        case rel => exact ⟨k + 1, by omega, by go_num, by exact belz, HS.out⟩
    · have hkl : k = l.length := by omega
      subst hkl
      rw [List.take_length] at hfe
      have HF := Lib.hid hfe
      clear hfe
      go_wp2
      go_ret
      exact ⟨by rw [HF.out]; try rfl, hbel⟩
theorem c_tCheck (a : Option Addr) (cap : Nat) (l : List Tm) (w : World) (hc : l.length ≤ cap) (hs : TmSlice w a l) :
    Calls Tryd.prog 34 #[.slice a l.length cap] w fun e w' => e = .returned (.int .i64 (tdE l)) ∧ Below w.heap.size w w' := by
  unfold tdE
  by_cases h : 12 < l.length
  · rw [if_pos h]; exact c_tCheck_large a l.length cap w h
  · rw [if_neg h]; exact c_tCheck_tm a cap l w hc (by omega) hs
theorem c_tideErr (a : Option Addr) (cap : Nat) (l : List Tm) (w : World) (hc : l.length ≤ cap) (hs : TmSlice w a l) :
    Calls Tryd.prog 33 #[.slice a l.length cap] w fun e w' => e = .returned (.int .i64 (tdE l)) ∧ Below w.heap.size w w' := by
  unfold tdE
  by_cases h : 12 < l.length
  · rw [if_pos h]; exact c_tideErr_large a l.length cap w h
  · rw [if_neg h]; exact c_tideErr_tm a cap l w hc (by omega) hs
end Go.Proofs.YtjkhoepohiafeaaDoor
