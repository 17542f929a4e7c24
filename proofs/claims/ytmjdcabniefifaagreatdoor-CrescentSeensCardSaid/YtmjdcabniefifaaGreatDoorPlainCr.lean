/- The example of crescentWorks: the settings of the sun on two days, and the sides at their ends. No program in sight. -/
import Derived.Test.YtmjdcabniefifaaGreatDoorWalkCr2
set_option linter.unusedVariables false
set_option linter.unusedSimpArgs false
namespace Go.Proofs.YtmjdcabniefifaaGreatDoor
open Ieee
theorem rfL_top (s : Int → Int) (base : Int) : ∀ (j n k : Nat) (op : Bool), (∀ i : Nat, i < j → s (base + ((k + i : Nat) : Int) * 900000) = 1) → rfL s base (n + j) (k : Int) op (base + ((k : Int) - 1) * 900000) 1 = rfL s base n ((k + j : Nat) : Int) op (base + (((k + j : Nat) : Int) - 1) * 900000) 1
  | 0, n, k, op, _ => rfl
  | j + 1, n, k, op, h => by
    have h0 := h 0 (by omega)
    rw [show k + 0 = k from rfl] at h0
    have ih := rfL_top s base j n (k + 1) op (fun i hi => by have := h (i + 1) (by omega); rw [show k + 1 + i = k + (i + 1) by omega]; exact this)
    rw [show k + (j + 1) = k + 1 + j by omega, ← ih]
    rw [show n + (j + 1) = n + j + 1 by omega]
    conv => lhs; unfold rfL
    rw [h0, if_neg (by decide), if_neg (by decide)]
    rw [show ((k + 1 : Nat) : Int) = (k : Int) + 1 by omega, show (k : Int) + 1 - 1 = k by omega]
/-- A day of which the first 29 instants are at night, the next 40 by day, and that after them at night. -/
theorem rf_set {s : Int → Int} {base lo hi : Int} (h1 : ∀ k : Nat, k < 29 → s (base + (k : Int) * 900000) = 1) (h2 : ∀ k : Nat, k < 40 → s (base + ((29 + k : Nat) : Int) * 900000) = -1) (h3 : s (base + 62100000) = 1)
    (hn : narF s 120000 62 (base + 61200000) (base + 62100000) = ⟨lo, hi, true⟩) : rfL s base 97 0 false 0 0 = ⟨lo, hi, 0⟩ := by
  have h0 : s (base + 0 * 900000) = 1 := h1 0 (by decide)
  have e1 : rfL s base 97 0 false 0 0 = rfL s base (68 + 28) ((1 : Nat) : Int) false (base + (((1 : Nat) : Int) - 1) * 900000) 1 := by
    conv => lhs; unfold rfL
    rw [h0, if_neg (by decide), if_neg (by decide)]
    rfl
  rw [e1, rfL_top s base 28 68 1 false (fun i hi => h1 (1 + i) (by omega))]
  have h4 : s (base + ((1 + 28 : Nat) : Int) * 900000) = -1 := h2 0 (by decide)
  have e2 : rfL s base 68 ((1 + 28 : Nat) : Int) false (base + (((1 + 28 : Nat) : Int) - 1) * 900000) 1 = rfL s base (28 + 39) ((30 : Nat) : Int) false (base + (((30 : Nat) : Int) - 1) * 900000) (-1) := by
    conv => lhs; unfold rfL
    rw [h4, if_neg (by decide), if_neg (by decide)]
    rfl
  rw [e2, rfL_low s base 39 28 30 false (fun i hi => by have := h2 (1 + i) (by omega); rw [show 29 + (1 + i) = 30 + i by omega] at this; exact this)]
  unfold rfL
  rw [show base + ((30 + 39 : Nat) : Int) * 900000 = base + 62100000 by omega, show base + (((30 + 39 : Nat) : Int) - 1) * 900000 = base + 61200000 by omega, h3, if_neg (by decide), if_pos ⟨rfl, rfl⟩, hn]
  rfl
theorem rs_set (lat t : Int) : rsS 0 lat 0 (-1) t = -rsV 0 lat t 0 := by unfold rsS; omega
theorem ca_low : (List.range 29).all (fun k => decide (upS 0 100000000 (63082800000000 + (k : Int) * 900000) ≤ fu (-14682300))) = true := by decide +kernel
theorem ca_up : (List.range 40).all (fun k => decide (fu (-14405500) ≤ upS 0 100000000 (63082800000000 + ((29 + k : Nat) : Int) * 900000))) = true := by decide +kernel
theorem ca_69 : upS 0 100000000 (63082800000000 + 62100000) ≤ fu (-14682300) := by decide +kernel
theorem ca_a : upS 0 100000000 63082861650000 ≤ fu (-14682300) := by decide +kernel
theorem ca_b : upS 0 100000000 63082861425000 ≤ fu (-14682300) := by decide +kernel
theorem ca_c : upS 0 100000000 63082861312500 ≤ fu (-14682300) := by decide +kernel
theorem ca_fix : rfR 0 100000000 730125 0 (-1) = ⟨63082861200000, 63082861312500, 0⟩ := by
  unfold rfR
  rw [show (730125 : Int) * 86400000 = 63082800000000 by decide]
  refine rf_set ?_ ?_ ?_ ?_
  · intro k hk
    rw [rs_set, rs_dn (of_decide_eq_true (List.all_eq_true.1 ca_low k (List.mem_range.2 hk)))]; decide
  · intro k hk
    rw [rs_set, rs_up (of_decide_eq_true (List.all_eq_true.1 ca_up k (List.mem_range.2 hk)))]
  · rw [rs_set, rs_dn ca_69]; decide
  · have ha : rsS 0 100000000 0 (-1) 63082861650000 = 1 := by rw [rs_set, rs_dn ca_a]; decide
    have hb : rsS 0 100000000 0 (-1) 63082861425000 = 1 := by rw [rs_set, rs_dn ca_b]; decide
    have hc : rsS 0 100000000 0 (-1) 63082861312500 = 1 := by rw [rs_set, rs_dn ca_c]; decide
    rw [show (63082800000000 : Int) + 61200000 = 63082861200000 by decide, show (63082800000000 : Int) + 62100000 = 63082862100000 by decide]
    generalize rsS 0 100000000 0 (-1) = s at *
    unfold narF
    rw [if_pos (by decide), show (63082861200000 : Int) + (63082862100000 - 63082861200000) / 2 = 63082861650000 by decide, ha, if_neg (by decide), if_pos rfl]
    unfold narF
    rw [if_pos (by decide), show (63082861200000 : Int) + (63082861650000 - 63082861200000) / 2 = 63082861425000 by decide, hb, if_neg (by decide), if_pos rfl]
    unfold narF
    rw [if_pos (by decide), show (63082861200000 : Int) + (63082861425000 - 63082861200000) / 2 = 63082861312500 by decide, hc, if_neg (by decide), if_pos rfl]
    unfold narF
    rw [if_neg (by decide)]
theorem cb_low : (List.range 29).all (fun k => decide (upS 0 100000000 (63083145600000 + (k : Int) * 900000) ≤ fu (-14682300))) = true := by decide +kernel
theorem cb_up : (List.range 40).all (fun k => decide (fu (-14405500) ≤ upS 0 100000000 (63083145600000 + ((29 + k : Nat) : Int) * 900000))) = true := by decide +kernel
theorem cb_69 : upS 0 100000000 (63083145600000 + 62100000) ≤ fu (-14682300) := by decide +kernel
theorem cb_a : upS 0 100000000 63083207250000 ≤ fu (-14682300) := by decide +kernel
theorem cb_b : fu (-14405500) ≤ upS 0 100000000 63083207025000 := by decide +kernel
theorem cb_c : upS 0 100000000 63083207137500 ≤ fu (-14682300) := by decide +kernel
theorem cb_fix : rfR 0 100000000 730129 0 (-1) = ⟨63083207025000, 63083207137500, 0⟩ := by
  unfold rfR
  rw [show (730129 : Int) * 86400000 = 63083145600000 by decide]
  refine rf_set ?_ ?_ ?_ ?_
  · intro k hk
    rw [rs_set, rs_dn (of_decide_eq_true (List.all_eq_true.1 cb_low k (List.mem_range.2 hk)))]; decide
  · intro k hk
    rw [rs_set, rs_up (of_decide_eq_true (List.all_eq_true.1 cb_up k (List.mem_range.2 hk)))]
  · rw [rs_set, rs_dn cb_69]; decide
  · have ha : rsS 0 100000000 0 (-1) 63083207250000 = 1 := by rw [rs_set, rs_dn cb_a]; decide
    have hb : rsS 0 100000000 0 (-1) 63083207025000 = -1 := by rw [rs_set, rs_up cb_b]
    have hc : rsS 0 100000000 0 (-1) 63083207137500 = 1 := by rw [rs_set, rs_dn cb_c]; decide
    rw [show (63083145600000 : Int) + 61200000 = 63083206800000 by decide, show (63083145600000 : Int) + 62100000 = 63083207700000 by decide]
    generalize rsS 0 100000000 0 (-1) = s at *
    unfold narF
    rw [if_pos (by decide), show (63083206800000 : Int) + (63083207700000 - 63083206800000) / 2 = 63083207250000 by decide, ha, if_neg (by decide), if_pos rfl]
    unfold narF
    rw [if_pos (by decide), show (63083206800000 : Int) + (63083207250000 - 63083206800000) / 2 = 63083207025000 by decide, hb, if_pos rfl]
    unfold narF
    rw [if_pos (by decide), show (63083207025000 : Int) + (63083207250000 - 63083207025000) / 2 = 63083207137500 by decide, hc, if_neg (by decide), if_pos rfl]
    unfold narF
    rw [if_neg (by decide)]
theorem cr_a0 : crV 0 100000000 63082861200000 = -1 := by decide +kernel
theorem cr_a1 : crV 0 100000000 63082861312500 = -1 := by decide +kernel
theorem cr_b0 : crV 0 100000000 63083207025000 = 1 := by decide +kernel
theorem cr_b1 : crV 0 100000000 63083207137500 = 1 := by decide +kernel
theorem sn_fd {lon lat d lo hi : Int} (h : rsE lon lat 0 = 0) (d1 : -4000000 ≤ d) (d2 : d < 4000000) (hf : rfR lon lat d 0 (-1) = ⟨lo, hi, 0⟩) : snR lon lat d = snN 0 (crV lon lat lo) (crV lon lat hi) := by
  have e : fdR lon lat d 0 false = ⟨lo, hi, 0⟩ := by unfold fdR; rw [if_neg (by simp [h]), if_neg (by omega)]; exact hf
  unfold snR; rw [e]
theorem sn_a : snR 0 100000000 730125 = (0, 0) := by
  rw [sn_fd (by decide) (by decide) (by decide) ca_fix, cr_a0, cr_a1]; decide
theorem sn_b : snR 0 100000000 730129 = (1, 0) := by
  rw [sn_fd (by decide) (by decide) (by decide) cb_fix, cr_b0, cr_b1]; decide
/-- What is known of Seen's answer. -/
theorem sn_ok (lon lat d : Int) : ((snR lon lat d).1 = 0 ∨ (snR lon lat d).1 = 1) ∧ ((snR lon lat d).2 ≠ 0 → (snR lon lat d).1 = 0) ∧ ((snR lon lat d).2 = 0 → -4000000 ≤ d ∧ d < 4000000) := by
  have hd : (fdR lon lat d 0 false).er = 0 → -4000000 ≤ d ∧ d < 4000000 := by
    unfold fdR
    by_cases h : rsE lon lat 0 ≠ 0
    · rw [if_pos h]; intro q; exact absurd q h
    · rw [if_neg h]
      by_cases hd : d < -4000000 ∨ 4000000 ≤ d
      · rw [if_pos hd]; intro q; cases q
      · intro _; omega
  unfold snR snN
  by_cases h : (fdR lon lat d 0 false).er ≠ 0
  · rw [if_pos h]; exact ⟨.inl rfl, fun _ => rfl, fun q => absurd q h⟩
  · rw [if_neg h]
    have := hd (by omega)
    split
    · exact ⟨.inr rfl, fun q => absurd rfl q, fun _ => this⟩
    · split
      · exact ⟨.inl rfl, fun q => absurd rfl q, fun _ => this⟩
      · exact ⟨.inl rfl, fun _ => rfl, fun q => by cases q⟩
/-- What First answers. -/
def fiL (s : Int → Int × Int) (d : Int) : Nat → Int → Int → Int × Int
  | 0, _, _ => (0, 6)
  | n + 1, k, be => if (s (d + k)).2 ≠ 0 then (0, (s (d + k)).2) else if be = 0 ∧ (s (d + k)).1 = 1 then (d + k, 0) else fiL s d n (k + 1) (s (d + k)).1
def fiR (lon lat d : Int) : Int × Int := if (snR lon lat (Go.IntKind.i64.wrap (d - 1))).2 ≠ 0 then (0, (snR lon lat (Go.IntKind.i64.wrap (d - 1))).2) else fiL (snR lon lat) d 60 0 (snR lon lat (Go.IntKind.i64.wrap (d - 1))).1
theorem fi_day {d : Int} (h1 : -9223372036854775808 ≤ d) (h2 : d ≤ 9223372036854775807) (h : -4000000 ≤ Go.IntKind.i64.wrap (d - 1) ∧ Go.IntKind.i64.wrap (d - 1) < 4000000) : -3999999 ≤ d ∧ d ≤ 4000000 := by
  by_cases q : d = -9223372036854775808
  · subst q
    exfalso
    rw [show Go.IntKind.i64.wrap (-9223372036854775808 - 1) = 9223372036854775807 by decide] at h
    omega
  · rw [Go.IntWalk.i64_in _ (by omega)] at h
    omega
end Go.Proofs.YtmjdcabniefifaaGreatDoor
