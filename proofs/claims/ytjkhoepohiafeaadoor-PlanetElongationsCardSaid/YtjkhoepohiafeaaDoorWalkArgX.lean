/- The reference's Arg at any instant whatever: it answers with some value of a wheel (outside of the instants that the document knows no law asks which). -/
import Derived.Test.YtjkhoepohiafeaaDoorWkA
set_option linter.unusedVariables false
set_option linter.unusedSimpArgs false
set_option maxRecDepth 100000
namespace Go.Proofs.YtjkhoepohiafeaaDoor
open Go.RowKit
def argF (R I : Int) : Nat → Int × Int
  | 0 => (0, 0)
  | n + 1 => if bits .and .i64 (I / 2 ^ (50 - n)) 1 = 1 then ((2 * (argF R I n).1 + (2 * (argF R I n).2 + R) / 86400000) % 1000000000000000, (2 * (argF R I n).2 + R) % 86400000) else ((2 * (argF R I n).1 + 2 * (argF R I n).2 / 86400000) % 1000000000000000, 2 * (argF R I n).2 % 86400000)
theorem argF_bd (R I : Int) : ∀ n, 0 ≤ (argF R I n).1 ∧ (argF R I n).1 < 1000000000000000 ∧ 0 ≤ (argF R I n).2 ∧ (argF R I n).2 < 86400000
  | 0 => by unfold argF; decide
  | n + 1 => by
    unfold argF
    split
    · refine ⟨?_, ?_, ?_, ?_⟩ <;> simp only <;> omega
    · refine ⟨?_, ?_, ?_, ?_⟩ <;> simp only <;> omega
theorem argF_1 {R I : Int} {b : Nat} (hb : b ≤ 50) (h : bits .and .i64 (I / 2 ^ b) 1 = 1) : argF R I (51 - b) = ((2 * (argF R I (51 - (b + 1))).1 + (2 * (argF R I (51 - (b + 1))).2 + R) / 86400000) % 1000000000000000, (2 * (argF R I (51 - (b + 1))).2 + R) % 86400000) := by
  have e : 51 - b = (51 - (b + 1)) + 1 := by omega
  rw [e]
  show (if bits .and .i64 (I / 2 ^ (50 - (51 - (b + 1)))) 1 = 1 then _ else _) = _
  rw [show 50 - (51 - (b + 1)) = b by omega, if_pos h]
theorem argF_0 {R I : Int} {b : Nat} (hb : b ≤ 50) (h : bits .and .i64 (I / 2 ^ b) 1 = 0) : argF R I (51 - b) = ((2 * (argF R I (51 - (b + 1))).1 + 2 * (argF R I (51 - (b + 1))).2 / 86400000) % 1000000000000000, 2 * (argF R I (51 - (b + 1))).2 % 86400000) := by
  have e : 51 - b = (51 - (b + 1)) + 1 := by omega
  rw [e]
  show (if bits .and .i64 (I / 2 ^ (50 - (51 - (b + 1)))) 1 = 1 then _ else _) = _
  rw [show 50 - (51 - (b + 1)) = b by omega, if_neg (by rw [h]; decide)]
theorem and_min : ∀ b : Nat, b < 51 → bits .and .i64 ((-9223372036854775808) / 2 ^ b) 1 = 0 := by decide +kernel
set_option maxHeartbeats 4000000 in
theorem argX_pos (rate inst : Int) (r0 : 0 < rate) (r2 : rate ≤ 1000000000000000000) (h2 : 0 ≤ inst) (i1 : inst ≤ 9223372036854775807) : ∃ v : Int, 0 ≤ v ∧ v < 1000000000000000 ∧ ∀ w : World,
    Calls Tryd.prog 35 #[.int .i64 rate, .int .i64 inst] w fun e w' => e = .returned (.int .i64 v) ∧ w = w' := by
  refine ⟨(argF rate (inst) 51).1 % 1000000000000000, by omega, by omega, fun w => ?_⟩
  have d1 : decide (rate < 0) = false := decide_eq_false (by omega)
  have d2 : decide (inst < 0) = false := decide_eq_false (by omega)
  have d3 : (((false : Bool) != false) : Bool) = false := rfl
  have hgen := sgen; have hgen2 := sgen2; have hgen3 := sgen3; go_enter Tryd.func35, Tryd.ntmps35
  go_wp2
  go_loopg [6, 7, 8] 51 (fun gk s6 s7 i wr => ∃ m : Nat, gk = m ∧ m ≤ 51 ∧ i = .int .i64 ((m : Int) - 1) ∧ s6 = .int .i64 (argF rate (inst) (51 - m)).1 ∧ s7 = .int .i64 (argF rate (inst) (51 - m)).2 ∧ wr = w)
  case atStart => exact ⟨51, rfl, by omega, rfl, rfl, rfl, rfl⟩
  case round =>
    obtain ⟨m, rfl, hm, rfl, rfl, rfl, rfl⟩ := hrel
    obtain ⟨q0, q1, r0', r1'⟩ := argF_bd rate (inst) (51 - gk)
    rcases gk with _ | b
    · rw [show (((0 : Nat) : Int) - 1) = -1 from rfl]
      rw [show 51 - 0 = 51 from rfl] at *
      go_wp2_with (go_at_call 16; (with_reducible refine (c_rMod _ _ _ (by omega) (by omega) (by omega) (by omega)).mono ?_); rintro e w' ⟨rfl, rfl⟩)
      go_ret
      exact ⟨rfl, rfl⟩
    · rw [show (((b + 1 : Nat) : Int) - 1) = (b : Int) by omega]
      have p0 : 0 ≤ (inst) / 2 ^ b := Int.ediv_nonneg (by omega) (Int.pow_nonneg (by omega))
      have p1 : (inst) / 2 ^ b ≤ inst := Int.ediv_le_self _ (by omega)
      have pm : min b 64 = b := by omega
      have pb := and1 p0 (by omega)
      rcases (show (inst) / 2 ^ b % 2 = 1 ∨ (inst) / 2 ^ b % 2 = 0 by omega) with hb | hb
      · rw [hb] at pb
        have HF := Lib.hid (argF_1 (R := rate) (I := (inst)) (b := b) (by omega) pb)
        generalize (argF rate (inst) (51 - (b + 1))).1 = q at *
        generalize (argF rate (inst) (51 - (b + 1))).2 = r at *
        clear hb
        go_wp2
        go_roundg b
        case measure => omega
        case rel => exact ⟨b, rfl, by omega, rfl, by rw [HF.out], by rw [HF.out], rfl⟩
      · rw [hb] at pb
        have HF := Lib.hid (argF_0 (R := rate) (I := (inst)) (b := b) (by omega) pb)
        generalize (argF rate (inst) (51 - (b + 1))).1 = q at *
        generalize (argF rate (inst) (51 - (b + 1))).2 = r at *
        clear hb
        go_wp2
        go_roundg b
        case measure => omega
        case rel => exact ⟨b, rfl, by omega, rfl, by rw [HF.out], by rw [HF.out], rfl⟩
set_option maxHeartbeats 4000000 in
theorem argX_neg (rate inst : Int) (r0 : 0 < rate) (r2 : rate ≤ 1000000000000000000) (h2 : inst < 0) (i1 : -9223372036854775807 ≤ inst) : ∃ v : Int, 0 ≤ v ∧ v < 1000000000000000 ∧ ∀ w : World,
    Calls Tryd.prog 35 #[.int .i64 rate, .int .i64 inst] w fun e w' => e = .returned (.int .i64 v) ∧ w = w' := by
  refine ⟨(if 0 < (argF rate (-inst) 51).2 then (-(argF rate (-inst) 51).1 - 1) % 1000000000000000 else (-(argF rate (-inst) 51).1) % 1000000000000000), by split <;> omega, by split <;> omega, fun w => ?_⟩
  have d1 : decide (rate < 0) = false := decide_eq_false (by omega)
  have d2 : decide (inst < 0) = true := decide_eq_true h2
  have d3 : (((false : Bool) != true) : Bool) = true := rfl
  have hgen := sgen; have hgen2 := sgen2; have hgen3 := sgen3; go_enter Tryd.func35, Tryd.ntmps35
  go_wp2
  go_loopg [6, 7, 8] 51 (fun gk s6 s7 i wr => ∃ m : Nat, gk = m ∧ m ≤ 51 ∧ i = .int .i64 ((m : Int) - 1) ∧ s6 = .int .i64 (argF rate (-inst) (51 - m)).1 ∧ s7 = .int .i64 (argF rate (-inst) (51 - m)).2 ∧ wr = w)
  case atStart => exact ⟨51, rfl, by omega, rfl, rfl, rfl, rfl⟩
  case round =>
    obtain ⟨m, rfl, hm, rfl, rfl, rfl, rfl⟩ := hrel
    obtain ⟨q0, q1, r0', r1'⟩ := argF_bd rate (-inst) (51 - gk)
    rcases gk with _ | b
    · rw [show (((0 : Nat) : Int) - 1) = -1 from rfl]
      rw [show 51 - 0 = 51 from rfl] at *
      by_cases hr : 0 < (argF rate (-inst) 51).2
      · have HF := Lib.hid (show (if 0 < (argF rate (-inst) 51).2 then (-(argF rate (-inst) 51).1 - 1) % 1000000000000000 else (-(argF rate (-inst) 51).1) % 1000000000000000) = (-(argF rate (-inst) 51).1 - 1) % 1000000000000000 from if_pos hr)
        go_wp2_with (go_at_call 16; (with_reducible refine (c_rMod _ _ _ (by omega) (by omega) (by omega) (by omega)).mono ?_); rintro e w' ⟨rfl, rfl⟩)
        all_goals go_ret
        all_goals exact ⟨rfl, rfl⟩
      · have HF := Lib.hid (show (if 0 < (argF rate (-inst) 51).2 then (-(argF rate (-inst) 51).1 - 1) % 1000000000000000 else (-(argF rate (-inst) 51).1) % 1000000000000000) = (-(argF rate (-inst) 51).1) % 1000000000000000 from if_neg hr)
        go_wp2_with (go_at_call 16; (with_reducible refine (c_rMod _ _ _ (by omega) (by omega) (by omega) (by omega)).mono ?_); rintro e w' ⟨rfl, rfl⟩)
        all_goals go_ret
        all_goals exact ⟨rfl, rfl⟩
    · rw [show (((b + 1 : Nat) : Int) - 1) = (b : Int) by omega]
      have p0 : 0 ≤ (-inst) / 2 ^ b := Int.ediv_nonneg (by omega) (Int.pow_nonneg (by omega))
      have p1 : (-inst) / 2 ^ b ≤ -inst := Int.ediv_le_self _ (by omega)
      have pm : min b 64 = b := by omega
      have pb := and1 p0 (by omega)
      rcases (show (-inst) / 2 ^ b % 2 = 1 ∨ (-inst) / 2 ^ b % 2 = 0 by omega) with hb | hb
      · rw [hb] at pb
        have HF := Lib.hid (argF_1 (R := rate) (I := (-inst)) (b := b) (by omega) pb)
        generalize (argF rate (-inst) (51 - (b + 1))).1 = q at *
        generalize (argF rate (-inst) (51 - (b + 1))).2 = r at *
        clear hb
        go_wp2
        go_roundg b
        case measure => omega
        case rel => exact ⟨b, rfl, by omega, rfl, by rw [HF.out], by rw [HF.out], rfl⟩
      · rw [hb] at pb
        have HF := Lib.hid (argF_0 (R := rate) (I := (-inst)) (b := b) (by omega) pb)
        generalize (argF rate (-inst) (51 - (b + 1))).1 = q at *
        generalize (argF rate (-inst) (51 - (b + 1))).2 = r at *
        clear hb
        go_wp2
        go_roundg b
        case measure => omega
        case rel => exact ⟨b, rfl, by omega, rfl, by rw [HF.out], by rw [HF.out], rfl⟩
set_option maxHeartbeats 4000000 in
theorem argX_min (rate : Int) (r0 : 0 < rate) (r2 : rate ≤ 1000000000000000000)  : ∃ v : Int, 0 ≤ v ∧ v < 1000000000000000 ∧ ∀ w : World,
    Calls Tryd.prog 35 #[.int .i64 rate, .int .i64 (-9223372036854775808)] w fun e w' => e = .returned (.int .i64 v) ∧ w = w' := by
  refine ⟨(if 0 < (argF rate (-9223372036854775808) 51).2 then (-(argF rate (-9223372036854775808) 51).1 - 1) % 1000000000000000 else (-(argF rate (-9223372036854775808) 51).1) % 1000000000000000), by split <;> omega, by split <;> omega, fun w => ?_⟩
  have d1 : decide (rate < 0) = false := decide_eq_false (by omega)
  have d2 : decide ((-9223372036854775808 : Int) < 0) = true := rfl
  have hw : IntKind.i64.wrap 9223372036854775808 = -9223372036854775808 := by decide
  have d3 : (((false : Bool) != true) : Bool) = true := rfl
  have hgen := sgen; have hgen2 := sgen2; have hgen3 := sgen3; go_enter Tryd.func35, Tryd.ntmps35
  go_wp2
  go_loopg [6, 7, 8] 51 (fun gk s6 s7 i wr => ∃ m : Nat, gk = m ∧ m ≤ 51 ∧ i = .int .i64 ((m : Int) - 1) ∧ s6 = .int .i64 (argF rate (-9223372036854775808) (51 - m)).1 ∧ s7 = .int .i64 (argF rate (-9223372036854775808) (51 - m)).2 ∧ wr = w)
  case atStart => exact ⟨51, rfl, by omega, rfl, rfl, rfl, rfl⟩
  case round =>
    obtain ⟨m, rfl, hm, rfl, rfl, rfl, rfl⟩ := hrel
    obtain ⟨q0, q1, r0', r1'⟩ := argF_bd rate (-9223372036854775808) (51 - gk)
    rcases gk with _ | b
    · rw [show (((0 : Nat) : Int) - 1) = -1 from rfl]
      rw [show 51 - 0 = 51 from rfl] at *
      by_cases hr : 0 < (argF rate (-9223372036854775808) 51).2
      · have HF := Lib.hid (show (if 0 < (argF rate (-9223372036854775808) 51).2 then (-(argF rate (-9223372036854775808) 51).1 - 1) % 1000000000000000 else (-(argF rate (-9223372036854775808) 51).1) % 1000000000000000) = (-(argF rate (-9223372036854775808) 51).1 - 1) % 1000000000000000 from if_pos hr)
        go_wp2_with (go_at_call 16; (with_reducible refine (c_rMod _ _ _ (by omega) (by omega) (by omega) (by omega)).mono ?_); rintro e w' ⟨rfl, rfl⟩)
        all_goals go_ret
        all_goals exact ⟨rfl, rfl⟩
      · have HF := Lib.hid (show (if 0 < (argF rate (-9223372036854775808) 51).2 then (-(argF rate (-9223372036854775808) 51).1 - 1) % 1000000000000000 else (-(argF rate (-9223372036854775808) 51).1) % 1000000000000000) = (-(argF rate (-9223372036854775808) 51).1) % 1000000000000000 from if_neg hr)
        go_wp2_with (go_at_call 16; (with_reducible refine (c_rMod _ _ _ (by omega) (by omega) (by omega) (by omega)).mono ?_); rintro e w' ⟨rfl, rfl⟩)
        all_goals go_ret
        all_goals exact ⟨rfl, rfl⟩
    · rw [show (((b + 1 : Nat) : Int) - 1) = (b : Int) by omega]
      have pm : min b 64 = b := by omega
      have pb := and_min b (by omega)
      have HF := Lib.hid (argF_0 (R := rate) (I := (-9223372036854775808)) (b := b) (by omega) pb)
      generalize (argF rate (-9223372036854775808) (51 - (b + 1))).1 = q at *
      generalize (argF rate (-9223372036854775808) (51 - (b + 1))).2 = r at *
      go_wp2
      go_roundg b
      case measure => omega
      case rel => exact ⟨b, rfl, by omega, rfl, by rw [HF.out], by rw [HF.out], rfl⟩
theorem c_ArgX (rate inst : Int) (r0 : 0 < rate) (r2 : rate ≤ 1000000000000000000) (i1 : -9223372036854775808 ≤ inst) (i2 : inst ≤ 9223372036854775807) : ∃ v : Int, 0 ≤ v ∧ v < 1000000000000000 ∧ ∀ w : World,
    Calls Tryd.prog 35 #[.int .i64 rate, .int .i64 inst] w fun e w' => e = .returned (.int .i64 v) ∧ w = w' := by
  rcases (show 0 ≤ inst ∨ (inst < 0 ∧ -9223372036854775807 ≤ inst) ∨ inst = -9223372036854775808 by omega) with h | h | h
  · exact argX_pos rate inst r0 r2 h i2
  · exact argX_neg rate inst r0 r2 h.1 h.2
  · subst h
    exact argX_min rate r0 r2
end Go.Proofs.YtjkhoepohiafeaaDoor
