/- The reference's Arg at any instant whatever: it answers with some value of a wheel (outside of the instants that the document knows no law asks which). The table of the stars: contracts of star.At, star.Names and of the reference's Star. -/
import Derived.Test.YtcgnhnmigmdalaaDoorWkA
import Derived.Test.YtcgnhnmigmdalaaDoorWalkSva
import Derived.Laws.Rows
import Derived.Deep.QuietTactic
import Derived.BigQuiet
set_option linter.unusedVariables false
set_option linter.unusedSimpArgs false
namespace Go.Proofs.YtcgnhnmigmdalaaDoor
section
set_option maxRecDepth 100000
open Go.RowKit
def argF (R I : Int) : Nat → Int × Int
  | 0 => (0, 0)
  | n + 1 => if bits .and .i64 (I / 2 ^ (50 - n)) 1 = 1 then ((2 * (argF R I n).1 + (2 * (argF R I n).2 + R) / 86400000) % 1000000000000000, (2 * (argF R I n).2 + R) % 86400000) else ((2 * (argF R I n).1 + 2 * (argF R I n).2 / 86400000) % 1000000000000000, 2 * (argF R I n).2 % 86400000)
theorem argF_bd (R I : Int) : ∀ n, 0 ≤ (argF R I n).1 ∧ (argF R I n).1 < 1000000000000000 ∧ 0 ≤ (argF R I n).2 ∧ (argF R I n).2 < 86400000
  | 0 => by unfold argF; decide
  | n + 1 => by
    unfold argF
    split
    · refine ⟨?_, ?_, ?_, ?_⟩ <;> simp only <;> omega
    · refine ⟨?_, ?_, ?_, ?_⟩ <;> simp only <;> omega
theorem argF_1 {R I : Int} {b : Nat} (hb : b ≤ 50) (h : bits .and .i64 (I / 2 ^ b) 1 = 1) : argF R I (51 - b) = ((2 * (argF R I (51 - (b + 1))).1 + (2 * (argF R I (51 - (b + 1))).2 + R) / 86400000) % 1000000000000000, (2 * (argF R I (51 - (b + 1))).2 + R) % 86400000) := by
  have e : 51 - b = (51 - (b + 1)) + 1 := by omega
  rw [e]
  show (if bits .and .i64 (I / 2 ^ (50 - (51 - (b + 1)))) 1 = 1 then _ else _) = _
  rw [show 50 - (51 - (b + 1)) = b by omega, if_pos h]
theorem argF_0 {R I : Int} {b : Nat} (hb : b ≤ 50) (h : bits .and .i64 (I / 2 ^ b) 1 = 0) : argF R I (51 - b) = ((2 * (argF R I (51 - (b + 1))).1 + 2 * (argF R I (51 - (b + 1))).2 / 86400000) % 1000000000000000, 2 * (argF R I (51 - (b + 1))).2 % 86400000) := by
  have e : 51 - b = (51 - (b + 1)) + 1 := by omega
  rw [e]
  show (if bits .and .i64 (I / 2 ^ (50 - (51 - (b + 1)))) 1 = 1 then _ else _) = _
  rw [show 50 - (51 - (b + 1)) = b by omega, if_neg (by rw [h]; decide)]
theorem and_min : ∀ b : Nat, b < 51 → bits .and .i64 ((-9223372036854775808) / 2 ^ b) 1 = 0 := by decide +kernel
set_option maxHeartbeats 4000000 in
theorem argX_pos (rate inst : Int) (r0 : 0 < rate) (r2 : rate ≤ 1000000000000000000) (h2 : 0 ≤ inst) (i1 : inst ≤ 9223372036854775807) : ∃ v : Int, 0 ≤ v ∧ v < 1000000000000000 ∧ ∀ w : World,
    Calls Tryd.prog 47 #[.int .i64 rate, .int .i64 inst] w fun e w' => e = .returned (.int .i64 v) ∧ w = w' := by
  refine ⟨(argF rate (inst) 51).1 % 1000000000000000, by omega, by omega, fun w => ?_⟩
  have d1 : decide (rate < 0) = false := decide_eq_false (by omega)
  have d2 : decide (inst < 0) = false := decide_eq_false (by omega)
  have d3 : (((false : Bool) != false) : Bool) = false := rfl
  have hgen := sgen; have hgen2 := sgen2; have hgen3 := sgen3; go_enter Tryd.func47, Tryd.ntmps47
  go_wp2
  go_loopg [6, 7, 8] 51 (fun gk s6 s7 i wr => ∃ m : Nat, gk = m ∧ m ≤ 51 ∧ i = .int .i64 ((m : Int) - 1) ∧ s6 = .int .i64 (argF rate (inst) (51 - m)).1 ∧ s7 = .int .i64 (argF rate (inst) (51 - m)).2 ∧ wr = w)
  case atStart => exact ⟨51, rfl, by omega, rfl, rfl, rfl, rfl⟩
  case round =>
    obtain ⟨m, rfl, hm, rfl, rfl, rfl, rfl⟩ := hrel
    obtain ⟨q0, q1, r0', r1'⟩ := argF_bd rate (inst) (51 - gk)
    rcases gk with _ | b
    · rw [show (((0 : Nat) : Int) - 1) = -1 from rfl]
      rw [show 51 - 0 = 51 from rfl] at *
      go_wp2_with (go_at_call 72; (with_reducible refine (c_rMod _ _ _ (by omega) (by omega) (by omega) (by omega)).mono ?_); rintro e w' ⟨rfl, rfl⟩)
      go_ret
      exact ⟨rfl, rfl⟩
    · rw [show (((b + 1 : Nat) : Int) - 1) = (b : Int) by omega]
      have p0 : 0 ≤ (inst) / 2 ^ b := Int.ediv_nonneg (by omega) (Int.pow_nonneg (by omega))
      have p1 : (inst) / 2 ^ b ≤ inst := Int.ediv_le_self _ (by omega)
      have pm : min b 64 = b := by omega
      have pb := and1 p0 (by omega)
      rcases (show (inst) / 2 ^ b % 2 = 1 ∨ (inst) / 2 ^ b % 2 = 0 by omega) with hb | hb
      · rw [hb] at pb
        have HF := Lib.hid (argF_1 (R := rate) (I := (inst)) (b := b) (by omega) pb)
        generalize (argF rate (inst) (51 - (b + 1))).1 = q at *
        generalize (argF rate (inst) (51 - (b + 1))).2 = r at *
        clear hb
        go_wp2
        go_roundg b
        case measure => omega
        case rel => exact ⟨b, rfl, by omega, rfl, by rw [HF.out], by rw [HF.out], rfl⟩
      · rw [hb] at pb
        have HF := Lib.hid (argF_0 (R := rate) (I := (inst)) (b := b) (by omega) pb)
        generalize (argF rate (inst) (51 - (b + 1))).1 = q at *
        generalize (argF rate (inst) (51 - (b + 1))).2 = r at *
        clear hb
        go_wp2
        go_roundg b
        case measure => omega
        case rel => exact ⟨b, rfl, by omega, rfl, by rw [HF.out], by rw [HF.out], rfl⟩
set_option maxHeartbeats 4000000 in
theorem argX_neg (rate inst : Int) (r0 : 0 < rate) (r2 : rate ≤ 1000000000000000000) (h2 : inst < 0) (i1 : -9223372036854775807 ≤ inst) : ∃ v : Int, 0 ≤ v ∧ v < 1000000000000000 ∧ ∀ w : World,
    Calls Tryd.prog 47 #[.int .i64 rate, .int .i64 inst] w fun e w' => e = .returned (.int .i64 v) ∧ w = w' := by
  refine ⟨(if 0 < (argF rate (-inst) 51).2 then (-(argF rate (-inst) 51).1 - 1) % 1000000000000000 else (-(argF rate (-inst) 51).1) % 1000000000000000), by split <;> omega, by split <;> omega, fun w => ?_⟩
  have d1 : decide (rate < 0) = false := decide_eq_false (by omega)
  have d2 : decide (inst < 0) = true := decide_eq_true h2
  have d3 : (((false : Bool) != true) : Bool) = true := rfl
  have hgen := sgen; have hgen2 := sgen2; have hgen3 := sgen3; go_enter Tryd.func47, Tryd.ntmps47
  go_wp2
  go_loopg [6, 7, 8] 51 (fun gk s6 s7 i wr => ∃ m : Nat, gk = m ∧ m ≤ 51 ∧ i = .int .i64 ((m : Int) - 1) ∧ s6 = .int .i64 (argF rate (-inst) (51 - m)).1 ∧ s7 = .int .i64 (argF rate (-inst) (51 - m)).2 ∧ wr = w)
  case atStart => exact ⟨51, rfl, by omega, rfl, rfl, rfl, rfl⟩
  case round =>
    obtain ⟨m, rfl, hm, rfl, rfl, rfl, rfl⟩ := hrel
    obtain ⟨q0, q1, r0', r1'⟩ := argF_bd rate (-inst) (51 - gk)
    rcases gk with _ | b
    · rw [show (((0 : Nat) : Int) - 1) = -1 from rfl]
      rw [show 51 - 0 = 51 from rfl] at *
      by_cases hr : 0 < (argF rate (-inst) 51).2
      · have HF := Lib.hid (show (if 0 < (argF rate (-inst) 51).2 then (-(argF rate (-inst) 51).1 - 1) % 1000000000000000 else (-(argF rate (-inst) 51).1) % 1000000000000000) = (-(argF rate (-inst) 51).1 - 1) % 1000000000000000 from if_pos hr)
        go_wp2_with (go_at_call 72; (with_reducible refine (c_rMod _ _ _ (by omega) (by omega) (by omega) (by omega)).mono ?_); rintro e w' ⟨rfl, rfl⟩)
        all_goals go_ret
        all_goals exact ⟨rfl, rfl⟩
      · have HF := Lib.hid (show (if 0 < (argF rate (-inst) 51).2 then (-(argF rate (-inst) 51).1 - 1) % 1000000000000000 else (-(argF rate (-inst) 51).1) % 1000000000000000) = (-(argF rate (-inst) 51).1) % 1000000000000000 from if_neg hr)
        go_wp2_with (go_at_call 72; (with_reducible refine (c_rMod _ _ _ (by omega) (by omega) (by omega) (by omega)).mono ?_); rintro e w' ⟨rfl, rfl⟩)
        all_goals go_ret
        all_goals exact ⟨rfl, rfl⟩
    · rw [show (((b + 1 : Nat) : Int) - 1) = (b : Int) by omega]
      have p0 : 0 ≤ (-inst) / 2 ^ b := Int.ediv_nonneg (by omega) (Int.pow_nonneg (by omega))
      have p1 : (-inst) / 2 ^ b ≤ -inst := Int.ediv_le_self _ (by omega)
      have pm : min b 64 = b := by omega
      have pb := and1 p0 (by omega)
      rcases (show (-inst) / 2 ^ b % 2 = 1 ∨ (-inst) / 2 ^ b % 2 = 0 by omega) with hb | hb
      · rw [hb] at pb
        have HF := Lib.hid (argF_1 (R := rate) (I := (-inst)) (b := b) (by omega) pb)
        generalize (argF rate (-inst) (51 - (b + 1))).1 = q at *
        generalize (argF rate (-inst) (51 - (b + 1))).2 = r at *
        clear hb
        go_wp2
        go_roundg b
        case measure => omega
        case rel => exact ⟨b, rfl, by omega, rfl, by rw [HF.out], by rw [HF.out], rfl⟩
      · rw [hb] at pb
        have HF := Lib.hid (argF_0 (R := rate) (I := (-inst)) (b := b) (by omega) pb)
        generalize (argF rate (-inst) (51 - (b + 1))).1 = q at *
        generalize (argF rate (-inst) (51 - (b + 1))).2 = r at *
        clear hb
        go_wp2
        go_roundg b
        case measure => omega
        case rel => exact ⟨b, rfl, by omega, rfl, by rw [HF.out], by rw [HF.out], rfl⟩
set_option maxHeartbeats 4000000 in
theorem argX_min (rate : Int) (r0 : 0 < rate) (r2 : rate ≤ 1000000000000000000)  : ∃ v : Int, 0 ≤ v ∧ v < 1000000000000000 ∧ ∀ w : World,
    Calls Tryd.prog 47 #[.int .i64 rate, .int .i64 (-9223372036854775808)] w fun e w' => e = .returned (.int .i64 v) ∧ w = w' := by
  refine ⟨(if 0 < (argF rate (-9223372036854775808) 51).2 then (-(argF rate (-9223372036854775808) 51).1 - 1) % 1000000000000000 else (-(argF rate (-9223372036854775808) 51).1) % 1000000000000000), by split <;> omega, by split <;> omega, fun w => ?_⟩
  have d1 : decide (rate < 0) = false := decide_eq_false (by omega)
  have d2 : decide ((-9223372036854775808 : Int) < 0) = true := rfl
  have hw : IntKind.i64.wrap 9223372036854775808 = -9223372036854775808 := by decide
  have d3 : (((false : Bool) != true) : Bool) = true := rfl
  have hgen := sgen; have hgen2 := sgen2; have hgen3 := sgen3; go_enter Tryd.func47, Tryd.ntmps47
  go_wp2
  go_loopg [6, 7, 8] 51 (fun gk s6 s7 i wr => ∃ m : Nat, gk = m ∧ m ≤ 51 ∧ i = .int .i64 ((m : Int) - 1) ∧ s6 = .int .i64 (argF rate (-9223372036854775808) (51 - m)).1 ∧ s7 = .int .i64 (argF rate (-9223372036854775808) (51 - m)).2 ∧ wr = w)
  case atStart => exact ⟨51, rfl, by omega, rfl, rfl, rfl, rfl⟩
  case round =>
    obtain ⟨m, rfl, hm, rfl, rfl, rfl, rfl⟩ := hrel
    obtain ⟨q0, q1, r0', r1'⟩ := argF_bd rate (-9223372036854775808) (51 - gk)
    rcases gk with _ | b
    · rw [show (((0 : Nat) : Int) - 1) = -1 from rfl]
      rw [show 51 - 0 = 51 from rfl] at *
      by_cases hr : 0 < (argF rate (-9223372036854775808) 51).2
      · have HF := Lib.hid (show (if 0 < (argF rate (-9223372036854775808) 51).2 then (-(argF rate (-9223372036854775808) 51).1 - 1) % 1000000000000000 else (-(argF rate (-9223372036854775808) 51).1) % 1000000000000000) = (-(argF rate (-9223372036854775808) 51).1 - 1) % 1000000000000000 from if_pos hr)
        go_wp2_with (go_at_call 72; (with_reducible refine (c_rMod _ _ _ (by omega) (by omega) (by omega) (by omega)).mono ?_); rintro e w' ⟨rfl, rfl⟩)
        all_goals go_ret
        all_goals exact ⟨rfl, rfl⟩
      · have HF := Lib.hid (show (if 0 < (argF rate (-9223372036854775808) 51).2 then (-(argF rate (-9223372036854775808) 51).1 - 1) % 1000000000000000 else (-(argF rate (-9223372036854775808) 51).1) % 1000000000000000) = (-(argF rate (-9223372036854775808) 51).1) % 1000000000000000 from if_neg hr)
        go_wp2_with (go_at_call 72; (with_reducible refine (c_rMod _ _ _ (by omega) (by omega) (by omega) (by omega)).mono ?_); rintro e w' ⟨rfl, rfl⟩)
        all_goals go_ret
        all_goals exact ⟨rfl, rfl⟩
    · rw [show (((b + 1 : Nat) : Int) - 1) = (b : Int) by omega]
      have pm : min b 64 = b := by omega
      have pb := and_min b (by omega)
      have HF := Lib.hid (argF_0 (R := rate) (I := (-9223372036854775808)) (b := b) (by omega) pb)
      generalize (argF rate (-9223372036854775808) (51 - (b + 1))).1 = q at *
      generalize (argF rate (-9223372036854775808) (51 - (b + 1))).2 = r at *
      go_wp2
      go_roundg b
      case measure => omega
      case rel => exact ⟨b, rfl, by omega, rfl, by rw [HF.out], by rw [HF.out], rfl⟩
theorem c_ArgX (rate inst : Int) (r0 : 0 < rate) (r2 : rate ≤ 1000000000000000000) (i1 : -9223372036854775808 ≤ inst) (i2 : inst ≤ 9223372036854775807) : ∃ v : Int, 0 ≤ v ∧ v < 1000000000000000 ∧ ∀ w : World,
    Calls Tryd.prog 47 #[.int .i64 rate, .int .i64 inst] w fun e w' => e = .returned (.int .i64 v) ∧ w = w' := by
  rcases (show 0 ≤ inst ∨ (inst < 0 ∧ -9223372036854775807 ≤ inst) ∨ inst = -9223372036854775808 by omega) with h | h | h
  · exact argX_pos rate inst r0 r2 h i2
  · exact argX_neg rate inst r0 r2 h.1 h.2
  · subst h
    exact argX_min rate r0 r2
end
section
set_option maxRecDepth 100000
open Go.RowKit
def stCells : Array Value := #[.string ⟨#[112, 111, 108, 97, 114, 105, 115]⟩, .int .i64 105428000, .int .i64 247955800, .string ⟨#[97, 108, 100, 101, 98, 97, 114, 97, 110]⟩, .int .i64 191609000, .int .i64 45859200, .string ⟨#[114, 105, 103, 101, 108]⟩, .int .i64 218426000, .int .i64 (-22782200), .string ⟨#[115, 105, 114, 105, 117, 115]⟩, .int .i64 281354000, .int .i64 (-46433600), .string ⟨#[114, 101, 103, 117, 108, 117, 115]⟩, .int .i64 422477000, .int .i64 33242200, .string ⟨#[115, 112, 105, 99, 97]⟩, .int .i64 559167000, .int .i64 (-31003900), .string ⟨#[97, 110, 116, 97, 114, 101, 115]⟩, .int .i64 687083000, .int .i64 (-73422200), .string ⟨#[118, 101, 103, 97]⟩, .int .i64 775650000, .int .i64 107732500]
/-- The names, the right ascensions, the declinations. -/
def stNm : Nat → List UInt8
  | 0 => [112, 111, 108, 97, 114, 105, 115]
  | 1 => [97, 108, 100, 101, 98, 97, 114, 97, 110]
  | 2 => [114, 105, 103, 101, 108]
  | 3 => [115, 105, 114, 105, 117, 115]
  | 4 => [114, 101, 103, 117, 108, 117, 115]
  | 5 => [115, 112, 105, 99, 97]
  | 6 => [97, 110, 116, 97, 114, 101, 115]
  | _ => [118, 101, 103, 97]
def stRa : Nat → Int
  | 0 => 105428000
  | 1 => 191609000
  | 2 => 218426000
  | 3 => 281354000
  | 4 => 422477000
  | 5 => 559167000
  | 6 => 687083000
  | _ => 775650000
def stDec : Nat → Int
  | 0 => 247955800
  | 1 => 45859200
  | 2 => -22782200
  | 3 => -46433600
  | 4 => 33242200
  | 5 => -31003900
  | 6 => -73422200
  | _ => 107732500
theorem st_rng : ∀ k < 8, 0 ≤ stRa k ∧ stRa k < 1000000000 ∧ -249000000 ≤ stDec k ∧ stDec k ≤ 249000000 := by decide
theorem st_sum : ∀ k < 8, sumE (stRa k) 97300000 [] 100 = 0 := by decide +kernel
/-- The first row with the name. -/
def IsSt (k : Nat) (s : ByteArray) : Prop := (∀ j, j < k → (stNm j == s.toList) = false) ∧ (k < 8 → (stNm k == s.toList) = true)
theorem isSt_ex (s : ByteArray) : ∃ k, k ≤ 8 ∧ IsSt k s := by
  have key : ∀ n, n ≤ 8 → (∃ k, k < n ∧ IsSt k s) ∨ ∀ j, j < n → (stNm j == s.toList) = false := by
    intro n
    induction n with
    | zero => intro _; right; intro j hj; omega
    | succ n ih =>
      intro hn
      rcases ih (by omega) with ⟨k, hk, h⟩ | h
      · exact .inl ⟨k, by omega, h⟩
      · cases q : (stNm n == s.toList) with
        | true => exact .inl ⟨n, by omega, h, fun _ => q⟩
        | false =>
          right
          intro j hj
          rcases (show j < n ∨ j = n by omega) with g | rfl
          · exact h j g
          · exact q
  rcases key 8 (Nat.le_refl _) with ⟨k, hk, h⟩ | h
  · exact ⟨k, by omega, h⟩
  · exact ⟨8, Nat.le_refl _, h, fun q => absurd q (by omega)⟩
theorem stIx (w : World) (j : Nat) (hj : j < 8) : Sem.run Tryd.prog (Instr.index 93 (.agg stCells) (.int .i64 (j : Int))) w = .ok (.agg #[.string ⟨(stNm j).toArray⟩, .int .i64 (stRa j), .int .i64 (stDec j)]) w := by
  rcases (show j = 0 ∨ j = 1 ∨ j = 2 ∨ j = 3 ∨ j = 4 ∨ j = 5 ∨ j = 6 ∨ j = 7 by omega) with rfl | rfl | rfl | rfl | rfl | rfl | rfl | rfl <;> rfl
structure STab (w : World) : Prop where
  cells : ∃ (t : TypeId) (fr : Nat × Nat), w.heap[(0 : Nat)]? = some (.cells stCells t fr)
theorem STab.lt {w : World} (h : STab w) : 0 < w.heap.size := by
  obtain ⟨t, fr, h⟩ := h.cells
  by_cases q : 0 < w.heap.size
  · exact q
  · rw [Array.getElem?_eq_none (Nat.not_lt.1 q)] at h; cases h
theorem STab.below {w w' : World} (h : STab w) (hb : Below w.heap.size w w') : STab w' := by
  have hl := h.lt
  obtain ⟨t, fr, h⟩ := h.cells
  exact ⟨t, fr, (hb.block _ hl).trans h⟩
structure StAt (w : World) (b : Nat) : Prop where
  lt : b + 1 < w.heap.size
  c0 : w.cell? ⟨b, 0, none⟩ = some (.int .i64 0)
  c1 : w.cell? ⟨b, 1, none⟩ = some (.int .i64 0)
  c2 : w.cell? ⟨b + 1, 0, none⟩ = some (.int .i64 0)
  c3 : w.cell? ⟨b + 1, 1, none⟩ = some (.int .i64 0)
  f0 : w.frozen? ⟨b, 0, none⟩ = false
  f1 : w.frozen? ⟨b, 1, none⟩ = false
  f2 : w.frozen? ⟨b + 1, 0, none⟩ = false
  f3 : w.frozen? ⟨b + 1, 1, none⟩ = false
theorem c_starAt (s : ByteArray) (t : Int) (K : Nat) (w : World) (hP : STab w) (hT : Tab w) (hK : IsSt K s) (hK8 : K < 8) (ht : instB t = true) :
    Calls Tryd.prog 43 #[.string s, .int .i64 t] w fun e w' => e = .returned (.tuple #[.agg #[.int .i64 (angLo (stRa K) 97300000 [] 100 t), .int .i64 (angHi (stRa K) 97300000 [] 100 t)], .agg #[.int .i64 (stDec K - 100), .int .i64 (stDec K + 100)], .int .i64 0]) ∧ Below w.heap.size w w' := by
  have hl := hP.lt
  obtain ⟨tt, fr, hg⟩ := hP.cells
  have HG1 : Hid (∀ o o', ((w.alloc o).alloc o').heap[(0 : Nat)]? = some (.cells stCells tt fr)) := Lib.hid (fun o o' => ((((Below.refl w.heap.size w).alloc (Nat.le_refl _) o).alloc (by simp) o').block _ hl).trans hg)
  have HT := Lib.hid hT
  have HK := Lib.hid hK
  have HA : Hid (∀ w1, Tab w1 → Calls Tryd.prog 70 #[.agg #[.int .i64 (stRa K), .int .i64 97300000, .slice none 0 0, .int .i64 100], .int .i64 t] w1 fun e w' => e = .returned (.tuple #[.agg #[.int .i64 (angLo (stRa K) 97300000 [] 100 t), .int .i64 (angHi (stRa K) 97300000 [] 100 t)], .int .i64 0]) ∧ Below w1.heap.size w1 w') := Lib.hid (fun w1 h => c_Angle_ok (stRa K) 97300000 100 t none 0 [] w1 h (Nat.le_refl _) (tm_nil w1 none) (st_sum K hK8) ht)
  obtain ⟨g1, g2, g3, g4⟩ := st_rng K hK8
  generalize angLo (stRa K) 97300000 [] 100 t = lo at *
  generalize angHi (stRa K) 97300000 [] 100 t = hi at *
  generalize hra : stRa K = ra at *
  generalize hdec : stDec K = dec at *
  have HRA := Lib.hid hra
  have HDE := Lib.hid hdec
  clear hP hg hT hK ht hra hdec
  have hgen := sgen; have hgen2 := sgen2; have hgen3 := sgen3; go_enter Tryd.func43, Tryd.ntmps43
  iterate 12 (first | go_step | go_skip | go_back | go_upon | go_guarded)
  (first | (refine wp_load_row 93 (.global 0) rfl 0 ?_ tt stCells fr _ (HG1.out _ _) Tryd.underlying93 ?_ ?_ ?_) | ((first | go_step | go_skip | go_back | go_upon | go_guarded); first | (refine wp_load_row 93 (.global 0) rfl 0 ?_ tt stCells fr _ (HG1.out _ _) Tryd.underlying93 ?_ ?_ ?_) | ((first | go_step | go_skip | go_back | go_upon | go_guarded); first | (refine wp_load_row 93 (.global 0) rfl 0 ?_ tt stCells fr _ (HG1.out _ _) Tryd.underlying93 ?_ ?_ ?_) | ((first | go_step | go_skip | go_back | go_upon | go_guarded); first | (refine wp_load_row 93 (.global 0) rfl 0 ?_ tt stCells fr _ (HG1.out _ _) Tryd.underlying93 ?_ ?_ ?_) | ((first | go_step | go_skip | go_back | go_upon | go_guarded); first | (refine wp_load_row 93 (.global 0) rfl 0 ?_ tt stCells fr _ (HG1.out _ _) Tryd.underlying93 ?_ ?_ ?_) | ((first | go_step | go_skip | go_back | go_upon | go_guarded); first | (refine wp_load_row 93 (.global 0) rfl 0 ?_ tt stCells fr _ (HG1.out _ _) Tryd.underlying93 ?_ ?_ ?_) | ((first | go_step | go_skip | go_back | go_upon | go_guarded); first | (refine wp_load_row 93 (.global 0) rfl 0 ?_ tt stCells fr _ (HG1.out _ _) Tryd.underlying93 ?_ ?_ ?_) | ((first | go_step | go_skip | go_back | go_upon | go_guarded); first | (refine wp_load_row 93 (.global 0) rfl 0 ?_ tt stCells fr _ (HG1.out _ _) Tryd.underlying93 ?_ ?_ ?_) | ((first | go_step | go_skip | go_back | go_upon | go_guarded); first | (refine wp_load_row 93 (.global 0) rfl 0 ?_ tt stCells fr _ (HG1.out _ _) Tryd.underlying93 ?_ ?_ ?_) | ((first | go_step | go_skip | go_back | go_upon | go_guarded); (refine wp_load_row 93 (.global 0) rfl 0 ?_ tt stCells fr _ (HG1.out _ _) Tryd.underlying93 ?_ ?_ ?_)))))))))))
  focus rfl
  focus rfl
  focus kernel_rfl
  go_wp2_with fail
  go_loopg [12] 8 (fun gk i wr => ∃ k : Nat, k ≤ K ∧ gk + k = 8 ∧ i = .int .i64 k ∧ Below w.heap.size w wr ∧ StAt wr w.heap.size)
  case atStart => exact ⟨0, by omega, by omega, rfl, by exact belz, by constructor <;> go_simp⟩
  case round =>
    obtain ⟨k, hkK, hk, rfl, hbel, hR⟩ := hrel
    have hsz := hbel.size
    obtain ⟨r0, r1, r2, r3, r4, r5, r6, r7, r8⟩ := hR
    have HBL := Lib.hid hbel
    have n1 : ¬ w.heap.size = wr.heap.size := by omega
    have n2 : ¬ w.heap.size + 1 = wr.heap.size := by omega
    have n3 : w.heap.size < wr.heap.size := by omega
    have n4 : ¬ wr.heap.size = w.heap.size := by omega
    have n5 : ¬ wr.heap.size = w.heap.size + 1 := by omega
    by_cases hlt : k < K
    · have hix := fun w => stIx w k (by omega)
      have hq : (stNm k == s.toList) = false := HK.out.1 k hlt
      have hk8 : decide ((k : Int) < 8) = true := decide_eq_true (by omega)
      generalize stNm k = nm at *
      generalize stRa k = ra at *
      generalize stDec k = dec at *
      go_wp2
      go_roundg (gk - 1)
      case measure => omega
      case rel =>
        have hbl := HBL.out
        exact ⟨k + 1, by omega, by omega, by go_num, by exact belz, by constructor <;> (first | omega | go_simp)⟩
    · obtain rfl : k = K := by omega
      have hix := fun w => stIx w k (by omega)
      have hq : (stNm k == s.toList) = true := HK.out.2 hK8
      have hk8 : decide ((k : Int) < 8) = true := decide_eq_true (by omega)
      rw [HRA.out, HDE.out] at hix
      generalize stNm k = nm at *
      go_wp2_with (go_at_call 70; (refine (HA.out _ (HT.out.below (by have hbl := HBL.out; exact belz))).mono ?_); rintro e w1 ⟨rfl, hb⟩; have hz := hb.size; (try simp only [szA, szS, szD, szN] at hz); (try (refine bcB (n := w.heap.size) hb ?_; intro h_w_0 e_w_0 d_w_0 _ _)); (try (refine bcB (n := w.heap.size + 1) hb ?_; intro h_w_1 e_w_1 d_w_1 _ _)); (try (refine bcB (n := wr.heap.size) hb ?_; intro h_wr_0 e_wr_0 d_wr_0 _ _)))
      go_region
      all_goals go_wp2
      all_goals refine bodyPost_ret (v := .tuple #[.agg #[.int .i64 lo, .int .i64 hi], .agg #[.int .i64 (dec - 100), .int .i64 (dec + 100)], .int .i64 0]) (by simp only [results, Tryd.results43]; go_simp) rfl ⟨rfl, ?_⟩
      all_goals have hbl := HBL.out
      all_goals exact belz
theorem c_starAtT (s : ByteArray) (t : Int) (K : Nat) (w : World) (hP : STab w) (hK : IsSt K s) (hK8 : K < 8) (ht : instB t = false) (t1 : -9223372036854775808 ≤ t) (t2 : t ≤ 9223372036854775807) :
    Calls Tryd.prog 43 #[.string s, .int .i64 t] w fun e w' => e = .returned (.tuple #[.agg #[.int .i64 0, .int .i64 0], .agg #[.int .i64 0, .int .i64 0], .int .i64 3]) ∧ Below w.heap.size w w' := by
  have hl := hP.lt
  obtain ⟨tt, fr, hg⟩ := hP.cells
  have HG1 : Hid (∀ o o', ((w.alloc o).alloc o').heap[(0 : Nat)]? = some (.cells stCells tt fr)) := Lib.hid (fun o o' => ((((Below.refl w.heap.size w).alloc (Nat.le_refl _) o).alloc (by simp) o').block _ hl).trans hg)
  have HK := Lib.hid hK
  clear hP hg hK
  have hgen := sgen; have hgen2 := sgen2; have hgen3 := sgen3; go_enter Tryd.func43, Tryd.ntmps43
  iterate 12 (first | go_step | go_skip | go_back | go_upon | go_guarded)
  (first | (refine wp_load_row 93 (.global 0) rfl 0 ?_ tt stCells fr _ (HG1.out _ _) Tryd.underlying93 ?_ ?_ ?_) | ((first | go_step | go_skip | go_back | go_upon | go_guarded); first | (refine wp_load_row 93 (.global 0) rfl 0 ?_ tt stCells fr _ (HG1.out _ _) Tryd.underlying93 ?_ ?_ ?_) | ((first | go_step | go_skip | go_back | go_upon | go_guarded); first | (refine wp_load_row 93 (.global 0) rfl 0 ?_ tt stCells fr _ (HG1.out _ _) Tryd.underlying93 ?_ ?_ ?_) | ((first | go_step | go_skip | go_back | go_upon | go_guarded); first | (refine wp_load_row 93 (.global 0) rfl 0 ?_ tt stCells fr _ (HG1.out _ _) Tryd.underlying93 ?_ ?_ ?_) | ((first | go_step | go_skip | go_back | go_upon | go_guarded); first | (refine wp_load_row 93 (.global 0) rfl 0 ?_ tt stCells fr _ (HG1.out _ _) Tryd.underlying93 ?_ ?_ ?_) | ((first | go_step | go_skip | go_back | go_upon | go_guarded); first | (refine wp_load_row 93 (.global 0) rfl 0 ?_ tt stCells fr _ (HG1.out _ _) Tryd.underlying93 ?_ ?_ ?_) | ((first | go_step | go_skip | go_back | go_upon | go_guarded); first | (refine wp_load_row 93 (.global 0) rfl 0 ?_ tt stCells fr _ (HG1.out _ _) Tryd.underlying93 ?_ ?_ ?_) | ((first | go_step | go_skip | go_back | go_upon | go_guarded); first | (refine wp_load_row 93 (.global 0) rfl 0 ?_ tt stCells fr _ (HG1.out _ _) Tryd.underlying93 ?_ ?_ ?_) | ((first | go_step | go_skip | go_back | go_upon | go_guarded); first | (refine wp_load_row 93 (.global 0) rfl 0 ?_ tt stCells fr _ (HG1.out _ _) Tryd.underlying93 ?_ ?_ ?_) | ((first | go_step | go_skip | go_back | go_upon | go_guarded); (refine wp_load_row 93 (.global 0) rfl 0 ?_ tt stCells fr _ (HG1.out _ _) Tryd.underlying93 ?_ ?_ ?_)))))))))))
  focus rfl
  focus rfl
  focus kernel_rfl
  go_wp2_with fail
  go_loopg [12] 8 (fun gk i wr => ∃ k : Nat, k ≤ K ∧ gk + k = 8 ∧ i = .int .i64 k ∧ Below w.heap.size w wr ∧ StAt wr w.heap.size)
  case atStart => exact ⟨0, by omega, by omega, rfl, by exact belz, by constructor <;> go_simp⟩
  case round =>
    obtain ⟨k, hkK, hk, rfl, hbel, hR⟩ := hrel
    have hsz := hbel.size
    obtain ⟨r0, r1, r2, r3, r4, r5, r6, r7, r8⟩ := hR
    have HBL := Lib.hid hbel
    have n1 : ¬ w.heap.size = wr.heap.size := by omega
    have n2 : ¬ w.heap.size + 1 = wr.heap.size := by omega
    have n3 : w.heap.size < wr.heap.size := by omega
    have n4 : ¬ wr.heap.size = w.heap.size := by omega
    have n5 : ¬ wr.heap.size = w.heap.size + 1 := by omega
    by_cases hlt : k < K
    · have hix := fun w => stIx w k (by omega)
      have hq : (stNm k == s.toList) = false := HK.out.1 k hlt
      have hk8 : decide ((k : Int) < 8) = true := decide_eq_true (by omega)
      generalize stNm k = nm at *
      generalize stRa k = ra at *
      generalize stDec k = dec at *
      go_wp2
      go_roundg (gk - 1)
      case measure => omega
      case rel =>
        have hbl := HBL.out
        exact ⟨k + 1, by omega, by omega, by go_num, by exact belz, by constructor <;> (first | omega | go_simp)⟩
    · obtain rfl : k = K := by omega
      have hix := fun w => stIx w k (by omega)
      have hq : (stNm k == s.toList) = true := HK.out.2 hK8
      have hk8 : decide ((k : Int) < 8) = true := decide_eq_true (by omega)
      have HA : Hid (∀ w1, Calls Tryd.prog 70 #[.agg #[.int .i64 (stRa k), .int .i64 97300000, .slice none 0 0, .int .i64 100], .int .i64 t] w1 fun e w' => e = .returned (.tuple #[.agg #[.int .i64 0, .int .i64 0], .int .i64 3]) ∧ Below w1.heap.size w1 w') := Lib.hid (fun w1 => c_Angle_time (stRa k) 97300000 100 t none 0 [] w1 (Nat.le_refl _) (tm_nil w1 none) (st_sum k hK8) ht t1 t2)
      generalize stNm k = nm at *
      generalize stRa k = ra at *
      generalize stDec k = dec at *
      clear ht
      go_wp2_with (go_at_call 70; (refine (HA.out _).mono ?_); rintro e w1 ⟨rfl, hb⟩; have hz := hb.size; (try simp only [szA, szS, szD, szN] at hz); (try (refine bcB (n := w.heap.size) hb ?_; intro h_w_0 e_w_0 d_w_0 _ _)); (try (refine bcB (n := w.heap.size + 1) hb ?_; intro h_w_1 e_w_1 d_w_1 _ _)); (try (refine bcB (n := wr.heap.size) hb ?_; intro h_wr_0 e_wr_0 d_wr_0 _ _)))
      refine bodyPost_ret (v := .tuple #[.agg #[.int .i64 0, .int .i64 0], .agg #[.int .i64 0, .int .i64 0], .int .i64 3]) (by simp only [results, Tryd.results43]; go_simp) rfl ⟨rfl, ?_⟩
      have hbl := HBL.out
      exact belz
theorem c_starAtN (s : ByteArray) (t : Int) (K : Nat) (w : World) (hP : STab w) (hK : IsSt K s) (hK8 : K = 8) :
    Calls Tryd.prog 43 #[.string s, .int .i64 t] w fun e w' => e = .returned (.tuple #[.agg #[.int .i64 0, .int .i64 0], .agg #[.int .i64 0, .int .i64 0], .int .i64 5]) ∧ Below w.heap.size w w' := by
  have hl := hP.lt
  obtain ⟨tt, fr, hg⟩ := hP.cells
  have HG1 : Hid (∀ o o', ((w.alloc o).alloc o').heap[(0 : Nat)]? = some (.cells stCells tt fr)) := Lib.hid (fun o o' => ((((Below.refl w.heap.size w).alloc (Nat.le_refl _) o).alloc (by simp) o').block _ hl).trans hg)
  have HK := Lib.hid hK
  clear hP hg hK
  have hgen := sgen; have hgen2 := sgen2; have hgen3 := sgen3; go_enter Tryd.func43, Tryd.ntmps43
  iterate 12 (first | go_step | go_skip | go_back | go_upon | go_guarded)
  (first | (refine wp_load_row 93 (.global 0) rfl 0 ?_ tt stCells fr _ (HG1.out _ _) Tryd.underlying93 ?_ ?_ ?_) | ((first | go_step | go_skip | go_back | go_upon | go_guarded); first | (refine wp_load_row 93 (.global 0) rfl 0 ?_ tt stCells fr _ (HG1.out _ _) Tryd.underlying93 ?_ ?_ ?_) | ((first | go_step | go_skip | go_back | go_upon | go_guarded); first | (refine wp_load_row 93 (.global 0) rfl 0 ?_ tt stCells fr _ (HG1.out _ _) Tryd.underlying93 ?_ ?_ ?_) | ((first | go_step | go_skip | go_back | go_upon | go_guarded); first | (refine wp_load_row 93 (.global 0) rfl 0 ?_ tt stCells fr _ (HG1.out _ _) Tryd.underlying93 ?_ ?_ ?_) | ((first | go_step | go_skip | go_back | go_upon | go_guarded); first | (refine wp_load_row 93 (.global 0) rfl 0 ?_ tt stCells fr _ (HG1.out _ _) Tryd.underlying93 ?_ ?_ ?_) | ((first | go_step | go_skip | go_back | go_upon | go_guarded); first | (refine wp_load_row 93 (.global 0) rfl 0 ?_ tt stCells fr _ (HG1.out _ _) Tryd.underlying93 ?_ ?_ ?_) | ((first | go_step | go_skip | go_back | go_upon | go_guarded); first | (refine wp_load_row 93 (.global 0) rfl 0 ?_ tt stCells fr _ (HG1.out _ _) Tryd.underlying93 ?_ ?_ ?_) | ((first | go_step | go_skip | go_back | go_upon | go_guarded); first | (refine wp_load_row 93 (.global 0) rfl 0 ?_ tt stCells fr _ (HG1.out _ _) Tryd.underlying93 ?_ ?_ ?_) | ((first | go_step | go_skip | go_back | go_upon | go_guarded); first | (refine wp_load_row 93 (.global 0) rfl 0 ?_ tt stCells fr _ (HG1.out _ _) Tryd.underlying93 ?_ ?_ ?_) | ((first | go_step | go_skip | go_back | go_upon | go_guarded); (refine wp_load_row 93 (.global 0) rfl 0 ?_ tt stCells fr _ (HG1.out _ _) Tryd.underlying93 ?_ ?_ ?_)))))))))))
  focus rfl
  focus rfl
  focus kernel_rfl
  go_wp2_with fail
  go_loopg [12] 8 (fun gk i wr => ∃ k : Nat, k ≤ K ∧ gk + k = 8 ∧ i = .int .i64 k ∧ Below w.heap.size w wr ∧ StAt wr w.heap.size)
  case atStart => exact ⟨0, by omega, by omega, rfl, by exact belz, by constructor <;> go_simp⟩
  case round =>
    obtain ⟨k, hkK, hk, rfl, hbel, hR⟩ := hrel
    have hsz := hbel.size
    obtain ⟨r0, r1, r2, r3, r4, r5, r6, r7, r8⟩ := hR
    have HBL := Lib.hid hbel
    have n1 : ¬ w.heap.size = wr.heap.size := by omega
    have n2 : ¬ w.heap.size + 1 = wr.heap.size := by omega
    have n3 : w.heap.size < wr.heap.size := by omega
    have n4 : ¬ wr.heap.size = w.heap.size := by omega
    have n5 : ¬ wr.heap.size = w.heap.size + 1 := by omega
    by_cases hlt : k < K
    · have hix := fun w => stIx w k (by omega)
      have hq : (stNm k == s.toList) = false := HK.out.1 k hlt
      have hk8 : decide ((k : Int) < 8) = true := decide_eq_true (by omega)
      generalize stNm k = nm at *
      generalize stRa k = ra at *
      generalize stDec k = dec at *
      go_wp2
      go_roundg (gk - 1)
      case measure => omega
      case rel =>
        have hbl := HBL.out
        exact ⟨k + 1, by omega, by omega, by go_num, by exact belz, by constructor <;> (first | omega | go_simp)⟩
    · obtain rfl : k = 8 := by omega
      go_wp2
      refine bodyPost_ret (v := .tuple #[.agg #[.int .i64 0, .int .i64 0], .agg #[.int .i64 0, .int .i64 0], .int .i64 5]) (by simp only [results, Tryd.results43]; go_simp) rfl ⟨rfl, ?_⟩
      have hbl := HBL.out
      exact belz
end
end Go.Proofs.YtcgnhnmigmdalaaDoor
