/- Contracts of sun.Equator. -/
import Derived.Test.YtcgnhnmigmdalaaDoorAsA
import Derived.Test.YtcgnhnmigmdalaaDoorSmA
import Derived.Deep.DeepCutAuto
set_option linter.unusedVariables false
set_option linter.unusedSimpArgs false
namespace Go.Proofs.YtcgnhnmigmdalaaDoor
open Go.RowKit
/-- What the walk of Equator asks: its parts' contracts, with numbers of any names. -/
structure EqN (l0 l1 b0 b1 sl0 sl1 cl0 cl1 sb0 sb1 cb0 cb1 a0 a1 x0 x1 p0 p1 q0 q1 r0 r1 s0 s1 : Int) : Prop where
  cl : ∀ w1 : World, Calls Tryd.prog 93 #[.agg #[.int .i64 l0, .int .i64 l1]] w1 fun e w' => e = .returned (.int .i64 0) ∧ Below w1.heap.size w1 w'
  cb : ∀ w1 : World, Calls Tryd.prog 93 #[.agg #[.int .i64 b0, .int .i64 b1]] w1 fun e w' => e = .returned (.int .i64 0) ∧ Below w1.heap.size w1 w'
  sl : ∀ w1, Tab w1 → Calls Tryd.prog 95 #[.agg #[.int .i64 l0, .int .i64 l1]] w1 fun e w' => e = .returned (.tuple #[.agg #[.int .i64 sl0, .int .i64 sl1], .int .i64 0]) ∧ Below w1.heap.size w1 w'
  cL : ∀ w1, Tab w1 → Calls Tryd.prog 96 #[.agg #[.int .i64 l0, .int .i64 l1]] w1 fun e w' => e = .returned (.tuple #[.agg #[.int .i64 cl0, .int .i64 cl1], .int .i64 0]) ∧ Below w1.heap.size w1 w'
  sb : ∀ w1, Tab w1 → Calls Tryd.prog 95 #[.agg #[.int .i64 b0, .int .i64 b1]] w1 fun e w' => e = .returned (.tuple #[.agg #[.int .i64 sb0, .int .i64 sb1], .int .i64 0]) ∧ Below w1.heap.size w1 w'
  cB : ∀ w1, Tab w1 → Calls Tryd.prog 96 #[.agg #[.int .i64 b0, .int .i64 b1]] w1 fun e w' => e = .returned (.tuple #[.agg #[.int .i64 cb0, .int .i64 cb1], .int .i64 0]) ∧ Below w1.heap.size w1 w'
  ta : ∀ w1 : World, Calls Tryd.prog 99 #[.agg #[.int .i64 cb0, .int .i64 cb1], .agg #[.int .i64 sl0, .int .i64 sl1]] w1 fun e w' => e = .returned (.agg #[.int .i64 a0, .int .i64 a1]) ∧ Below w1.heap.size w1 w'
  tx : ∀ w1 : World, Calls Tryd.prog 99 #[.agg #[.int .i64 cb0, .int .i64 cb1], .agg #[.int .i64 cl0, .int .i64 cl1]] w1 fun e w' => e = .returned (.agg #[.int .i64 x0, .int .i64 x1]) ∧ Below w1.heap.size w1 w'
  tp : ∀ w1 : World, Calls Tryd.prog 99 #[.agg #[.int .i64 a0, .int .i64 a1], .agg #[.int .i64 917482416, .int .i64 917482417]] w1 fun e w' => e = .returned (.agg #[.int .i64 p0, .int .i64 p1]) ∧ Below w1.heap.size w1 w'
  tq : ∀ w1 : World, Calls Tryd.prog 99 #[.agg #[.int .i64 sb0, .int .i64 sb1], .agg #[.int .i64 397776337, .int .i64 397776338]] w1 fun e w' => e = .returned (.agg #[.int .i64 q0, .int .i64 q1]) ∧ Below w1.heap.size w1 w'
  tr : ∀ w1 : World, Calls Tryd.prog 99 #[.agg #[.int .i64 a0, .int .i64 a1], .agg #[.int .i64 397776337, .int .i64 397776338]] w1 fun e w' => e = .returned (.agg #[.int .i64 r0, .int .i64 r1]) ∧ Below w1.heap.size w1 w'
  ts : ∀ w1 : World, Calls Tryd.prog 99 #[.agg #[.int .i64 sb0, .int .i64 sb1], .agg #[.int .i64 917482416, .int .i64 917482417]] w1 fun e w' => e = .returned (.agg #[.int .i64 s0, .int .i64 s1]) ∧ Below w1.heap.size w1 w'
  mi : ∀ w1 : World, Calls Tryd.prog 94 #[.agg #[.int .i64 p0, .int .i64 p1], .agg #[.int .i64 q0, .int .i64 q1]] w1 fun e w' => e = .returned (.agg #[.int .i64 (p0 - q1), .int .i64 (p1 - q0)]) ∧ Below w1.heap.size w1 w'
  pl : ∀ w1 : World, Calls Tryd.prog 101 #[.agg #[.int .i64 r0, .int .i64 r1], .agg #[.int .i64 s0, .int .i64 s1]] w1 fun e w' => e = .returned (.agg #[.int .i64 (r0 + s0), .int .i64 (r1 + s1)]) ∧ Below w1.heap.size w1 w'
theorem eqN {l0 l1 b0 b1 : Int} (hl : l0 ≤ l1) (h1 : -1000000000000000000 ≤ l0) (h2 : l1 ≤ 1000000000000000000) (hb : b0 ≤ b1) (h3 : -125000000 ≤ b0) (h4 : b1 ≤ 125000000) :
    EqN l0 l1 b0 b1 (sovLo l0 l1) (sovHi l0 l1) (sovLo (covB l0) (covE l0 l1)) (sovHi (covB l0) (covE l0 l1)) (sovLo b0 b1) (sovHi b0 b1) (sovLo (covB b0) (covE b0 b1)) (sovHi (covB b0) (covE b0 b1)) (eqA0 l0 l1 b0 b1) (eqA1 l0 l1 b0 b1) (eqX0 l0 l1 b0 b1) (eqX1 l0 l1 b0 b1) (eqP0 l0 l1 b0 b1) (eqP1 l0 l1 b0 b1) (eqQ0 b0 b1) (eqQ1 b0 b1) (eqR0 l0 l1 b0 b1) (eqR1 l0 l1 b0 b1) (eqS0 b0 b1) (eqS1 b0 b1) := by
  have el : spanErr l0 l1 = 0 := by unfold spanErr; (repeat (first | rw [if_neg (by omega)] | rw [if_pos (by omega)]))
  have eb : spanErr b0 b1 = 0 := by unfold spanErr; (repeat (first | rw [if_neg (by omega)] | rw [if_pos (by omega)]))
  obtain ⟨-, -, tes, tcs⟩ := tilt_in
  have sB := sov_sp _ _ hb
  have sL := sov_sp _ _ hl
  have cB := cov_sp hb
  have cL := cov_sp hl
  have A := eqA_sp hl hb
  have P : Sp1 (eqP0 l0 l1 b0 b1) (eqP1 l0 l1 b0 b1) := prod_sp A tcs
  have Q : Sp1 (eqQ0 b0 b1) (eqQ1 b0 b1) := prod_sp sB tes
  have R : Sp1 (eqR0 l0 l1 b0 b1) (eqR1 l0 l1 b0 b1) := prod_sp A tes
  have U : Sp1 (eqS0 b0 b1) (eqS1 b0 b1) := prod_sp sB tcs
  obtain ⟨P1, P2, P3⟩ := P
  obtain ⟨Q1, Q2, Q3⟩ := Q
  obtain ⟨R1, R2, R3⟩ := R
  obtain ⟨U1, U2, U3⟩ := U
  refine ⟨fun w1 => ?_, fun w1 => ?_, fun w1 h => c_SinOver_ok l0 l1 w1 h el (by omega) (by omega) (by omega) (by omega), fun w1 h => c_CosOver_ok l0 l1 w1 h el h1 hl h2, fun w1 h => c_SinOver_ok b0 b1 w1 h eb (by omega) (by omega) (by omega) (by omega), fun w1 h => c_CosOver_ok b0 b1 w1 h eb (by omega) hb (by omega), fun w1 => c_Times _ _ _ _ w1 cB sL, fun w1 => c_Times _ _ _ _ w1 cB cL, fun w1 => c_Times _ _ _ _ w1 A tcs, fun w1 => c_Times _ _ _ _ w1 sB tes, fun w1 => c_Times _ _ _ _ w1 A tes, fun w1 => c_Times _ _ _ _ w1 sB tcs,
    fun w1 => c_Minus _ _ _ _ w1 (by omega) (by omega) (by omega) (by omega) (by omega) (by omega) (by omega) (by omega), fun w1 => c_Plus _ _ _ _ w1 (by omega) (by omega) (by omega) (by omega) (by omega) (by omega) (by omega) (by omega)⟩
  · have h := c_intervalCheck l0 l1 w1
    rw [el] at h; exact h
  · have h := c_intervalCheck b0 b1 w1
    rw [eb] at h; exact h
end Go.Proofs.YtcgnhnmigmdalaaDoor
