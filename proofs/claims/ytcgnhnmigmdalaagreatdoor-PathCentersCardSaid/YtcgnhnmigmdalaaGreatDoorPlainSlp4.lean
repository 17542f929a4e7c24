/- The slope contains the change of the reference's sum. No program in sight. -/
import Derived.Test.YtcgnhnmigmdalaaGreatDoorSlA
set_option linter.unusedVariables false
set_option linter.unusedSimpArgs false
namespace Go.Proofs.YtcgnhnmigmdalaaGreatDoor
open Ieee
theorem term_step {t : Tm} {inst : Int} (h : TmOk t) : rabs (1000 * (((refTerm t (inst + 86400) : Int) : Rat) - ((refTerm t inst : Int) : Rat))) ≤ 1048576 * slX t + 1900000 := by
  have n1 := term_near (inst := inst + 86400) h
  have n0 := term_near (inst := inst) h
  obtain ⟨j, hj⟩ := partA_step t inst
  obtain ⟨p0, p1⟩ := partA_bd t inst
  obtain ⟨q0, q1⟩ := partA_bd t (inst + 86400)
  have pib := pi_num
  obtain ⟨a1, a2, -, -, r1, r2⟩ := h
  have R1 : (t.rt : Rat) ≤ 4000000000000000 := Rat.intCast_le_intCast.2 r2
  have R0 : -4000000000000000 ≤ (t.rt : Rat) := Rat.intCast_le_intCast.2 r1
  have A1 : (t.amp : Rat) ≤ 1000000000 := Rat.intCast_le_intCast.2 a2
  have A0 : -1000000000 ≤ (t.amp : Rat) := Rat.intCast_le_intCast.2 a1
  have hjj := turn_cases hj (by grind) (by grind)
  have dx : 2 * piQ * partA t inst / 1000000000 = partA t inst * (2 * piQ * (1 / 1000000000)) := by rw [Rat.div_def, Rat.div_def]; grind
  have dy : 2 * piQ * partA t (inst + 86400) / 1000000000 = partA t (inst + 86400) * (2 * piQ * (1 / 1000000000)) := by rw [Rat.div_def, Rat.div_def]; grind
  have dp : 2 * piQ / 1000000000000000 = 2 * piQ * (1 / 1000000000000000) := by rw [Rat.div_def, Rat.div_def]; grind
  unfold termX at n1 n0
  unfold slX
  rw [dx] at n0
  rw [dy] at n1
  rw [dp]
  have cb : 0 ≤ 2 * piQ * (1 / 1000000000) ∧ 2 * piQ * (1 / 1000000000) ≤ 7 / 1000000000 := by constructor <;> grind
  have hd : rabs ((t.rt : Rat) * (1 / 1000000000) * (2 * piQ * (1 / 1000000000))) = rabs (t.rt : Rat) * (2 * piQ * (1 / 1000000000000000000)) := by
    have e : (t.rt : Rat) * (1 / 1000000000) * (2 * piQ * (1 / 1000000000)) = (t.rt : Rat) * (2 * piQ * (1 / 1000000000000000000)) := by grind
    rw [e, rabs_mul]
    have : rabs (2 * piQ * (1 / 1000000000000000000)) = 2 * piQ * (1 / 1000000000000000000) := by decide +kernel
    rw [this]
  have hR : rabs (t.rt : Rat) ≤ 4000000000000000 := rabs_le.2 ⟨R1, R0⟩
  have hA : rabs (t.amp : Rat) ≤ 1000000000 := rabs_le.2 ⟨A1, A0⟩
  have hR0 := rabs_nonneg (t.rt : Rat)
  have hA0 := rabs_nonneg (t.amp : Rat)
  have hdb : rabs ((t.rt : Rat) * (1 / 1000000000) * (2 * piQ * (1 / 1000000000))) ≤ 3 / 100 := by
    rw [hd]
    have k := Rat.mul_le_mul_of_nonneg_right hR (show 0 ≤ 2 * piQ * (1 / 1000000000000000000) by grind)
    grind
  have bx0 := Rat.mul_nonneg p0 cb.1
  have by0 := Rat.mul_nonneg q0 cb.1
  have bx1 := Rat.mul_le_mul_of_nonneg_right p1 cb.1
  have by1 := Rat.mul_le_mul_of_nonneg_right q1 cb.1
  have hyx : partA t (inst + 86400) * (2 * piQ * (1 / 1000000000)) = partA t inst * (2 * piQ * (1 / 1000000000)) + (t.rt : Rat) * (1 / 1000000000) * (2 * piQ * (1 / 1000000000)) + (j : Rat) * (2 * piQ) := by
    rw [hj]; grind
  have st := sin_step bx0 (by grind) by0 (by grind) hdb hyx hjj
  rw [hd] at st
  have mm := mul_rabs (a := (t.amp : Rat)) (b := S (partA t (inst + 86400) * (2 * piQ * (1 / 1000000000))) - S (partA t inst * (2 * piQ * (1 / 1000000000)))) (A := rabs t.amp) (B := (1 + 1 / 100000000000) * (rabs (t.rt : Rat) * (2 * piQ * (1 / 1000000000000000000))) + 12 / 10000000000000) Rat.le_refl st
  have V : rabs (t.amp : Rat) * rabs (t.rt : Rat) * (2 * piQ * (1 / 1000000000000000)) ≤ 25200000000 := by
    have k1 := Rat.mul_le_mul_of_nonneg_right hA hR0
    have k2 := Rat.mul_le_mul_of_nonneg_right (show rabs (t.amp : Rat) * rabs (t.rt : Rat) ≤ 4000000000000000000000000 by grind) (show 0 ≤ 2 * piQ * (1 / 1000000000000000) by grind)
    grind
  clear hyx hj dx dy dp hd hdb bx0 by0 bx1 by1 st
  generalize S (partA t (inst + 86400) * (2 * piQ * (1 / 1000000000))) = s1 at *
  generalize S (partA t inst * (2 * piQ * (1 / 1000000000))) = s0 at *
  generalize ((refTerm t (inst + 86400) : Int) : Rat) = z1 at *
  generalize ((refTerm t inst : Int) : Rat) = z0 at *
  obtain ⟨u1, u2⟩ := rabs_le.1 n1
  obtain ⟨v1, v2⟩ := rabs_le.1 n0
  obtain ⟨m1, m2⟩ := rabs_le.1 mm
  have e : rabs (t.amp : Rat) * ((1 + 1 / 100000000000) * (rabs (t.rt : Rat) * (2 * piQ * (1 / 1000000000000000000))) + 12 / 10000000000000) * 1000 = (1 + 1 / 100000000000) * (rabs (t.amp : Rat) * rabs (t.rt : Rat) * (2 * piQ * (1 / 1000000000000000))) + rabs (t.amp : Rat) * (12 / 10000000000) := by grind
  generalize rabs (t.amp : Rat) * ((1 + 1 / 100000000000) * (rabs (t.rt : Rat) * (2 * piQ * (1 / 1000000000000000000))) + 12 / 10000000000000) = B at *
  generalize rabs (t.amp : Rat) * rabs (t.rt : Rat) * (2 * piQ * (1 / 1000000000000000)) = W at *
  generalize rabs (t.amp : Rat) = aa at *
  generalize (t.amp : Rat) = a at *
  clear R1 R0 hR hR0 n1 n0 mm pib cb
  have f1 : a * (s1 - s0) = a * s1 - a * s0 := by grind
  rw [f1] at m1 m2
  generalize a * s1 = y1 at *
  generalize a * s0 = y0 at *
  rw [rabs_le]
  constructor <;> grind
theorem ref_step {m : Int} {l : List Tm} {inst : Int} (h : ∀ t ∈ l, TmOk t) : ∀ k, k ≤ l.length → rabs (1000 * (((refAt m l (inst + 86400) k : Int) : Rat) - ((refAt m l inst k : Int) : Rat))) ≤ 1048576 * slXAt l k + 1900000 * (k : Rat)
  | 0, _ => by
    have e1 : refAt m l inst 0 = m * 1048576 := rfl
    have e2 : refAt m l (inst + 86400) 0 = m * 1048576 := rfl
    have x : slXAt l 0 = 0 := rfl
    have z : ((0 : Nat) : Rat) = 0 := rfl
    rw [e1, e2, x, z, rabs_le]
    constructor <;> grind
  | k + 1, hk => by
    have ih := ref_step (m := m) (inst := inst) h k (by omega)
    have tn := term_step (inst := inst) (h l[k] (List.getElem_mem (by omega)))
    rw [refAt_snoc m l inst k (by omega), refAt_snoc m l (inst + 86400) k (by omega), slXAt_snoc l k (by omega)]
    obtain ⟨i1, i2⟩ := rabs_le.1 ih
    obtain ⟨t1, t2⟩ := rabs_le.1 tn
    have c : ((k + 1 : Nat) : Rat) = (k : Rat) + 1 := by push_cast; rfl
    rw [c, rabs_le]
    push_cast
    constructor <;> grind
theorem tdiv_mil (r : Int) : (r : Rat) * (1 / 1000000) - 1 ≤ ((r.tdiv 1000000 : Int) : Rat) ∧ ((r.tdiv 1000000 : Int) : Rat) ≤ (r : Rat) * (1 / 1000000) + 1 := by
  obtain ⟨h1, h2⟩ := tdiv_near r 1000000 (by omega)
  have c : ((1000000 : Int) : Rat) = 1000000 := rfl
  rw [c] at h1 h2
  generalize ((r.tdiv 1000000 : Int) : Rat) = q at *
  constructor <;> grind
/-- The law: the change between the instants lies in the slope, with its slack. -/
theorem slope_law {m r s : Int} {l : List Tm} {inst : Int} (hv : SumOk m r l s) (r1 : -4000000000000000 ≤ r) (r2 : r ≤ 4000000000000000) :
    slLo r l * 1048576 - 134217728 ≤ (refAt m l (inst + 86400) l.length - refAt m l inst l.length) * 1000 + r.tdiv 1000000 * 1048576 ∧ (refAt m l (inst + 86400) l.length - refAt m l inst l.length) * 1000 + r.tdiv 1000000 * 1048576 ≤ slHi r l * 1048576 + 134217728 ∧
      -1100000000000000000 ≤ (refAt m l (inst + 86400) l.length - refAt m l inst l.length) * 1000 ∧ (refAt m l (inst + 86400) l.length - refAt m l inst l.length) * 1000 ≤ 1100000000000000000 := by
  obtain ⟨-, -, -, -, -, -, -, h8, h9, -⟩ := slope_run hv.len hv.tm r1 r2
  obtain ⟨-, i2, i3, -, -⟩ := slp_run hv.len hv.tm l.length (Nat.le_refl _)
  have st := ref_step (m := m) (inst := inst) hv.tm l.length (Nat.le_refl _)
  obtain ⟨d1, d2⟩ := tdiv_mil r
  have k40 : (l.length : Rat) ≤ 40 := by
    have : (l.length : Rat) ≤ ((40 : Nat) : Rat) := cast_le hv.len
    exact this
  have k0 : (0 : Rat) ≤ (l.length : Rat) := by exact_mod_cast Nat.zero_le _
  have cancel : ∀ {a b : Int}, (a : Rat) ≤ (b : Rat) → a ≤ b := fun h => Rat.intCast_le_intCast.1 h
  obtain ⟨s1, s2⟩ := rabs_le.1 st
  have w1 : ((1100000000000000000 : Int) : Rat) = 1100000000000000000 := rfl
  have w2 : ((-1100000000000000000 : Int) : Rat) = -1100000000000000000 := rfl
  clear st
  generalize refAt m l (inst + 86400) l.length = z1 at *
  generalize refAt m l inst l.length = z0 at *
  generalize slXAt l l.length = V at *
  generalize slLo r l = lo at *
  generalize slHi r l = hi at *
  generalize r.tdiv 1000000 = q at *
  refine ⟨cancel (by push_cast; grind), cancel (by push_cast; grind), cancel (by rw [w2]; push_cast; grind), cancel (by rw [w1]; push_cast; grind)⟩
end Go.Proofs.YtcgnhnmigmdalaaGreatDoor
