/- Contracts of the reference's Sum, Whole, Contains and ContainsAngle. -/
import Derived.Test.YtjkhoepohiafeaaGreatDoorWkD
import Derived.Test.YtjkhoepohiafeaaGreatDoorWkA
import Derived.Test.YtjkhoepohiafeaaGreatDoorFltE
import Derived.Deep.QuietTactic
import Derived.BigQuiet
set_option linter.unusedVariables false
set_option linter.unusedSimpArgs false
namespace Go.Proofs.YtjkhoepohiafeaaGreatDoor
open Go.RowKit
theorem prt_bd {a v : Int} (a1 : -1000000000 ≤ a) (a2 : a ≤ 1000000000) (v1 : -1200000000000000000 ≤ v) (v2 : v ≤ 1200000000000000000) : -1200000000000000 ≤ prt a v ∧ prt a v ≤ 1200000000000000 := by
  unfold prt
  split
  · have := (prt_parts (v := -v) a1 a2 (by omega) (by omega)).2.2.2.2; omega
  · have := (prt_parts (v := v) a1 a2 (by omega) (by omega)).2.2.2.2; omega
theorem sc1_bd {arg : Int} (h0 : 0 ≤ arg) (h1 : arg < 1000000000000000) : -1153000000000000000 ≤ (sc arg).1 ∧ (sc arg).1 ≤ 1153000000000000000 := by
  have := sc_bd h0 (by omega) 12 (by omega)
  exact ⟨this.1, this.2.1⟩
theorem refTerm_bd {t : Tm} {inst : Int} (h : TmOk t) : -1200000000000000 ≤ refTerm t inst ∧ refTerm t inst ≤ 1200000000000000 := by
  obtain ⟨-, g0, g1⟩ := refArg_eq t inst
  have := sc1_bd g0 g1
  exact prt_bd h.a1 h.a2 (by omega) (by omega)
theorem refAt_bd {m : Int} {l : List Tm} {inst : Int} (m1 : -1000000000 ≤ m) (m2 : m ≤ 1000000000) (h : ∀ t ∈ l, TmOk t) : ∀ k, k ≤ l.length → -1048576000000000 - 1200000000000000 * (k : Int) ≤ refAt m l inst k ∧ refAt m l inst k ≤ 1048576000000000 + 1200000000000000 * (k : Int)
  | 0, _ => by
    have e : refAt m l inst 0 = m * 1048576 := rfl
    rw [e]; omega
  | k + 1, hk => by
    have ih := refAt_bd (inst := inst) m1 m2 h k (by omega)
    have := refTerm_bd (inst := inst) (h l[k] (List.getElem_mem (by omega)))
    rw [refAt_snoc m l inst k (by omega)]
    omega
theorem argV_bd (r i : Int) : 0 ≤ argV r i ∧ argV r i < 1000000000000000 := by unfold argV; omega
/-- The reference's whole sum. -/
def wholeV (m r : Int) (l : List Tm) (inst : Int) : Int := (refAt m l inst l.length + argV r inst / 1000000 * 1048576 + argV r inst % 1000000 * 1048576 / 1000000) % 1048576000000000
/-- The interval of the angle contains the whole sum with all remainders. -/
theorem ang_contains {m r : Int} {l : List Tm} {s inst : Int} (hv : SumOk m r l s) : 0 ≤ angLo m r l s inst ∧ angLo m r l s inst < 1000000000 ∧
    (wholeV m r l inst - s * 1048576 - angLo m r l s inst * 1048576 + 8192) % 1048576000000000 ≤ (angHi m r l s inst - angLo m r l s inst - 2 * s) * 1048576 + 16384 ∧
    angHi m r l s inst - angLo m r l s inst ≤ bndAt s l + 1 ∧ angHi m r l s inst - angLo m r l s inst ≤ 2 * s + 3 := by
  obtain ⟨c1, c2⟩ := val_contains (inst := inst) hv
  obtain ⟨w1, w2, w3⟩ := val_width (inst := inst) hv
  have s1 := hv.s1
  have s2 := hv.s2
  have ea : argV r inst = grQ r inst % 1000000000 * 1000000 + grR r inst / 86400000 := by
    unfold argV grQ grR; generalize r * inst = P; omega
  have r0 : 0 ≤ grR r inst := Int.emod_nonneg _ (by omega)
  have r1 : grR r inst < 86400000000000 := Int.emod_lt_of_pos _ (by omega)
  have eh : angHi m r l s inst = angLo m r l s inst + (if 0 < grR r inst then valHi m l s inst + 1 else valHi m l s inst) - valLo m l s inst := rfl
  have el : angLo m r l s inst = (valLo m l s inst + grQ r inst % 1000000000) % 1000000000 := rfl
  rw [eh, el]
  unfold wholeV
  rw [ea]
  generalize refAt m l inst l.length = n at *
  generalize valLo m l s inst = vl at *
  generalize valHi m l s inst = vh at *
  generalize grQ r inst % 1000000000 = q at *
  generalize grR r inst = ρ at *
  have e1 : (q * 1000000 + ρ / 86400000) / 1000000 = q := by omega
  have e2 : (q * 1000000 + ρ / 86400000) % 1000000 = ρ / 86400000 := by omega
  rw [e1, e2]
  have key : ((n + q * 1048576 + ρ / 86400000 * 1048576 / 1000000) % 1048576000000000 - s * 1048576 - (vl + q) % 1000000000 * 1048576 + 8192) % 1048576000000000 = (n - s * 1048576 - vl * 1048576 + ρ / 86400000 * 1048576 / 1000000 + 8192) % 1048576000000000 := by omega
  rw [key]
  have f0 : 0 ≤ ρ / 86400000 * 1048576 / 1000000 := by omega
  have f1 : ρ / 86400000 * 1048576 / 1000000 < 1048576 := by omega
  by_cases h : 0 < ρ
  · rw [if_pos h]
    have hK : (n - s * 1048576 - vl * 1048576 + ρ / 86400000 * 1048576 / 1000000 + 8192) % 1048576000000000 = n - s * 1048576 - vl * 1048576 + ρ / 86400000 * 1048576 / 1000000 + 8192 := Int.emod_eq_of_lt (by omega) (by omega)
    rw [hK]
    omega
  · have f2 : ρ / 86400000 * 1048576 / 1000000 = 0 := by omega
    rw [if_neg h, f2]
    have hK : (n - s * 1048576 - vl * 1048576 + 0 + 8192) % 1048576000000000 = n - s * 1048576 - vl * 1048576 + 0 + 8192 := Int.emod_eq_of_lt (by omega) (by omega)
    rw [hK]
    omega
end Go.Proofs.YtjkhoepohiafeaaGreatDoor
