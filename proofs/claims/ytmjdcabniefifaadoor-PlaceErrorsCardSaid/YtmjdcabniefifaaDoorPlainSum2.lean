/- The interval of a short sum contains the reference's, with a small slack. No program in sight. -/
import Derived.Test.YtmjdcabniefifaaDoorFltE
import Derived.Test.YtmjdcabniefifaaDoorWalkRsum
set_option linter.unusedVariables false
set_option linter.unusedSimpArgs false
namespace Go.Proofs.YtmjdcabniefifaaDoor
theorem val_contains2 {m r : Int} {l : List Tm} {s inst : Int} (hv : SumOk m r l s) (h8 : l.length ≤ 8) : valLo m l s inst * 1048576 ≤ refAt m l inst l.length - s * 1048576 + 2000 ∧ refAt m l inst l.length + s * 1048576 ≤ valHi m l s inst * 1048576 + 2000 := by
  have hn := refAt_near (m := m) (inst := inst) hv.tm l.length (Nat.le_refl _)
  obtain ⟨f1, f2, X1, X2, -, -, -, -, -, -, -, -, -, -, b1, -, b3, -⟩ := val_around (inst := inst) hv.len hv.tm
  have k8 : (l.length : Rat) ≤ 8 := by
    have : (l.length : Rat) ≤ ((8 : Nat) : Rat) := cast_le h8
    exact this
  obtain ⟨n1, n2⟩ := rabs_le.1 hn
  have cancel : ∀ {a b : Int}, (a : Rat) ≤ (b : Rat) → a ≤ b := fun h => Rat.intCast_le_intCast.1 h
  unfold valLo valHi
  by_cases h0 : l.length = 0
  · rw [if_pos h0, if_pos h0]
    have e : refAt m l inst l.length = m * 1048576 := by rw [h0]; rfl
    rw [e]
    omega
  · rw [if_neg h0, if_neg h0]
    constructor
    · refine cancel ?_
      push_cast
      grind
    · refine cancel ?_
      push_cast
      grind
theorem ang_contains2 {m r : Int} {l : List Tm} {s inst : Int} (hv : SumOk m r l s) (h8 : l.length ≤ 8) :
    (wholeV m r l inst - s * 1048576 - angLo m r l s inst * 1048576 + 2000) % 1048576000000000 ≤ (angHi m r l s inst - angLo m r l s inst - 2 * s) * 1048576 + 4000 := by
  obtain ⟨c1, c2⟩ := val_contains2 (inst := inst) hv h8
  obtain ⟨w1, w2, w3⟩ := val_width (inst := inst) hv
  have s1 := hv.s1
  have s2 := hv.s2
  have ea : argV r inst = grQ r inst % 1000000000 * 1000000 + grR r inst / 86400000 := by
    unfold argV grQ grR; generalize r * inst = P; omega
  have r0 : 0 ≤ grR r inst := Int.emod_nonneg _ (by omega)
  have r1 : grR r inst < 86400000000000 := Int.emod_lt_of_pos _ (by omega)
  have eh : angHi m r l s inst = angLo m r l s inst + (if 0 < grR r inst then valHi m l s inst + 1 else valHi m l s inst) - valLo m l s inst := rfl
  have el : angLo m r l s inst = (valLo m l s inst + grQ r inst % 1000000000) % 1000000000 := rfl
  rw [eh, el]
  unfold wholeV
  rw [ea]
  generalize refAt m l inst l.length = n at *
  generalize valLo m l s inst = vl at *
  generalize valHi m l s inst = vh at *
  generalize grQ r inst % 1000000000 = q at *
  generalize grR r inst = ρ at *
  have e1 : (q * 1000000 + ρ / 86400000) / 1000000 = q := by omega
  have e2 : (q * 1000000 + ρ / 86400000) % 1000000 = ρ / 86400000 := by omega
  rw [e1, e2]
  have key : ((n + q * 1048576 + ρ / 86400000 * 1048576 / 1000000) % 1048576000000000 - s * 1048576 - (vl + q) % 1000000000 * 1048576 + 2000) % 1048576000000000 = (n - s * 1048576 - vl * 1048576 + ρ / 86400000 * 1048576 / 1000000 + 2000) % 1048576000000000 := by omega
  rw [key]
  have f0 : 0 ≤ ρ / 86400000 * 1048576 / 1000000 := by omega
  have f1 : ρ / 86400000 * 1048576 / 1000000 < 1048576 := by omega
  by_cases h : 0 < ρ
  · rw [if_pos h]
    have hK : (n - s * 1048576 - vl * 1048576 + ρ / 86400000 * 1048576 / 1000000 + 2000) % 1048576000000000 = n - s * 1048576 - vl * 1048576 + ρ / 86400000 * 1048576 / 1000000 + 2000 := Int.emod_eq_of_lt (by omega) (by omega)
    rw [hK]
    omega
  · have f2 : ρ / 86400000 * 1048576 / 1000000 = 0 := by omega
    rw [if_neg h, f2]
    have hK : (n - s * 1048576 - vl * 1048576 + 0 + 2000) % 1048576000000000 = n - s * 1048576 - vl * 1048576 + 0 + 2000 := Int.emod_eq_of_lt (by omega) (by omega)
    rw [hK]
    omega
/-- The difference of two angles: it lies in the difference of their intervals, with parts of the remainders. K1, K2: what ang_contains2 tells of the two; w1, w2: the widths. -/
theorem less_contains {W1 W2 lo1 lo2 w1 w2 s1 s2 e1 e2 : Int} (h1 : (W1 - s1 * 1048576 - lo1 * 1048576 + 2000) % 1048576000000000 ≤ (w1 - 2 * s1) * 1048576 + 4000) (h2 : (W2 - s2 * 1048576 - lo2 * 1048576 + 2000) % 1048576000000000 ≤ (w2 - 2 * s2) * 1048576 + 4000)
    (a1 : -s1 ≤ e1) (a2 : e1 ≤ s1) (b1 : -s2 ≤ e2) (b2 : e2 ≤ s2) (s10 : 0 ≤ s1) (s11 : s1 ≤ 100000) (s20 : 0 ≤ s2) (s21 : s2 ≤ 100000) (w1b : w1 ≤ 300000) (w2b : w2 ≤ 300000) :
    (((W1 + e1 * 1048576) % 1048576000000000 - (W2 + e2 * 1048576) % 1048576000000000) % 1048576000000000 - 0 * 1048576 - (lo1 - (lo2 + w2)) % 1000000000 * 1048576 + 8192) % 1048576000000000 ≤ (w1 + w2 - 2 * 0) * 1048576 + 16384 := by
  have k1 := Int.emod_nonneg (W1 - s1 * 1048576 - lo1 * 1048576 + 2000) (show (1048576000000000 : Int) ≠ 0 by omega)
  have k2 := Int.emod_nonneg (W2 - s2 * 1048576 - lo2 * 1048576 + 2000) (show (1048576000000000 : Int) ≠ 0 by omega)
  have e : (((W1 + e1 * 1048576) % 1048576000000000 - (W2 + e2 * 1048576) % 1048576000000000) % 1048576000000000 - 0 * 1048576 - (lo1 - (lo2 + w2)) % 1000000000 * 1048576 + 8192) % 1048576000000000 =
      ((W1 - s1 * 1048576 - lo1 * 1048576 + 2000) % 1048576000000000 - (W2 - s2 * 1048576 - lo2 * 1048576 + 2000) % 1048576000000000 + (s1 + e1 - s2 - e2 + w2) * 1048576 + 8192) % 1048576000000000 := by omega
  rw [e]
  generalize (W1 - s1 * 1048576 - lo1 * 1048576 + 2000) % 1048576000000000 = K1 at *
  generalize (W2 - s2 * 1048576 - lo2 * 1048576 + 2000) % 1048576000000000 = K2 at *
  rw [Int.emod_eq_of_lt (by omega) (by omega)]
  omega
end Go.Proofs.YtmjdcabniefifaaDoor
