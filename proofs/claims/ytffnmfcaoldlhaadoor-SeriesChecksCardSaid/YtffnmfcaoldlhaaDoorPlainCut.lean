/- Floating-point numbers made whole: floor, ceiling, cut. No program in sight. -/
import Derived.Test.YtffnmfcaoldlhaaDoorPlainAp2
set_option linter.unusedVariables false
set_option linter.unusedSimpArgs false
namespace Go.Proofs.YtffnmfcaoldlhaaDoor
open Ieee
/-- To cut digits downwards. -/
theorem cut_is (way : Toward) (s : Bool) (n d : Nat) (hw : way ≠ .even) : way.cut s n d = n / 2 ^ d + (match way with | .down => s && n % 2 ^ d != 0 | .up => !s && n % 2 ^ d != 0 | _ => false).toNat := by
  unfold Toward.cut
  by_cases hd : d ≤ n.log2 + 2
  · rw [Nat.min_eq_left hd, Nat.one_shiftLeft]
    cases way <;> first | (exact absurd rfl hw) | rfl
  · rw [Nat.min_eq_right (by omega), Nat.one_shiftLeft]
    have h1 := lt_two_log2 n
    have h2 : 2 ^ (n.log2 + 2) = 2 * 2 ^ (n.log2 + 1) := by rw [Nat.pow_succ]; omega
    have h3 : 2 ^ (n.log2 + 2) ≤ 2 ^ d := Nat.pow_le_pow_right (by omega) (by omega)
    have e1 : n / 2 ^ (n.log2 + 2) = 0 := Nat.div_eq_of_lt (by omega)
    have e2 : n % 2 ^ (n.log2 + 2) = n := Nat.mod_eq_of_lt (by omega)
    have e3 : n / 2 ^ d = 0 := Nat.div_eq_of_lt (by omega)
    have e4 : n % 2 ^ d = n := Nat.mod_eq_of_lt (by omega)
    dsimp only
    rw [e1, e2, e3, e4]
    cases way <;> first | (exact absurd rfl hw) | rfl
theorem shift_rv (s : Bool) (m : Nat) (p : Int) : rv s m p * ((2 ^ (-p).toNat : Nat) : Rat) = (if s then -1 else 1) * ((m <<< p.toNat : Nat) : Rat) := by
  unfold rv
  rw [Nat.shiftLeft_eq]
  by_cases h : 0 ≤ p
  · obtain ⟨n, rfl⟩ : ∃ n : Nat, p = n := ⟨p.toNat, by omega⟩
    have e1 : (-(n : Int)).toNat = 0 := by omega
    have e2 : ((n : Int)).toNat = n := by omega
    rw [e1, e2, p2_nat]
    push_cast
    cases s <;> simp <;> grind
  · obtain ⟨n, rfl⟩ : ∃ n : Nat, p = -(n : Int) := ⟨(-p).toNat, by omega⟩
    have e1 : (- -(n : Int)).toNat = n := by omega
    have e2 : (-(n : Int)).toNat = 0 := by omega
    rw [e1, e2, ← p2_nat]
    have e3 : p2 (-(n : Int)) * p2 (n : Int) = 1 := by rw [← p2_add, show -(n : Int) + n = 0 by omega, p2_zero]
    push_cast
    cases s <;> simp <;> grind
/-- A number made whole downwards, upwards, towards nought. -/
theorem integral_down (s : Bool) (m : Nat) (p : Int) : ∃ k : Nat, Datum.integral .down (.number s m p) = .number s k 0 ∧ ((signed s k 0 : Int) : Rat) ≤ rv s m p ∧ rv s m p < ((signed s k 0 : Int) : Rat) + 1 := by
  refine ⟨_, rfl, ?_⟩
  rw [cut_is _ _ _ _ (by decide)]
  have h := shift_rv s m p
  have hd := Nat.div_add_mod (m <<< p.toNat) (2 ^ (-p).toNat)
  have hl := Nat.mod_lt (m <<< p.toNat) (Nat.two_pow_pos (-p).toNat)
  have hp := Nat.two_pow_pos (-p).toNat
  generalize m <<< p.toNat = n at *
  generalize 2 ^ (-p).toNat = g at *
  have hd' : (n : Rat) = (g : Rat) * ((n / g : Nat) : Rat) + ((n % g : Nat) : Rat) := by
    have := congrArg (fun z : Nat => (z : Rat)) hd
    push_cast at this
    exact this.symm
  have hl' : ((n % g : Nat) : Rat) + 1 ≤ (g : Rat) := by exact_mod_cast hl
  have hz : (0 : Rat) ≤ ((n % g : Nat) : Rat) := by exact_mod_cast Nat.zero_le _
  have gp : (0 : Rat) < (g : Rat) := by exact_mod_cast hp
  have cancel : ∀ {s t : Rat}, s * (g : Rat) ≤ t * (g : Rat) → s ≤ t := fun h => Rat.le_of_mul_le_mul_right h gp
  have cancel' : ∀ {s t : Rat}, s * (g : Rat) < t * (g : Rat) → s < t := fun h => Rat.lt_of_mul_lt_mul_right h (Rat.le_of_lt gp)
  rw [hd'] at h
  generalize n / g = q at *
  unfold signed
  cases s
  · simp at h ⊢
    constructor
    · refine cancel ?_; rw [h]; push_cast; grind
    · refine cancel' ?_; rw [h]; push_cast; grind
  · by_cases h0 : n % g = 0
    · rw [h0] at h
      simp [h0] at h ⊢
      constructor
      · refine cancel ?_; rw [h]; push_cast; grind
      · refine cancel' ?_; rw [h]; push_cast; grind
    · have h1 : (1 : Rat) ≤ ((n % g : Nat) : Rat) := by exact_mod_cast Nat.pos_of_ne_zero h0
      have t : (n % g != 0) = true := by simp [h0]
      dsimp only
      rw [t]
      simp at h ⊢
      constructor
      · refine cancel ?_; rw [h]; push_cast; grind
      · refine cancel' ?_; rw [h]; push_cast; grind
theorem integral_up (s : Bool) (m : Nat) (p : Int) : ∃ k : Nat, Datum.integral .up (.number s m p) = .number s k 0 ∧ rv s m p ≤ ((signed s k 0 : Int) : Rat) ∧ ((signed s k 0 : Int) : Rat) < rv s m p + 1 := by
  refine ⟨_, rfl, ?_⟩
  rw [cut_is _ _ _ _ (by decide)]
  have h := shift_rv s m p
  have hd := Nat.div_add_mod (m <<< p.toNat) (2 ^ (-p).toNat)
  have hl := Nat.mod_lt (m <<< p.toNat) (Nat.two_pow_pos (-p).toNat)
  have hp := Nat.two_pow_pos (-p).toNat
  generalize m <<< p.toNat = n at *
  generalize 2 ^ (-p).toNat = g at *
  have hd' : (n : Rat) = (g : Rat) * ((n / g : Nat) : Rat) + ((n % g : Nat) : Rat) := by
    have := congrArg (fun z : Nat => (z : Rat)) hd
    push_cast at this
    exact this.symm
  have hl' : ((n % g : Nat) : Rat) + 1 ≤ (g : Rat) := by exact_mod_cast hl
  have hz : (0 : Rat) ≤ ((n % g : Nat) : Rat) := by exact_mod_cast Nat.zero_le _
  have gp : (0 : Rat) < (g : Rat) := by exact_mod_cast hp
  have cancel : ∀ {s t : Rat}, s * (g : Rat) ≤ t * (g : Rat) → s ≤ t := fun h => Rat.le_of_mul_le_mul_right h gp
  have cancel' : ∀ {s t : Rat}, s * (g : Rat) < t * (g : Rat) → s < t := fun h => Rat.lt_of_mul_lt_mul_right h (Rat.le_of_lt gp)
  rw [hd'] at h
  generalize n / g = q at *
  unfold signed
  have e0 : (rv s m p + 1) * (g : Rat) = rv s m p * (g : Rat) + g := by grind
  cases s
  · by_cases h0 : n % g = 0
    · rw [h0] at h
      simp [h0] at h ⊢
      constructor
      · refine cancel ?_; rw [h]; push_cast; grind
      · refine cancel' ?_; rw [e0, h]; push_cast; grind
    · have h1 : (1 : Rat) ≤ ((n % g : Nat) : Rat) := by exact_mod_cast Nat.pos_of_ne_zero h0
      have t : (n % g != 0) = true := by simp [h0]
      dsimp only
      rw [t]
      simp at h ⊢
      constructor
      · refine cancel ?_; rw [h]; push_cast; grind
      · refine cancel' ?_; rw [e0, h]; push_cast; grind
  · simp at h ⊢
    constructor
    · refine cancel ?_; rw [h]; push_cast; grind
    · refine cancel' ?_; rw [e0, h]; push_cast; grind
/-- What a number is cut to that is not below nought. -/
theorem toInt_pos (m : Nat) (p : Int) : ∃ k : Nat, Datum.toInt .zero (.number false m p) = some (k : Int) ∧ (k : Rat) ≤ rv false m p ∧ rv false m p < (k : Rat) + 1 := by
  obtain ⟨k, h1, h2, h3⟩ := integral_down false m p
  have hk : ((signed false k 0 : Int) : Rat) = (k : Rat) := by
    have : signed false k 0 = (k : Int) := by simp [signed]
    rw [this]; rfl
  rw [hk] at h2 h3
  have e : Datum.integral .zero (.number false m p) = Datum.integral .down (.number false m p) := by
    show Datum.number _ _ _ = Datum.number _ _ _
    rw [cut_is _ _ _ _ (by decide), cut_is _ _ _ _ (by decide)]
    rfl
  refine ⟨k, ?_, ?_, ?_⟩
  · unfold Datum.toInt
    rw [e, h1]
    simp [signed]
  · exact h2
  · exact h3
/-- A whole number of at most 53 digits is written without an error. -/
theorem write_whole (s : Bool) (k : Nat) (hk : k < 2 ^ 53) : ∃ m p, Reads (double.write (.number s k 0)) s m p ∧ rv s m p = rv s k 0 := by
  show ∃ m p, Reads (double.nearest s k 0) s m p ∧ _
  have hfb : double.fractionBits = 52 := rfl
  have hlp : double.leastPlace = -1074 := by decide +kernel
  unfold Format.nearest
  by_cases hm : k = 0
  · rw [if_pos hm]
    obtain ⟨m', e', h1, h2⟩ := read_rung s 0 0 (by omega) (by omega) (.inl rfl)
    have e0 : min (0 * double.binade + 0) double.infRung = 0 := by simp
    rw [e0] at h1
    refine ⟨m', e', h1, ?_⟩
    unfold rv
    rw [h2, hm]
    push_cast
    cases s <;> simp <;> grind
  · rw [if_neg hm]
    dsimp only
    have l1 := two_log2_le hm
    have l2 := lt_two_log2 k
    generalize hg : k.log2 = g at *
    have hg52 : g < 53 := by
      by_cases q : g < 53
      · exact q
      · have := Nat.pow_le_pow_right (show 0 < 2 by omega) (show 53 ≤ g by omega)
        omega
    rw [hfb, hlp]
    obtain ⟨last, hlast⟩ : ∃ last, max (0 + (g : Int) - (52 : Nat)) (-1074) = last := ⟨_, rfl⟩
    rw [hlast]
    obtain ⟨D, hD⟩ : ∃ D : Nat, 0 - last = D := ⟨(0 - last).toNat, by omega⟩
    have hDt : (0 - last).toNat = D := by omega
    have hd : (last - 0).toNat = 0 := by omega
    rw [hd, cut_zero, Nat.shiftLeft_eq, hDt]
    have k1 : k * 2 ^ D ≤ 2 ^ 53 := by
      have a1 : k * 2 ^ D ≤ 2 ^ (g + 1) * 2 ^ D := Nat.mul_le_mul_right _ (by omega)
      rw [← Nat.pow_add] at a1
      exact Nat.le_trans a1 (Nat.pow_le_pow_right (by omega) (by omega))
    have k2 : (last - -1074).toNat = 0 ∨ 2 ^ 52 ≤ k * 2 ^ D := by
      right
      have a1 : 2 ^ g * 2 ^ D ≤ k * 2 ^ D := Nat.mul_le_mul_right _ l1
      rw [← Nat.pow_add, show g + D = 52 by omega] at a1
      exact a1
    obtain ⟨m', e', r1, r2⟩ := read_rung s _ _ (by omega) k1 k2
    refine ⟨m', e', r1, ?_⟩
    have hLc : (((last - -1074).toNat : Nat) : Int) - 1074 = last := by omega
    rw [hLc] at r2
    have ev : ((k * 2 ^ D : Nat) : Rat) * p2 last = (k : Rat) * p2 0 := by
      rw [show (0 : Int) = (D : Int) + last by omega, p2_add, p2_nat]
      push_cast
      grind
    unfold rv
    rw [r2, ev]
end Go.Proofs.YtffnmfcaoldlhaaDoor
