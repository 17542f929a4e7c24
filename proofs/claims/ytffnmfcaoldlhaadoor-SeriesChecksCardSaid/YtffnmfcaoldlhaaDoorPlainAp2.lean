/- Quotients and whole numbers in floating point, up to an error. No program in sight. -/
import Derived.Test.YtffnmfcaoldlhaaDoorPlainAp
set_option linter.unusedVariables false
set_option linter.unusedSimpArgs false
namespace Go.Proofs.YtffnmfcaoldlhaaDoor
open Ieee
/-- The word of a whole number reads as it, up to half a unit. -/
theorem nearest_ap (n : Int) (K : Nat) (hK : K ≤ 900) (h1 : (n : Rat) ≤ p2 K) (h2 : -p2 K ≤ (n : Rat)) : Ap (double.nearest (decide (n < 0)) n.natAbs 0) (n : Rat) (p2 (K - 53)) := by
  have e := total_rv n 0 (decide (n < 0)) (fun _ => rfl)
  rw [p2_zero, Rat.mul_one] at e
  have h := write_ap (s := decide (n < 0)) (m := n.natAbs) (p := 0) (X := n) (e := 0) K hK (by rw [e]; grind) (by rw [e]; grind) (by grind) (by grind)
  have z : (0 : Rat) + p2 (K - 53) = p2 (K - 53) := by grind
  rw [z] at h
  exact h
theorem quo_mag {m n more : Nat} (hn : n ≠ 0) : ∃ q : Rat, q * (n : Rat) = (m : Rat) * ((2 ^ more : Nat) : Rat) ∧ ((2 * (m <<< more / n) + (m <<< more % n != 0).toNat : Nat) : Rat) ≤ 2 * q + 1 ∧ 2 * q ≤ ((2 * (m <<< more / n) + (m <<< more % n != 0).toNat : Nat) : Rat) + 1 := by
  have hn0 : (n : Rat) ≠ 0 := by exact_mod_cast hn
  have hp : (0 : Rat) < (n : Rat) := by exact_mod_cast Nat.pos_of_ne_zero hn
  refine ⟨(m : Rat) * ((2 ^ more : Nat) : Rat) / n, Rat.div_mul_cancel hn0, ?_⟩
  rw [Nat.shiftLeft_eq]
  have hd := Nat.div_add_mod (m * 2 ^ more) n
  have hl := Nat.mod_lt (m * 2 ^ more) (Nat.pos_of_ne_zero hn)
  have hd' : (n : Rat) * ((m * 2 ^ more / n : Nat) : Rat) + ((m * 2 ^ more % n : Nat) : Rat) = (m : Rat) * ((2 ^ more : Nat) : Rat) := by
    have := congrArg (fun z : Nat => (z : Rat)) hd
    push_cast at this ⊢
    exact this
  have hl' : ((m * 2 ^ more % n : Nat) : Rat) + 1 ≤ (n : Rat) := by exact_mod_cast hl
  have hz : (0 : Rat) ≤ ((m * 2 ^ more % n : Nat) : Rat) := by exact_mod_cast Nat.zero_le _
  have i := Rat.mul_inv_cancel (n : Rat) hn0
  have ip : (0 : Rat) < (n : Rat)⁻¹ := Rat.inv_pos.2 hp
  rw [← hd', Rat.div_def]
  push_cast
  have e : ((n : Rat) * ((m * 2 ^ more / n : Nat) : Rat) + ((m * 2 ^ more % n : Nat) : Rat)) * (n : Rat)⁻¹ = ((m * 2 ^ more / n : Nat) : Rat) + ((m * 2 ^ more % n : Nat) : Rat) * (n : Rat)⁻¹ := by grind
  rw [e]
  have b0 : 0 ≤ ((m * 2 ^ more % n : Nat) : Rat) * (n : Rat)⁻¹ := Rat.mul_nonneg hz (Rat.le_of_lt ip)
  have b1 : ((m * 2 ^ more % n : Nat) : Rat) * (n : Rat)⁻¹ ≤ 1 := by
    have := Rat.mul_le_mul_of_nonneg_right (show ((m * 2 ^ more % n : Nat) : Rat) ≤ (n : Rat) by grind) (Rat.le_of_lt ip)
    grind
  by_cases h0 : m * 2 ^ more % n = 0
  · rw [h0] at b0 b1 ⊢
    simp
    generalize ((m * 2 ^ more / n : Nat) : Rat) = z at *
    have c0 : ((0 : Nat) : Rat) = 0 := rfl
    constructor <;> grind
  · have t : (m * 2 ^ more % n != 0) = true := by simp [h0]
    rw [t]
    generalize ((m * 2 ^ more % n : Nat) : Rat) * (n : Rat)⁻¹ = r at *
    generalize ((m * 2 ^ more / n : Nat) : Rat) = z at *
    have c1 : ((true.toNat : Nat) : Rat) = 1 := rfl
    rw [c1]
    constructor <;> grind
theorem rv_div {s t : Bool} {m n : Nat} {i j : Int} (q : Rat) (more : Nat) (hn : n ≠ 0) (hq : q * (n : Rat) = (m : Rat) * ((2 ^ more : Nat) : Rat)) :
    rv s m i / rv t n j = (if s ^^ t then -1 else 1) * (2 * q * p2 (i - j - more - 1)) := by
  have hn0 : (n : Rat) ≠ 0 := by exact_mod_cast hn
  have e1 : p2 i = p2 (i - j - more - 1) * 2 * ((2 ^ more : Nat) : Rat) * p2 j := by
    have a : i = (i - j - more - 1) + 1 + more + j := by omega
    have two : p2 1 = 2 := by decide +kernel
    have b : p2 ((i - j - more - 1) + 1 + more + j) = p2 (i - j - more - 1) * 2 * ((2 ^ more : Nat) : Rat) * p2 j := by rw [p2_add, p2_add, p2_add, two, p2_nat]
    rw [← a] at b
    exact b
  have pj := p2_pos j
  have nz : rv t n j ≠ 0 := by
    unfold rv
    have : (n : Rat) * p2 j ≠ 0 := by
      intro h
      rcases Rat.mul_eq_zero.1 h with h | h
      · exact hn0 h
      · grind
    cases t <;> simp <;> grind
  have key : rv s m i = (if s ^^ t then -1 else 1) * (2 * q * p2 (i - j - more - 1)) * rv t n j := by
    unfold rv
    rw [e1]
    generalize p2 (i - j - more - 1) = z at *
    have : q * (n : Rat) * (2 * z * p2 j) = (m : Rat) * ((2 ^ more : Nat) : Rat) * (2 * z * p2 j) := by rw [hq]
    cases s <;> cases t <;> simp <;> grind
  rw [key, Rat.div_def]
  have := Rat.mul_inv_cancel _ nz
  grind
theorem div_val {x y : Nat} {s t : Bool} {m n : Nat} {i j : Int} (K : Nat) (hK : K ≤ 900) (hx : Reads x s m i) (hy : Reads y t n j) (hn : n ≠ 0) (h1 : rv s m i / rv t n j + p2 (K - 54) ≤ p2 K) (h2 : -p2 K ≤ rv s m i / rv t n j - p2 (K - 54)) :
    ∃ r, double.div x y = some r ∧ Ap r (rv s m i / rv t n j) (p2 (K - 54) + p2 (K - 53)) := by
  unfold Reads at hx hy
  have hfb : double.fractionBits = 52 := rfl
  obtain ⟨more, hmore⟩ : ∃ more, 52 + 2 + n.log2 - m.log2 = more := ⟨_, rfl⟩
  obtain ⟨q, q1, q2, q3⟩ := quo_mag (m := m) (n := n) (more := more) hn
  have ev := rv_div (s := s) (t := t) (i := i) (j := j) q more hn q1
  refine ⟨double.write (.number (s ^^ t) (2 * (m <<< more / n) + (m <<< more % n != 0).toNat) (i - j - more - 1)), ?_, ?_⟩
  · unfold Format.div
    rw [hx, hy, hfb]
    unfold Datum.quotient
    dsimp only
    rw [if_neg hn, hmore]
    rfl
  · have g0 : m = 0 → 2 * (m <<< more / n) + (m <<< more % n != 0).toNat = 0 := by
      intro h
      subst h
      simp
    generalize 2 * (m <<< more / n) + (m <<< more % n != 0).toNat = g at *
    have hp := p2_pos (i - j - more - 1)
    have hK' : p2 (i - j - more - 1) ≤ p2 (K - 54) ∨ m = 0 := by
      by_cases hm : m = 0
      · exact .inr hm
      · left
        refine p2_mono ?_
        have l1 := two_log2_le hm
        have l2 := lt_two_log2 n
        have c1 : (2 ^ (n.log2 + 1) * 2 ^ 53 : Nat) ≤ m * 2 ^ more := by
          rw [← Nat.pow_add]
          refine Nat.le_trans ?_ (Nat.mul_le_mul_right _ l1)
          rw [← Nat.pow_add]
          exact Nat.pow_le_pow_right (by omega) (by omega)
        have c2 : ((2 ^ 53 : Nat) : Rat) ≤ q := by
          have a1 : ((n * 2 ^ 53 : Nat) : Rat) ≤ q * n := by
            rw [q1]
            have : n * 2 ^ 53 ≤ m * 2 ^ more := Nat.le_trans (Nat.mul_le_mul_right _ (by omega)) c1
            have := cast_le this
            push_cast at this ⊢
            exact this
          have hp : (0 : Rat) < (n : Rat) := by exact_mod_cast Nat.pos_of_ne_zero hn
          refine Rat.le_of_mul_le_mul_right ?_ hp
          push_cast at a1 ⊢
          grind
        have c3 : ((2 ^ 53 : Nat) : Rat) * p2 (i - j - more) ≤ p2 K := by
          have a1 := Rat.mul_le_mul_of_nonneg_right c2 (Rat.le_of_lt (p2_pos (i - j - more)))
          have a2 := p2_half (i - j - more)
          have a3 := p2_pos (K - 54)
          have a4 : 2 * q * p2 (i - j - more - 1) = q * p2 (i - j - more) := by rw [← a2]; grind
          rw [ev, a4] at h1 h2
          cases hst : (s ^^ t) <;> rw [hst] at h1 h2 <;> simp at h1 h2 <;> grind
        rw [← p2_nat, ← p2_add] at c3
        have := p2_lt_of c3
        omega
    have er : rv (s ^^ t) g (i - j - more - 1) ≤ rv s m i / rv t n j + p2 (K - 54) ∧ rv s m i / rv t n j ≤ rv (s ^^ t) g (i - j - more - 1) + p2 (K - 54) := by
      rcases hK' with hK' | hm
      · have b1 := Rat.mul_le_mul_of_nonneg_right q2 (Rat.le_of_lt hp)
        have b2 := Rat.mul_le_mul_of_nonneg_right q3 (Rat.le_of_lt hp)
        rw [ev]
        unfold rv
        cases hst : (s ^^ t) <;> simp <;> constructor <;> grind
      · have q0 : q = 0 := by
          subst hm
          have hn0 : (n : Rat) ≠ 0 := by exact_mod_cast hn
          have z : q * (n : Rat) = 0 := by rw [q1]; simp
          rcases Rat.mul_eq_zero.1 z with h | h
          · exact h
          · exact absurd h hn0
        have pk := p2_pos (K - 54)
        rw [ev, q0, g0 hm]
        unfold rv
        cases hst : (s ^^ t) <;> simp <;> grind
    exact write_ap K hK er.1 er.2 h1 h2
end Go.Proofs.YtffnmfcaoldlhaaDoor
