/- Rounding of floating-point numbers, in plain terms: the word nearest to a number reads as a number at most half a unit of its last place away. No program in sight. -/
import Ieee.Arith
namespace Go.Proofs.YtffnmfcaoldlhaaDoor
open Ieee
/-- A power of two. -/
def p2 (k : Int) : Rat := (2 : Rat) ^ k
theorem p2_add (a b : Int) : p2 (a + b) = p2 a * p2 b := Rat.zpow_add (by decide) a b
theorem p2_nat (n : Nat) : p2 (n : Int) = ((2 ^ n : Nat) : Rat) := by
  unfold p2
  rw [Rat.zpow_natCast]
  push_cast
  rfl
theorem p2_zero : p2 0 = 1 := Rat.zpow_zero _
theorem p2_pos (k : Int) : 0 < p2 k := Rat.zpow_pos (by decide)
theorem p2_mono {a b : Int} (h : a ≤ b) : p2 a ≤ p2 b := by
  obtain ⟨n, rfl⟩ : ∃ n : Nat, b = a + n := ⟨(b - a).toNat, by omega⟩
  rw [p2_add, p2_nat]
  have h1 : (1 : Rat) ≤ ((2 ^ n : Nat) : Rat) := by
    have : 1 ≤ 2 ^ n := Nat.one_le_two_pow
    exact_mod_cast this
  have := Rat.mul_le_mul_of_nonneg_left h1 (Rat.le_of_lt (p2_pos a))
  grind
theorem two_log2_le {n : Nat} (h : n ≠ 0) : 2 ^ n.log2 ≤ n := Nat.log2_self_le h
theorem lt_two_log2 (n : Nat) : n < 2 ^ (n.log2 + 1) := Nat.lt_log2_self
/-- To cut digits to the nearest changes by at most half a unit. -/
theorem cut_even (s : Bool) (n d : Nat) : 2 * n ≤ 2 * (Toward.even.cut s n d * 2 ^ d) + 2 ^ d ∧ 2 * (Toward.even.cut s n d * 2 ^ d) ≤ 2 * n + 2 ^ d := by
  unfold Toward.cut
  by_cases hd : d ≤ n.log2 + 2
  · rw [Nat.min_eq_left hd, Nat.one_shiftLeft]
    dsimp only
    have hm := Nat.div_add_mod n (2 ^ d)
    have hl := Nat.mod_lt n (show 0 < 2 ^ d from Nat.two_pow_pos d)
    generalize n / 2 ^ d = low at *
    generalize n % 2 ^ d = rest at *
    generalize 2 ^ d = gap at *
    cases hb : (decide (gap < 2 * rest) || gap == 2 * rest && low % 2 == 1)
    · simp at hb
      simp only [Bool.toNat_false, Nat.add_zero]
      rw [Nat.mul_comm low gap]
      omega
    · simp at hb
      simp only [Bool.toNat_true]
      rw [Nat.add_mul, Nat.one_mul, Nat.mul_comm low gap]
      omega
  · rw [Nat.min_eq_right (by omega), Nat.one_shiftLeft]
    have h1 := lt_two_log2 n
    have h2 : 2 ^ (n.log2 + 2) = 2 * 2 ^ (n.log2 + 1) := by rw [Nat.pow_succ]; omega
    have h3 : 2 ^ (n.log2 + 2) ≤ 2 ^ d := Nat.pow_le_pow_right (by omega) (by omega)
    have e1 : n / 2 ^ (n.log2 + 2) = 0 := Nat.div_eq_of_lt (by omega)
    have e2 : n % 2 ^ (n.log2 + 2) = n := Nat.mod_eq_of_lt (by omega)
    dsimp only
    rw [e1, e2]
    have e3 : (decide (2 ^ (n.log2 + 2) < 2 * n) || 2 ^ (n.log2 + 2) == 2 * n && 0 % 2 == 1) = false := by simp; omega
    rw [e3]
    simp
    omega
theorem cut_zero (s : Bool) (n : Nat) : Toward.even.cut s n 0 = n := by
  have h := cut_even s n 0
  simp at h
  omega
/-- What a finite word reads as. -/
def Reads (w : Nat) (s : Bool) (m : Nat) (e : Int) : Prop := double.read w = .number s m e
/-- The number of a sign, a magnitude and a place. -/
def rv (s : Bool) (m : Nat) (e : Int) : Rat := (if s then -1 else 1) * ((m : Rat) * p2 e)
def lastOfF (m : Nat) (e : Int) : Int := max (e + m.log2 - 52) (-1074)
theorem read_rung (s : Bool) (L k : Nat) (hL : L ≤ 2000) (hk : k ≤ 2 ^ 53) (hk2 : L = 0 ∨ 2 ^ 52 ≤ k) :
    ∃ m e, Reads (double.word s (min (L * double.binade + k) double.infRung)) s m e ∧ (m : Rat) * p2 e = (k : Rat) * p2 (L - 1074) := by
  have hb : double.binade = 2 ^ 52 := by decide +kernel
  have hi : double.infRung = 2047 * 2 ^ 52 := by decide +kernel
  have hw : double.signWeight = 2 ^ 63 := by decide +kernel
  have hp : double.leastPlace = -1074 := by decide +kernel
  have e52 : (2 : Nat) ^ 52 = 4503599627370496 := by decide
  have e53 : (2 : Nat) ^ 53 = 9007199254740992 := by decide
  have e63 : (2 : Nat) ^ 63 = 9223372036854775808 := by decide
  rw [e53] at hk
  rw [e52] at hk2
  rw [hb, hi, e52, Nat.min_eq_left (by omega)]
  have hsg : double.word s (L * 4503599627370496 + k) / double.signWeight % 2 = (if s then 1 else 0) ∧ double.word s (L * 4503599627370496 + k) % double.signWeight = L * 4503599627370496 + k := by
    unfold Format.word
    rw [hw, e63]
    cases s <;> simp <;> omega
  unfold Reads Format.read
  simp only [hsg.1, hsg.2, hb, hi, hp, e52]
  have hs : ((if s = true then 1 else 0) == 1) = s := by cases s <;> rfl
  rw [hs]
  by_cases h0 : L * 4503599627370496 + k < 4503599627370496
  · rw [if_pos h0]
    have hL0 : L = 0 := by omega
    subst hL0
    exact ⟨_, _, rfl, by simp⟩
  · rw [if_neg h0, if_pos (by omega)]
    refine ⟨_, _, rfl, ?_⟩
    by_cases hc : k = 9007199254740992
    · have e1 : (L * 4503599627370496 + k) % 4503599627370496 = 0 := by omega
      have e2 : (L * 4503599627370496 + k) / 4503599627370496 - 1 = L + 1 := by omega
      rw [e1, e2, hc]
      have e3 : (-1074 : Int) + ((L + 1 : Nat) : Int) = 1 + ((L : Int) - 1074) := by omega
      rw [e3, p2_add]
      have e4 : p2 1 = 2 := by decide +kernel
      rw [e4]
      push_cast
      grind
    · by_cases hk3 : k < 4503599627370496
      · omega
      · have e1 : (L * 4503599627370496 + k) % 4503599627370496 = k - 4503599627370496 := by omega
        have e2 : (L * 4503599627370496 + k) / 4503599627370496 - 1 = L := by omega
        rw [e1, e2]
        have e3 : (-1074 : Int) + (L : Int) = (L : Int) - 1074 := by omega
        have e4 : 4503599627370496 + (k - 4503599627370496) = k := by omega
        rw [e3, e4]
theorem p2_lt_of {a b : Int} (h : p2 a ≤ p2 b) : a ≤ b := by
  by_cases q : a ≤ b
  · exact q
  · have h1 := p2_mono (a := b + 1) (b := a) (by omega)
    rw [p2_add] at h1
    have h2 : p2 1 = 2 := by decide +kernel
    rw [h2] at h1
    have := p2_pos b
    grind
theorem p2_half (k : Int) : 2 * p2 (k - 1) = p2 k := by
  have h := p2_add (k - 1) 1
  rw [show k - 1 + 1 = k by omega] at h
  have h2 : p2 1 = 2 := by decide +kernel
  rw [h2] at h
  grind
theorem cast_le {a b : Nat} (h : a ≤ b) : (a : Rat) ≤ b := by exact_mod_cast h
/-- The word nearest to a number not above 2^K reads as a number at most 2^(K - 53) away. -/
theorem nearest_near (s : Bool) (m : Nat) (e : Int) (K : Nat) (hK : K ≤ 900) (hx : (m : Rat) * p2 e ≤ p2 K) :
    ∃ m' e', Reads (double.nearest s m e) s m' e' ∧ (m' : Rat) * p2 e' ≤ (m : Rat) * p2 e + p2 (K - 53) ∧ (m : Rat) * p2 e ≤ (m' : Rat) * p2 e' + p2 (K - 53) := by
  have hfb : double.fractionBits = 52 := rfl
  have hlp : double.leastPlace = -1074 := by decide +kernel
  unfold Format.nearest
  by_cases hm : m = 0
  · rw [if_pos hm]
    obtain ⟨m', e', h1, h2⟩ := read_rung s 0 0 (by omega) (by omega) (.inl rfl)
    have e0 : min (0 * double.binade + 0) double.infRung = 0 := by simp
    rw [e0] at h1
    refine ⟨m', e', h1, ?_, ?_⟩
    · rw [h2, hm]; have := p2_pos (K - 53); push_cast; grind
    · rw [h2, hm]; have := p2_pos (K - 53); push_cast; grind
  · rw [if_neg hm]
    dsimp only
    have l1 := two_log2_le hm
    have l2 := lt_two_log2 m
    generalize hg : m.log2 = g at *
    have hge : (g : Int) + e ≤ K := by
      refine p2_lt_of ?_
      rw [p2_add, p2_nat]
      have := Rat.mul_le_mul_of_nonneg_right (cast_le l1) (Rat.le_of_lt (p2_pos e))
      grind
    rw [hfb, hlp]
    obtain ⟨last, hlast⟩ : ∃ last, max (e + (g : Int) - (52 : Nat)) (-1074) = last := ⟨_, rfl⟩
    rw [hlast]
    have hl0 : -1074 ≤ last := by omega
    have hl1 : e + g - 52 ≤ last := by omega
    have hl2 : last = -1074 ∨ last = e + g - 52 := by omega
    have hl3 : last ≤ (K : Int) - 52 := by omega
    have hL : (last - -1074).toNat ≤ 2000 := by omega
    have hLc : (((last - -1074).toNat : Nat) : Int) - 1074 = last := by omega
    have err := p2_mono (a := last - 1) (b := (K : Int) - 53) (by omega)
    have half := p2_half last
    have e53 : (2 : Nat) ^ 53 = 9007199254740992 := by decide
    have e52 : (2 : Nat) ^ 52 = 4503599627370496 := by decide
    by_cases hcase : last ≤ e
    · have hd : (last - e).toNat = 0 := by omega
      rw [hd, cut_zero, Nat.shiftLeft_eq]
      obtain ⟨D, hD⟩ : ∃ D : Nat, e - last = D := ⟨(e - last).toNat, by omega⟩
      have hDt : (e - last).toNat = D := by omega
      rw [hDt]
      have hDg : D + g ≤ 52 := by omega
      have k1 : m * 2 ^ D ≤ 2 ^ 53 := by
        have a1 : m * 2 ^ D ≤ 2 ^ (g + 1) * 2 ^ D := Nat.mul_le_mul_right _ (by omega)
        rw [← Nat.pow_add] at a1
        exact Nat.le_trans a1 (Nat.pow_le_pow_right (by omega) (by omega))
      have k2 : (last - -1074).toNat = 0 ∨ 2 ^ 52 ≤ m * 2 ^ D := by
        rcases hl2 with q | q
        · left; omega
        · right
          have a1 : 2 ^ g * 2 ^ D ≤ m * 2 ^ D := Nat.mul_le_mul_right _ l1
          rw [← Nat.pow_add, show g + D = 52 by omega] at a1
          exact a1
      obtain ⟨m', e', r1, r2⟩ := read_rung s _ _ hL k1 k2
      rw [hLc] at r2
      have ev : ((m * 2 ^ D : Nat) : Rat) * p2 last = (m : Rat) * p2 e := by
        rw [show e = (D : Int) + last by omega, p2_add, p2_nat]
        push_cast
        grind
      rw [ev] at r2
      have := p2_pos (K - 53)
      exact ⟨m', e', r1, by rw [r2]; grind, by rw [r2]; grind⟩
    · have hsh : (e - last).toNat = 0 := by omega
      rw [hsh, Nat.shiftLeft_zero]
      obtain ⟨D, hD⟩ : ∃ D : Nat, last - e = D := ⟨(last - e).toNat, by omega⟩
      have hDt : (last - e).toNat = D := by omega
      rw [hDt]
      obtain ⟨c1, c2⟩ := cut_even s m D
      generalize Toward.even.cut s m D = k at *
      have hDg : g ≤ D + 52 := by omega
      have pD := Nat.two_pow_pos D
      have k1 : k ≤ 2 ^ 53 := by
        have a1 : 2 ^ (g + 1) ≤ 2 ^ (D + 53) := Nat.pow_le_pow_right (by omega) (by omega)
        rw [Nat.pow_add 2 D 53] at a1
        have a2 : 2 * k * 2 ^ D < (2 * 2 ^ 53 + 1) * 2 ^ D := by
          rw [Nat.add_mul, Nat.mul_assoc, Nat.mul_assoc, Nat.mul_comm (2 ^ 53), Nat.one_mul]
          omega
        have := Nat.lt_of_mul_lt_mul_right a2
        omega
      have k2 : (last - -1074).toNat = 0 ∨ 2 ^ 52 ≤ k := by
        rcases hl2 with q | q
        · left; omega
        · right
          have a1 : 2 ^ (D + 52) ≤ m := by rw [show D + 52 = g by omega]; exact l1
          rw [Nat.pow_add 2 D 52] at a1
          have a2 : (2 * 2 ^ 52) * 2 ^ D ≤ (2 * k + 1) * 2 ^ D := by
            rw [Nat.add_mul, Nat.mul_assoc, Nat.mul_assoc, Nat.mul_comm (2 ^ 52), Nat.one_mul]
            omega
          have := Nat.le_of_mul_le_mul_right a2 pD
          omega
      obtain ⟨m', e', r1, r2⟩ := read_rung s _ _ hL k1 k2
      rw [hLc] at r2
      have ev : ((2 ^ D : Nat) : Rat) * p2 e = p2 last := by
        rw [show last = (D : Int) + e by omega, p2_add, p2_nat]
      have pe := Rat.le_of_lt (p2_pos e)
      have d1 := Rat.mul_le_mul_of_nonneg_right (cast_le c1) pe
      have d2 := Rat.mul_le_mul_of_nonneg_right (cast_le c2) pe
      simp only [Rat.natCast_add, Rat.natCast_mul] at d1 d2
      have t1 : ((2 : Nat) : Rat) = 2 := rfl
      rw [t1] at d1 d2
      have g1 : (2 * ((k : Rat) * ((2 ^ D : Nat) : Rat)) + ((2 ^ D : Nat) : Rat)) * p2 e = 2 * ((k : Rat) * p2 last) + p2 last := by rw [← ev]; grind
      have g2 : 2 * ((k : Rat) * ((2 ^ D : Nat) : Rat)) * p2 e = 2 * ((k : Rat) * p2 last) := by rw [← ev]; grind
      have g3 : (2 * (m : Rat) + ((2 ^ D : Nat) : Rat)) * p2 e = 2 * ((m : Rat) * p2 e) + p2 last := by rw [← ev]; grind
      rw [g1] at d1
      rw [g2, g3] at d2
      refine ⟨m', e', r1, ?_, ?_⟩
      · rw [r2]; grind
      · rw [r2]; grind
end Go.Proofs.YtffnmfcaoldlhaaDoor
