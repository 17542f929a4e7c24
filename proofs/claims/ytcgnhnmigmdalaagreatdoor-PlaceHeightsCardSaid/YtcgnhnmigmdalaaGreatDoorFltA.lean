/- Rounding of floating-point numbers, in plain terms: the word nearest to a number reads as a number at most half a unit of its last place away. No program in sight. What the operations of floating-point numbers answer, up to an error. No program in sight. Quotients and whole numbers in floating point, up to an error. No program in sight. Floating-point numbers made whole: floor, ceiling, cut. No program in sight. The square root in floating point: it answers a number within bounds. No program in sight. -/
import Ieee.Arith
set_option linter.unusedVariables false
set_option linter.unusedSimpArgs false
namespace Go.Proofs.YtcgnhnmigmdalaaGreatDoor
section
open Ieee
/-- A power of two. -/
def p2 (k : Int) : Rat := (2 : Rat) ^ k
theorem p2_add (a b : Int) : p2 (a + b) = p2 a * p2 b := Rat.zpow_add (by decide) a b
theorem p2_nat (n : Nat) : p2 (n : Int) = ((2 ^ n : Nat) : Rat) := by
  unfold p2
  rw [Rat.zpow_natCast]
  push_cast
  rfl
theorem p2_zero : p2 0 = 1 := Rat.zpow_zero _
theorem p2_pos (k : Int) : 0 < p2 k := Rat.zpow_pos (by decide)
theorem p2_mono {a b : Int} (h : a ≤ b) : p2 a ≤ p2 b := by
  obtain ⟨n, rfl⟩ : ∃ n : Nat, b = a + n := ⟨(b - a).toNat, by omega⟩
  rw [p2_add, p2_nat]
  have h1 : (1 : Rat) ≤ ((2 ^ n : Nat) : Rat) := by
    have : 1 ≤ 2 ^ n := Nat.one_le_two_pow
    exact_mod_cast this
  have := Rat.mul_le_mul_of_nonneg_left h1 (Rat.le_of_lt (p2_pos a))
  grind
theorem two_log2_le {n : Nat} (h : n ≠ 0) : 2 ^ n.log2 ≤ n := Nat.log2_self_le h
theorem lt_two_log2 (n : Nat) : n < 2 ^ (n.log2 + 1) := Nat.lt_log2_self
/-- To cut digits to the nearest changes by at most half a unit. -/
theorem cut_even (s : Bool) (n d : Nat) : 2 * n ≤ 2 * (Toward.even.cut s n d * 2 ^ d) + 2 ^ d ∧ 2 * (Toward.even.cut s n d * 2 ^ d) ≤ 2 * n + 2 ^ d := by
  unfold Toward.cut
  by_cases hd : d ≤ n.log2 + 2
  · rw [Nat.min_eq_left hd, Nat.one_shiftLeft]
    dsimp only
    have hm := Nat.div_add_mod n (2 ^ d)
    have hl := Nat.mod_lt n (show 0 < 2 ^ d from Nat.two_pow_pos d)
    generalize n / 2 ^ d = low at *
    generalize n % 2 ^ d = rest at *
    generalize 2 ^ d = gap at *
    cases hb : (decide (gap < 2 * rest) || gap == 2 * rest && low % 2 == 1)
    · simp at hb
      simp only [Bool.toNat_false, Nat.add_zero]
      rw [Nat.mul_comm low gap]
      omega
    · simp at hb
      simp only [Bool.toNat_true]
      rw [Nat.add_mul, Nat.one_mul, Nat.mul_comm low gap]
      omega
  · rw [Nat.min_eq_right (by omega), Nat.one_shiftLeft]
    have h1 := lt_two_log2 n
    have h2 : 2 ^ (n.log2 + 2) = 2 * 2 ^ (n.log2 + 1) := by rw [Nat.pow_succ]; omega
    have h3 : 2 ^ (n.log2 + 2) ≤ 2 ^ d := Nat.pow_le_pow_right (by omega) (by omega)
    have e1 : n / 2 ^ (n.log2 + 2) = 0 := Nat.div_eq_of_lt (by omega)
    have e2 : n % 2 ^ (n.log2 + 2) = n := Nat.mod_eq_of_lt (by omega)
    dsimp only
    rw [e1, e2]
    have e3 : (decide (2 ^ (n.log2 + 2) < 2 * n) || 2 ^ (n.log2 + 2) == 2 * n && 0 % 2 == 1) = false := by simp; omega
    rw [e3]
    simp
    omega
theorem cut_zero (s : Bool) (n : Nat) : Toward.even.cut s n 0 = n := by
  have h := cut_even s n 0
  simp at h
  omega
/-- What a finite word reads as. -/
def Reads (w : Nat) (s : Bool) (m : Nat) (e : Int) : Prop := double.read w = .number s m e
/-- The number of a sign, a magnitude and a place. -/
def rv (s : Bool) (m : Nat) (e : Int) : Rat := (if s then -1 else 1) * ((m : Rat) * p2 e)
def lastOfF (m : Nat) (e : Int) : Int := max (e + m.log2 - 52) (-1074)
theorem read_rung (s : Bool) (L k : Nat) (hL : L ≤ 2000) (hk : k ≤ 2 ^ 53) (hk2 : L = 0 ∨ 2 ^ 52 ≤ k) :
    ∃ m e, Reads (double.word s (min (L * double.binade + k) double.infRung)) s m e ∧ (m : Rat) * p2 e = (k : Rat) * p2 (L - 1074) := by
  have hb : double.binade = 2 ^ 52 := by decide +kernel
  have hi : double.infRung = 2047 * 2 ^ 52 := by decide +kernel
  have hw : double.signWeight = 2 ^ 63 := by decide +kernel
  have hp : double.leastPlace = -1074 := by decide +kernel
  have e52 : (2 : Nat) ^ 52 = 4503599627370496 := by decide
  have e53 : (2 : Nat) ^ 53 = 9007199254740992 := by decide
  have e63 : (2 : Nat) ^ 63 = 9223372036854775808 := by decide
  rw [e53] at hk
  rw [e52] at hk2
  rw [hb, hi, e52, Nat.min_eq_left (by omega)]
  have hsg : double.word s (L * 4503599627370496 + k) / double.signWeight % 2 = (if s then 1 else 0) ∧ double.word s (L * 4503599627370496 + k) % double.signWeight = L * 4503599627370496 + k := by
    unfold Format.word
    rw [hw, e63]
    cases s <;> simp <;> omega
  unfold Reads Format.read
  simp only [hsg.1, hsg.2, hb, hi, hp, e52]
  have hs : ((if s = true then 1 else 0) == 1) = s := by cases s <;> rfl
  rw [hs]
  by_cases h0 : L * 4503599627370496 + k < 4503599627370496
  · rw [if_pos h0]
    have hL0 : L = 0 := by omega
    subst hL0
    exact ⟨_, _, rfl, by simp⟩
  · rw [if_neg h0, if_pos (by omega)]
    refine ⟨_, _, rfl, ?_⟩
    by_cases hc : k = 9007199254740992
    · have e1 : (L * 4503599627370496 + k) % 4503599627370496 = 0 := by omega
      have e2 : (L * 4503599627370496 + k) / 4503599627370496 - 1 = L + 1 := by omega
      rw [e1, e2, hc]
      have e3 : (-1074 : Int) + ((L + 1 : Nat) : Int) = 1 + ((L : Int) - 1074) := by omega
      rw [e3, p2_add]
      have e4 : p2 1 = 2 := by decide +kernel
      rw [e4]
      push_cast
      grind
    · by_cases hk3 : k < 4503599627370496
      · omega
      · have e1 : (L * 4503599627370496 + k) % 4503599627370496 = k - 4503599627370496 := by omega
        have e2 : (L * 4503599627370496 + k) / 4503599627370496 - 1 = L := by omega
        rw [e1, e2]
        have e3 : (-1074 : Int) + (L : Int) = (L : Int) - 1074 := by omega
        have e4 : 4503599627370496 + (k - 4503599627370496) = k := by omega
        rw [e3, e4]
theorem p2_lt_of {a b : Int} (h : p2 a ≤ p2 b) : a ≤ b := by
  by_cases q : a ≤ b
  · exact q
  · have h1 := p2_mono (a := b + 1) (b := a) (by omega)
    rw [p2_add] at h1
    have h2 : p2 1 = 2 := by decide +kernel
    rw [h2] at h1
    have := p2_pos b
    grind
theorem p2_half (k : Int) : 2 * p2 (k - 1) = p2 k := by
  have h := p2_add (k - 1) 1
  rw [show k - 1 + 1 = k by omega] at h
  have h2 : p2 1 = 2 := by decide +kernel
  rw [h2] at h
  grind
theorem cast_le {a b : Nat} (h : a ≤ b) : (a : Rat) ≤ b := by exact_mod_cast h
/-- The word nearest to a number not above 2^K reads as a number at most 2^(K - 53) away. -/
theorem nearest_near (s : Bool) (m : Nat) (e : Int) (K : Nat) (hK : K ≤ 900) (hx : (m : Rat) * p2 e ≤ p2 K) :
    ∃ m' e', Reads (double.nearest s m e) s m' e' ∧ (m' : Rat) * p2 e' ≤ (m : Rat) * p2 e + p2 (K - 53) ∧ (m : Rat) * p2 e ≤ (m' : Rat) * p2 e' + p2 (K - 53) := by
  have hfb : double.fractionBits = 52 := rfl
  have hlp : double.leastPlace = -1074 := by decide +kernel
  unfold Format.nearest
  by_cases hm : m = 0
  · rw [if_pos hm]
    obtain ⟨m', e', h1, h2⟩ := read_rung s 0 0 (by omega) (by omega) (.inl rfl)
    have e0 : min (0 * double.binade + 0) double.infRung = 0 := by simp
    rw [e0] at h1
    refine ⟨m', e', h1, ?_, ?_⟩
    · rw [h2, hm]; have := p2_pos (K - 53); push_cast; grind
    · rw [h2, hm]; have := p2_pos (K - 53); push_cast; grind
  · rw [if_neg hm]
    dsimp only
    have l1 := two_log2_le hm
    have l2 := lt_two_log2 m
    generalize hg : m.log2 = g at *
    have hge : (g : Int) + e ≤ K := by
      refine p2_lt_of ?_
      rw [p2_add, p2_nat]
      have := Rat.mul_le_mul_of_nonneg_right (cast_le l1) (Rat.le_of_lt (p2_pos e))
      grind
    rw [hfb, hlp]
    obtain ⟨last, hlast⟩ : ∃ last, max (e + (g : Int) - (52 : Nat)) (-1074) = last := ⟨_, rfl⟩
    rw [hlast]
    have hl0 : -1074 ≤ last := by omega
    have hl1 : e + g - 52 ≤ last := by omega
    have hl2 : last = -1074 ∨ last = e + g - 52 := by omega
    have hl3 : last ≤ (K : Int) - 52 := by omega
    have hL : (last - -1074).toNat ≤ 2000 := by omega
    have hLc : (((last - -1074).toNat : Nat) : Int) - 1074 = last := by omega
    have err := p2_mono (a := last - 1) (b := (K : Int) - 53) (by omega)
    have half := p2_half last
    have e53 : (2 : Nat) ^ 53 = 9007199254740992 := by decide
    have e52 : (2 : Nat) ^ 52 = 4503599627370496 := by decide
    by_cases hcase : last ≤ e
    · have hd : (last - e).toNat = 0 := by omega
      rw [hd, cut_zero, Nat.shiftLeft_eq]
      obtain ⟨D, hD⟩ : ∃ D : Nat, e - last = D := ⟨(e - last).toNat, by omega⟩
      have hDt : (e - last).toNat = D := by omega
      rw [hDt]
      have hDg : D + g ≤ 52 := by omega
      have k1 : m * 2 ^ D ≤ 2 ^ 53 := by
        have a1 : m * 2 ^ D ≤ 2 ^ (g + 1) * 2 ^ D := Nat.mul_le_mul_right _ (by omega)
        rw [← Nat.pow_add] at a1
        exact Nat.le_trans a1 (Nat.pow_le_pow_right (by omega) (by omega))
      have k2 : (last - -1074).toNat = 0 ∨ 2 ^ 52 ≤ m * 2 ^ D := by
        rcases hl2 with q | q
        · left; omega
        · right
          have a1 : 2 ^ g * 2 ^ D ≤ m * 2 ^ D := Nat.mul_le_mul_right _ l1
          rw [← Nat.pow_add, show g + D = 52 by omega] at a1
          exact a1
      obtain ⟨m', e', r1, r2⟩ := read_rung s _ _ hL k1 k2
      rw [hLc] at r2
      have ev : ((m * 2 ^ D : Nat) : Rat) * p2 last = (m : Rat) * p2 e := by
        rw [show e = (D : Int) + last by omega, p2_add, p2_nat]
        push_cast
        grind
      rw [ev] at r2
      have := p2_pos (K - 53)
      exact ⟨m', e', r1, by rw [r2]; grind, by rw [r2]; grind⟩
    · have hsh : (e - last).toNat = 0 := by omega
      rw [hsh, Nat.shiftLeft_zero]
      obtain ⟨D, hD⟩ : ∃ D : Nat, last - e = D := ⟨(last - e).toNat, by omega⟩
      have hDt : (last - e).toNat = D := by omega
      rw [hDt]
      obtain ⟨c1, c2⟩ := cut_even s m D
      generalize Toward.even.cut s m D = k at *
      have hDg : g ≤ D + 52 := by omega
      have pD := Nat.two_pow_pos D
      have k1 : k ≤ 2 ^ 53 := by
        have a1 : 2 ^ (g + 1) ≤ 2 ^ (D + 53) := Nat.pow_le_pow_right (by omega) (by omega)
        rw [Nat.pow_add 2 D 53] at a1
        have a2 : 2 * k * 2 ^ D < (2 * 2 ^ 53 + 1) * 2 ^ D := by
          rw [Nat.add_mul, Nat.mul_assoc, Nat.mul_assoc, Nat.mul_comm (2 ^ 53), Nat.one_mul]
          omega
        have := Nat.lt_of_mul_lt_mul_right a2
        omega
      have k2 : (last - -1074).toNat = 0 ∨ 2 ^ 52 ≤ k := by
        rcases hl2 with q | q
        · left; omega
        · right
          have a1 : 2 ^ (D + 52) ≤ m := by rw [show D + 52 = g by omega]; exact l1
          rw [Nat.pow_add 2 D 52] at a1
          have a2 : (2 * 2 ^ 52) * 2 ^ D ≤ (2 * k + 1) * 2 ^ D := by
            rw [Nat.add_mul, Nat.mul_assoc, Nat.mul_assoc, Nat.mul_comm (2 ^ 52), Nat.one_mul]
            omega
          have := Nat.le_of_mul_le_mul_right a2 pD
          omega
      obtain ⟨m', e', r1, r2⟩ := read_rung s _ _ hL k1 k2
      rw [hLc] at r2
      have ev : ((2 ^ D : Nat) : Rat) * p2 e = p2 last := by
        rw [show last = (D : Int) + e by omega, p2_add, p2_nat]
      have pe := Rat.le_of_lt (p2_pos e)
      have d1 := Rat.mul_le_mul_of_nonneg_right (cast_le c1) pe
      have d2 := Rat.mul_le_mul_of_nonneg_right (cast_le c2) pe
      simp only [Rat.natCast_add, Rat.natCast_mul] at d1 d2
      have t1 : ((2 : Nat) : Rat) = 2 := rfl
      rw [t1] at d1 d2
      have g1 : (2 * ((k : Rat) * ((2 ^ D : Nat) : Rat)) + ((2 ^ D : Nat) : Rat)) * p2 e = 2 * ((k : Rat) * p2 last) + p2 last := by rw [← ev]; grind
      have g2 : 2 * ((k : Rat) * ((2 ^ D : Nat) : Rat)) * p2 e = 2 * ((k : Rat) * p2 last) := by rw [← ev]; grind
      have g3 : (2 * (m : Rat) + ((2 ^ D : Nat) : Rat)) * p2 e = 2 * ((m : Rat) * p2 e) + p2 last := by rw [← ev]; grind
      rw [g1] at d1
      rw [g2, g3] at d2
      refine ⟨m', e', r1, ?_, ?_⟩
      · rw [r2]; grind
      · rw [r2]; grind
end
section
open Ieee
/-- A word reads as a finite number within e of X. -/
def Ap (w : Nat) (X e : Rat) : Prop := ∃ s m p, Reads w s m p ∧ rv s m p ≤ X + e ∧ X ≤ rv s m p + e
theorem Ap.mono {w : Nat} {X e e' : Rat} (h : Ap w X e) (he : e ≤ e') : Ap w X e' := by
  obtain ⟨s, m, p, h1, h2, h3⟩ := h
  exact ⟨s, m, p, h1, by grind, by grind⟩
theorem Ap.move {w : Nat} {X Y e d : Rat} (h : Ap w X e) (h1 : X ≤ Y + d) (h2 : Y ≤ X + d) : Ap w Y (e + d) := by
  obtain ⟨s, m, p, h3, h4, h5⟩ := h
  exact ⟨s, m, p, h3, by grind, by grind⟩
theorem Ap.pos {w : Nat} {X e : Rat} (h : Ap w X e) : 0 ≤ e := by
  obtain ⟨s, m, p, h3, h4, h5⟩ := h
  grind
theorem rv_neg (s : Bool) (m : Nat) (p : Int) : rv (!s) m p = -rv s m p := by
  unfold rv; cases s <;> simp <;> grind
theorem mp_nonneg (m : Nat) (p : Int) : 0 ≤ (m : Rat) * p2 p := Rat.mul_nonneg (by exact_mod_cast Nat.zero_le m) (Rat.le_of_lt (p2_pos p))
theorem rv_abs (s : Bool) (m : Nat) (p : Int) : (m : Rat) * p2 p = rv s m p ∨ (m : Rat) * p2 p = -rv s m p := by
  unfold rv; cases s
  · left; simp
  · right; simp; grind
/-- A number that is written reads as itself up to half a unit. -/
theorem write_ap {s : Bool} {m : Nat} {p : Int} {X e : Rat} (K : Nat) (hK : K ≤ 900) (h1 : rv s m p ≤ X + e) (h2 : X ≤ rv s m p + e) (hb1 : X + e ≤ p2 K) (hb2 : -p2 K ≤ X - e) : Ap (double.write (.number s m p)) X (e + p2 (K - 53)) := by
  have hx : (m : Rat) * p2 p ≤ p2 K := by
    rcases rv_abs s m p with q | q <;> rw [q] <;> grind
  obtain ⟨m', e', r1, r2, r3⟩ := nearest_near s m p K hK hx
  refine ⟨s, m', e', r1, ?_, ?_⟩
  · unfold rv at h1 h2 ⊢; cases s <;> simp at h1 h2 ⊢ <;> grind
  · unfold rv at h1 h2 ⊢; cases s <;> simp at h1 h2 ⊢ <;> grind
theorem signed_rv (s : Bool) (m : Nat) (i b : Int) (h : b ≤ i) : ((signed s m (i - b).toNat : Int) : Rat) * p2 b = rv s m i := by
  obtain ⟨D, hD⟩ : ∃ D : Nat, i - b = D := ⟨(i - b).toNat, by omega⟩
  have hDt : (i - b).toNat = D := by omega
  rw [hDt]
  unfold signed rv
  rw [show i = (D : Int) + b by omega, p2_add, p2_nat, Nat.shiftLeft_eq]
  cases s
  · simp only [Bool.false_eq_true, if_false]
    push_cast
    grind
  · simp only [if_true]
    push_cast
    grind
theorem total_rv (t : Int) (b : Int) (s : Bool) (hs : t ≠ 0 → s = decide (t < 0)) : rv s t.natAbs b = (t : Rat) * p2 b := by
  by_cases h0 : t = 0
  · subst h0; unfold rv; simp
  · rw [hs h0]
    unfold rv
    by_cases hn : t < 0
    · have e : ((t.natAbs : Nat) : Int) = -t := by omega
      have e2 : ((t.natAbs : Nat) : Rat) = -(t : Rat) := by
        have := congrArg (fun z : Int => (z : Rat)) e
        push_cast at this
        exact this
      rw [e2]
      simp [hn]
      grind
    · have e : ((t.natAbs : Nat) : Int) = t := by omega
      have e2 : ((t.natAbs : Nat) : Rat) = (t : Rat) := by
        have := congrArg (fun z : Int => (z : Rat)) e
        push_cast at this
        exact this
      rw [e2]
      simp [hn]
theorem sum_number (s : Bool) (m : Nat) (i : Int) (t : Bool) (n : Nat) (j : Int) : ∃ u k b, Datum.sum (.number s m i) (.number t n j) = some (.number u k b) ∧ rv u k b = rv s m i + rv t n j := by
  unfold Datum.sum
  dsimp only
  refine ⟨_, _, _, rfl, ?_⟩
  rw [total_rv]
  · push_cast
    rw [Rat.add_mul, signed_rv s m i _ (by omega), signed_rv t n j _ (by omega)]
  · intro h
    rw [if_neg h]
theorem add_ap {x y : Nat} {X Y a b : Rat} (K : Nat) (hK : K ≤ 900) (hx : Ap x X a) (hy : Ap y Y b) (hb1 : X + Y + (a + b) ≤ p2 K) (hb2 : -p2 K ≤ X + Y - (a + b)) : ∃ r, double.add x y = some r ∧ Ap r (X + Y) (a + b + p2 (K - 53)) := by
  obtain ⟨s, m, i, h1, h2, h3⟩ := hx
  obtain ⟨t, n, j, g1, g2, g3⟩ := hy
  obtain ⟨u, k, c, e1, e2⟩ := sum_number s m i t n j
  unfold Reads at h1 g1
  refine ⟨double.write (.number u k c), ?_, ?_⟩
  · unfold Format.add; rw [h1, g1, e1]; rfl
  · exact write_ap K hK (by rw [e2]; grind) (by rw [e2]; grind) hb1 hb2
theorem sub_ap {x y : Nat} {X Y a b : Rat} (K : Nat) (hK : K ≤ 900) (hx : Ap x X a) (hy : Ap y Y b) (hb1 : X - Y + (a + b) ≤ p2 K) (hb2 : -p2 K ≤ X - Y - (a + b)) : ∃ r, double.sub x y = some r ∧ Ap r (X - Y) (a + b + p2 (K - 53)) := by
  obtain ⟨s, m, i, h1, h2, h3⟩ := hx
  obtain ⟨t, n, j, g1, g2, g3⟩ := hy
  obtain ⟨u, k, c, e1, e2⟩ := sum_number s m i (!t) n j
  rw [rv_neg] at e2
  unfold Reads at h1 g1
  refine ⟨double.write (.number u k c), ?_, ?_⟩
  · unfold Format.sub; rw [h1, g1]; show Option.map _ (Datum.sum _ (.number (!t) n j)) = _; rw [e1]; rfl
  · exact write_ap K hK (by rw [e2]; grind) (by rw [e2]; grind) hb1 hb2
theorem rv_mul (s t : Bool) (m n : Nat) (i j : Int) : rv (s ^^ t) (m * n) (i + j) = rv s m i * rv t n j := by
  unfold rv
  rw [p2_add]
  cases s <;> cases t <;> simp <;> push_cast <;> grind
/-- The product of two numbers that are near to two others. -/
theorem prod_near {x y X Y a b A B : Rat} (h1 : x ≤ X + a) (h2 : X ≤ x + a) (g1 : y ≤ Y + b) (g2 : Y ≤ y + b) (hA1 : X ≤ A) (hA2 : -A ≤ X) (hB1 : Y ≤ B) (hB2 : -B ≤ Y) : x * y ≤ X * Y + (A * b + B * a + a * b) ∧ X * Y ≤ x * y + (A * b + B * a + a * b) := by
  have key : ∀ (u v c d : Rat), -c ≤ u → u ≤ c → -d ≤ v → v ≤ d → u * v ≤ c * d ∧ -(c * d) ≤ u * v := by
    intro u v c d u1 u2 v1 v2
    have p1 := Rat.mul_nonneg (show 0 ≤ c - u by grind) (show 0 ≤ d + v by grind)
    have p2 := Rat.mul_nonneg (show 0 ≤ c + u by grind) (show 0 ≤ d - v by grind)
    have p3 := Rat.mul_nonneg (show 0 ≤ c - u by grind) (show 0 ≤ d - v by grind)
    have p4 := Rat.mul_nonneg (show 0 ≤ c + u by grind) (show 0 ≤ d + v by grind)
    constructor <;> grind
  have k1 := key X (y - Y) A b hA2 hA1 (by grind) (by grind)
  have k2 := key (x - X) Y a B (by grind) (by grind) hB2 hB1
  have k3 := key (x - X) (y - Y) a b (by grind) (by grind) (by grind) (by grind)
  have e : x * y = X * Y + X * (y - Y) + (x - X) * Y + (x - X) * (y - Y) := by grind
  rw [e]
  constructor <;> grind
theorem mul_ap {x y : Nat} {X Y a b : Rat} (A B : Rat) (K : Nat) (hK : K ≤ 900) (hx : Ap x X a) (hy : Ap y Y b) (hA1 : X ≤ A) (hA2 : -A ≤ X) (hB1 : Y ≤ B) (hB2 : -B ≤ Y) (hb : A * B + (A * b + B * a + a * b) ≤ p2 K) : ∃ r, double.mul x y = some r ∧ Ap r (X * Y) (A * b + B * a + a * b + p2 (K - 53)) := by
  obtain ⟨s, m, i, h1, h2, h3⟩ := hx
  obtain ⟨t, n, j, g1, g2, g3⟩ := hy
  obtain ⟨k1, k2⟩ := prod_near h2 h3 g2 g3 hA1 hA2 hB1 hB2
  have e2 := rv_mul s t m n i j
  unfold Reads at h1 g1
  have z := prod_near (x := X) (y := Y) (X := 0) (Y := 0) (a := A) (b := B) (A := 0) (B := 0) (by grind) (by grind) (by grind) (by grind) (by grind) (by grind) (by grind) (by grind)
  refine ⟨double.write (.number (s ^^ t) (m * n) (i + j)), ?_, ?_⟩
  · unfold Format.mul; rw [h1, g1]; rfl
  · exact write_ap K hK (by rw [e2]; exact k1) (by rw [e2]; exact k2) (by grind) (by grind)
end
section
open Ieee
/-- The word of a whole number reads as it, up to half a unit. -/
theorem nearest_ap (n : Int) (K : Nat) (hK : K ≤ 900) (h1 : (n : Rat) ≤ p2 K) (h2 : -p2 K ≤ (n : Rat)) : Ap (double.nearest (decide (n < 0)) n.natAbs 0) (n : Rat) (p2 (K - 53)) := by
  have e := total_rv n 0 (decide (n < 0)) (fun _ => rfl)
  rw [p2_zero, Rat.mul_one] at e
  have h := write_ap (s := decide (n < 0)) (m := n.natAbs) (p := 0) (X := n) (e := 0) K hK (by rw [e]; grind) (by rw [e]; grind) (by grind) (by grind)
  have z : (0 : Rat) + p2 (K - 53) = p2 (K - 53) := by grind
  rw [z] at h
  exact h
theorem quo_mag {m n more : Nat} (hn : n ≠ 0) : ∃ q : Rat, q * (n : Rat) = (m : Rat) * ((2 ^ more : Nat) : Rat) ∧ ((2 * (m <<< more / n) + (m <<< more % n != 0).toNat : Nat) : Rat) ≤ 2 * q + 1 ∧ 2 * q ≤ ((2 * (m <<< more / n) + (m <<< more % n != 0).toNat : Nat) : Rat) + 1 := by
  have hn0 : (n : Rat) ≠ 0 := by exact_mod_cast hn
  have hp : (0 : Rat) < (n : Rat) := by exact_mod_cast Nat.pos_of_ne_zero hn
  refine ⟨(m : Rat) * ((2 ^ more : Nat) : Rat) / n, Rat.div_mul_cancel hn0, ?_⟩
  rw [Nat.shiftLeft_eq]
  have hd := Nat.div_add_mod (m * 2 ^ more) n
  have hl := Nat.mod_lt (m * 2 ^ more) (Nat.pos_of_ne_zero hn)
  have hd' : (n : Rat) * ((m * 2 ^ more / n : Nat) : Rat) + ((m * 2 ^ more % n : Nat) : Rat) = (m : Rat) * ((2 ^ more : Nat) : Rat) := by
    have := congrArg (fun z : Nat => (z : Rat)) hd
    push_cast at this ⊢
    exact this
  have hl' : ((m * 2 ^ more % n : Nat) : Rat) + 1 ≤ (n : Rat) := by exact_mod_cast hl
  have hz : (0 : Rat) ≤ ((m * 2 ^ more % n : Nat) : Rat) := by exact_mod_cast Nat.zero_le _
  have i := Rat.mul_inv_cancel (n : Rat) hn0
  have ip : (0 : Rat) < (n : Rat)⁻¹ := Rat.inv_pos.2 hp
  rw [← hd', Rat.div_def]
  push_cast
  have e : ((n : Rat) * ((m * 2 ^ more / n : Nat) : Rat) + ((m * 2 ^ more % n : Nat) : Rat)) * (n : Rat)⁻¹ = ((m * 2 ^ more / n : Nat) : Rat) + ((m * 2 ^ more % n : Nat) : Rat) * (n : Rat)⁻¹ := by grind
  rw [e]
  have b0 : 0 ≤ ((m * 2 ^ more % n : Nat) : Rat) * (n : Rat)⁻¹ := Rat.mul_nonneg hz (Rat.le_of_lt ip)
  have b1 : ((m * 2 ^ more % n : Nat) : Rat) * (n : Rat)⁻¹ ≤ 1 := by
    have := Rat.mul_le_mul_of_nonneg_right (show ((m * 2 ^ more % n : Nat) : Rat) ≤ (n : Rat) by grind) (Rat.le_of_lt ip)
    grind
  by_cases h0 : m * 2 ^ more % n = 0
  · rw [h0] at b0 b1 ⊢
    simp
    generalize ((m * 2 ^ more / n : Nat) : Rat) = z at *
    have c0 : ((0 : Nat) : Rat) = 0 := rfl
    constructor <;> grind
  · have t : (m * 2 ^ more % n != 0) = true := by simp [h0]
    rw [t]
    generalize ((m * 2 ^ more % n : Nat) : Rat) * (n : Rat)⁻¹ = r at *
    generalize ((m * 2 ^ more / n : Nat) : Rat) = z at *
    have c1 : ((true.toNat : Nat) : Rat) = 1 := rfl
    rw [c1]
    constructor <;> grind
theorem rv_div {s t : Bool} {m n : Nat} {i j : Int} (q : Rat) (more : Nat) (hn : n ≠ 0) (hq : q * (n : Rat) = (m : Rat) * ((2 ^ more : Nat) : Rat)) :
    rv s m i / rv t n j = (if s ^^ t then -1 else 1) * (2 * q * p2 (i - j - more - 1)) := by
  have hn0 : (n : Rat) ≠ 0 := by exact_mod_cast hn
  have e1 : p2 i = p2 (i - j - more - 1) * 2 * ((2 ^ more : Nat) : Rat) * p2 j := by
    have a : i = (i - j - more - 1) + 1 + more + j := by omega
    have two : p2 1 = 2 := by decide +kernel
    have b : p2 ((i - j - more - 1) + 1 + more + j) = p2 (i - j - more - 1) * 2 * ((2 ^ more : Nat) : Rat) * p2 j := by rw [p2_add, p2_add, p2_add, two, p2_nat]
    rw [← a] at b
    exact b
  have pj := p2_pos j
  have nz : rv t n j ≠ 0 := by
    unfold rv
    have : (n : Rat) * p2 j ≠ 0 := by
      intro h
      rcases Rat.mul_eq_zero.1 h with h | h
      · exact hn0 h
      · grind
    cases t <;> simp <;> grind
  have key : rv s m i = (if s ^^ t then -1 else 1) * (2 * q * p2 (i - j - more - 1)) * rv t n j := by
    unfold rv
    rw [e1]
    generalize p2 (i - j - more - 1) = z at *
    have : q * (n : Rat) * (2 * z * p2 j) = (m : Rat) * ((2 ^ more : Nat) : Rat) * (2 * z * p2 j) := by rw [hq]
    cases s <;> cases t <;> simp <;> grind
  rw [key, Rat.div_def]
  have := Rat.mul_inv_cancel _ nz
  grind
theorem div_val {x y : Nat} {s t : Bool} {m n : Nat} {i j : Int} (K : Nat) (hK : K ≤ 900) (hx : Reads x s m i) (hy : Reads y t n j) (hn : n ≠ 0) (h1 : rv s m i / rv t n j + p2 (K - 54) ≤ p2 K) (h2 : -p2 K ≤ rv s m i / rv t n j - p2 (K - 54)) :
    ∃ r, double.div x y = some r ∧ Ap r (rv s m i / rv t n j) (p2 (K - 54) + p2 (K - 53)) := by
  unfold Reads at hx hy
  have hfb : double.fractionBits = 52 := rfl
  obtain ⟨more, hmore⟩ : ∃ more, 52 + 2 + n.log2 - m.log2 = more := ⟨_, rfl⟩
  obtain ⟨q, q1, q2, q3⟩ := quo_mag (m := m) (n := n) (more := more) hn
  have ev := rv_div (s := s) (t := t) (i := i) (j := j) q more hn q1
  refine ⟨double.write (.number (s ^^ t) (2 * (m <<< more / n) + (m <<< more % n != 0).toNat) (i - j - more - 1)), ?_, ?_⟩
  · unfold Format.div
    rw [hx, hy, hfb]
    unfold Datum.quotient
    dsimp only
    rw [if_neg hn, hmore]
    rfl
  · have g0 : m = 0 → 2 * (m <<< more / n) + (m <<< more % n != 0).toNat = 0 := by
      intro h
      subst h
      simp
    generalize 2 * (m <<< more / n) + (m <<< more % n != 0).toNat = g at *
    have hp := p2_pos (i - j - more - 1)
    have hK' : p2 (i - j - more - 1) ≤ p2 (K - 54) ∨ m = 0 := by
      by_cases hm : m = 0
      · exact .inr hm
      · left
        refine p2_mono ?_
        have l1 := two_log2_le hm
        have l2 := lt_two_log2 n
        have c1 : (2 ^ (n.log2 + 1) * 2 ^ 53 : Nat) ≤ m * 2 ^ more := by
          rw [← Nat.pow_add]
          refine Nat.le_trans ?_ (Nat.mul_le_mul_right _ l1)
          rw [← Nat.pow_add]
          exact Nat.pow_le_pow_right (by omega) (by omega)
        have c2 : ((2 ^ 53 : Nat) : Rat) ≤ q := by
          have a1 : ((n * 2 ^ 53 : Nat) : Rat) ≤ q * n := by
            rw [q1]
            have : n * 2 ^ 53 ≤ m * 2 ^ more := Nat.le_trans (Nat.mul_le_mul_right _ (by omega)) c1
            have := cast_le this
            push_cast at this ⊢
            exact this
          have hp : (0 : Rat) < (n : Rat) := by exact_mod_cast Nat.pos_of_ne_zero hn
          refine Rat.le_of_mul_le_mul_right ?_ hp
          push_cast at a1 ⊢
          grind
        have c3 : ((2 ^ 53 : Nat) : Rat) * p2 (i - j - more) ≤ p2 K := by
          have a1 := Rat.mul_le_mul_of_nonneg_right c2 (Rat.le_of_lt (p2_pos (i - j - more)))
          have a2 := p2_half (i - j - more)
          have a3 := p2_pos (K - 54)
          have a4 : 2 * q * p2 (i - j - more - 1) = q * p2 (i - j - more) := by rw [← a2]; grind
          rw [ev, a4] at h1 h2
          cases hst : (s ^^ t) <;> rw [hst] at h1 h2 <;> simp at h1 h2 <;> grind
        rw [← p2_nat, ← p2_add] at c3
        have := p2_lt_of c3
        omega
    have er : rv (s ^^ t) g (i - j - more - 1) ≤ rv s m i / rv t n j + p2 (K - 54) ∧ rv s m i / rv t n j ≤ rv (s ^^ t) g (i - j - more - 1) + p2 (K - 54) := by
      rcases hK' with hK' | hm
      · have b1 := Rat.mul_le_mul_of_nonneg_right q2 (Rat.le_of_lt hp)
        have b2 := Rat.mul_le_mul_of_nonneg_right q3 (Rat.le_of_lt hp)
        rw [ev]
        unfold rv
        cases hst : (s ^^ t) <;> simp <;> constructor <;> grind
      · have q0 : q = 0 := by
          subst hm
          have hn0 : (n : Rat) ≠ 0 := by exact_mod_cast hn
          have z : q * (n : Rat) = 0 := by rw [q1]; simp
          rcases Rat.mul_eq_zero.1 z with h | h
          · exact h
          · exact absurd h hn0
        have pk := p2_pos (K - 54)
        rw [ev, q0, g0 hm]
        unfold rv
        cases hst : (s ^^ t) <;> simp <;> grind
    exact write_ap K hK er.1 er.2 h1 h2
end
section
open Ieee
/-- To cut digits downwards. -/
theorem cut_is (way : Toward) (s : Bool) (n d : Nat) (hw : way ≠ .even) : way.cut s n d = n / 2 ^ d + (match way with | .down => s && n % 2 ^ d != 0 | .up => !s && n % 2 ^ d != 0 | _ => false).toNat := by
  unfold Toward.cut
  by_cases hd : d ≤ n.log2 + 2
  · rw [Nat.min_eq_left hd, Nat.one_shiftLeft]
    cases way <;> first | (exact absurd rfl hw) | rfl
  · rw [Nat.min_eq_right (by omega), Nat.one_shiftLeft]
    have h1 := lt_two_log2 n
    have h2 : 2 ^ (n.log2 + 2) = 2 * 2 ^ (n.log2 + 1) := by rw [Nat.pow_succ]; omega
    have h3 : 2 ^ (n.log2 + 2) ≤ 2 ^ d := Nat.pow_le_pow_right (by omega) (by omega)
    have e1 : n / 2 ^ (n.log2 + 2) = 0 := Nat.div_eq_of_lt (by omega)
    have e2 : n % 2 ^ (n.log2 + 2) = n := Nat.mod_eq_of_lt (by omega)
    have e3 : n / 2 ^ d = 0 := Nat.div_eq_of_lt (by omega)
    have e4 : n % 2 ^ d = n := Nat.mod_eq_of_lt (by omega)
    dsimp only
    rw [e1, e2, e3, e4]
    cases way <;> first | (exact absurd rfl hw) | rfl
theorem shift_rv (s : Bool) (m : Nat) (p : Int) : rv s m p * ((2 ^ (-p).toNat : Nat) : Rat) = (if s then -1 else 1) * ((m <<< p.toNat : Nat) : Rat) := by
  unfold rv
  rw [Nat.shiftLeft_eq]
  by_cases h : 0 ≤ p
  · obtain ⟨n, rfl⟩ : ∃ n : Nat, p = n := ⟨p.toNat, by omega⟩
    have e1 : (-(n : Int)).toNat = 0 := by omega
    have e2 : ((n : Int)).toNat = n := by omega
    rw [e1, e2, p2_nat]
    push_cast
    cases s <;> simp <;> grind
  · obtain ⟨n, rfl⟩ : ∃ n : Nat, p = -(n : Int) := ⟨(-p).toNat, by omega⟩
    have e1 : (- -(n : Int)).toNat = n := by omega
    have e2 : (-(n : Int)).toNat = 0 := by omega
    rw [e1, e2, ← p2_nat]
    have e3 : p2 (-(n : Int)) * p2 (n : Int) = 1 := by rw [← p2_add, show -(n : Int) + n = 0 by omega, p2_zero]
    push_cast
    cases s <;> simp <;> grind
/-- A number made whole downwards, upwards, towards nought. -/
theorem integral_down (s : Bool) (m : Nat) (p : Int) : ∃ k : Nat, Datum.integral .down (.number s m p) = .number s k 0 ∧ ((signed s k 0 : Int) : Rat) ≤ rv s m p ∧ rv s m p < ((signed s k 0 : Int) : Rat) + 1 := by
  refine ⟨_, rfl, ?_⟩
  rw [cut_is _ _ _ _ (by decide)]
  have h := shift_rv s m p
  have hd := Nat.div_add_mod (m <<< p.toNat) (2 ^ (-p).toNat)
  have hl := Nat.mod_lt (m <<< p.toNat) (Nat.two_pow_pos (-p).toNat)
  have hp := Nat.two_pow_pos (-p).toNat
  generalize m <<< p.toNat = n at *
  generalize 2 ^ (-p).toNat = g at *
  have hd' : (n : Rat) = (g : Rat) * ((n / g : Nat) : Rat) + ((n % g : Nat) : Rat) := by
    have := congrArg (fun z : Nat => (z : Rat)) hd
    push_cast at this
    exact this.symm
  have hl' : ((n % g : Nat) : Rat) + 1 ≤ (g : Rat) := by exact_mod_cast hl
  have hz : (0 : Rat) ≤ ((n % g : Nat) : Rat) := by exact_mod_cast Nat.zero_le _
  have gp : (0 : Rat) < (g : Rat) := by exact_mod_cast hp
  have cancel : ∀ {s t : Rat}, s * (g : Rat) ≤ t * (g : Rat) → s ≤ t := fun h => Rat.le_of_mul_le_mul_right h gp
  have cancel' : ∀ {s t : Rat}, s * (g : Rat) < t * (g : Rat) → s < t := fun h => Rat.lt_of_mul_lt_mul_right h (Rat.le_of_lt gp)
  rw [hd'] at h
  generalize n / g = q at *
  unfold signed
  cases s
  · simp at h ⊢
    constructor
    · refine cancel ?_; rw [h]; push_cast; grind
    · refine cancel' ?_; rw [h]; push_cast; grind
  · by_cases h0 : n % g = 0
    · rw [h0] at h
      simp [h0] at h ⊢
      constructor
      · refine cancel ?_; rw [h]; push_cast; grind
      · refine cancel' ?_; rw [h]; push_cast; grind
    · have h1 : (1 : Rat) ≤ ((n % g : Nat) : Rat) := by exact_mod_cast Nat.pos_of_ne_zero h0
      have t : (n % g != 0) = true := by simp [h0]
      dsimp only
      rw [t]
      simp at h ⊢
      constructor
      · refine cancel ?_; rw [h]; push_cast; grind
      · refine cancel' ?_; rw [h]; push_cast; grind
theorem integral_up (s : Bool) (m : Nat) (p : Int) : ∃ k : Nat, Datum.integral .up (.number s m p) = .number s k 0 ∧ rv s m p ≤ ((signed s k 0 : Int) : Rat) ∧ ((signed s k 0 : Int) : Rat) < rv s m p + 1 := by
  refine ⟨_, rfl, ?_⟩
  rw [cut_is _ _ _ _ (by decide)]
  have h := shift_rv s m p
  have hd := Nat.div_add_mod (m <<< p.toNat) (2 ^ (-p).toNat)
  have hl := Nat.mod_lt (m <<< p.toNat) (Nat.two_pow_pos (-p).toNat)
  have hp := Nat.two_pow_pos (-p).toNat
  generalize m <<< p.toNat = n at *
  generalize 2 ^ (-p).toNat = g at *
  have hd' : (n : Rat) = (g : Rat) * ((n / g : Nat) : Rat) + ((n % g : Nat) : Rat) := by
    have := congrArg (fun z : Nat => (z : Rat)) hd
    push_cast at this
    exact this.symm
  have hl' : ((n % g : Nat) : Rat) + 1 ≤ (g : Rat) := by exact_mod_cast hl
  have hz : (0 : Rat) ≤ ((n % g : Nat) : Rat) := by exact_mod_cast Nat.zero_le _
  have gp : (0 : Rat) < (g : Rat) := by exact_mod_cast hp
  have cancel : ∀ {s t : Rat}, s * (g : Rat) ≤ t * (g : Rat) → s ≤ t := fun h => Rat.le_of_mul_le_mul_right h gp
  have cancel' : ∀ {s t : Rat}, s * (g : Rat) < t * (g : Rat) → s < t := fun h => Rat.lt_of_mul_lt_mul_right h (Rat.le_of_lt gp)
  rw [hd'] at h
  generalize n / g = q at *
  unfold signed
  have e0 : (rv s m p + 1) * (g : Rat) = rv s m p * (g : Rat) + g := by grind
  cases s
  · by_cases h0 : n % g = 0
    · rw [h0] at h
      simp [h0] at h ⊢
      constructor
      · refine cancel ?_; rw [h]; push_cast; grind
      · refine cancel' ?_; rw [e0, h]; push_cast; grind
    · have h1 : (1 : Rat) ≤ ((n % g : Nat) : Rat) := by exact_mod_cast Nat.pos_of_ne_zero h0
      have t : (n % g != 0) = true := by simp [h0]
      dsimp only
      rw [t]
      simp at h ⊢
      constructor
      · refine cancel ?_; rw [h]; push_cast; grind
      · refine cancel' ?_; rw [e0, h]; push_cast; grind
  · simp at h ⊢
    constructor
    · refine cancel ?_; rw [h]; push_cast; grind
    · refine cancel' ?_; rw [e0, h]; push_cast; grind
/-- What a number is cut to that is not below nought. -/
theorem toInt_pos (m : Nat) (p : Int) : ∃ k : Nat, Datum.toInt .zero (.number false m p) = some (k : Int) ∧ (k : Rat) ≤ rv false m p ∧ rv false m p < (k : Rat) + 1 := by
  obtain ⟨k, h1, h2, h3⟩ := integral_down false m p
  have hk : ((signed false k 0 : Int) : Rat) = (k : Rat) := by
    have : signed false k 0 = (k : Int) := by simp [signed]
    rw [this]; rfl
  rw [hk] at h2 h3
  have e : Datum.integral .zero (.number false m p) = Datum.integral .down (.number false m p) := by
    show Datum.number _ _ _ = Datum.number _ _ _
    rw [cut_is _ _ _ _ (by decide), cut_is _ _ _ _ (by decide)]
    rfl
  refine ⟨k, ?_, ?_, ?_⟩
  · unfold Datum.toInt
    rw [e, h1]
    simp [signed]
  · exact h2
  · exact h3
/-- A whole number of at most 53 digits is written without an error. -/
theorem write_whole (s : Bool) (k : Nat) (hk : k < 2 ^ 53) : ∃ m p, Reads (double.write (.number s k 0)) s m p ∧ rv s m p = rv s k 0 := by
  show ∃ m p, Reads (double.nearest s k 0) s m p ∧ _
  have hfb : double.fractionBits = 52 := rfl
  have hlp : double.leastPlace = -1074 := by decide +kernel
  unfold Format.nearest
  by_cases hm : k = 0
  · rw [if_pos hm]
    obtain ⟨m', e', h1, h2⟩ := read_rung s 0 0 (by omega) (by omega) (.inl rfl)
    have e0 : min (0 * double.binade + 0) double.infRung = 0 := by simp
    rw [e0] at h1
    refine ⟨m', e', h1, ?_⟩
    unfold rv
    rw [h2, hm]
    push_cast
    cases s <;> simp <;> grind
  · rw [if_neg hm]
    dsimp only
    have l1 := two_log2_le hm
    have l2 := lt_two_log2 k
    generalize hg : k.log2 = g at *
    have hg52 : g < 53 := by
      by_cases q : g < 53
      · exact q
      · have := Nat.pow_le_pow_right (show 0 < 2 by omega) (show 53 ≤ g by omega)
        omega
    rw [hfb, hlp]
    obtain ⟨last, hlast⟩ : ∃ last, max (0 + (g : Int) - (52 : Nat)) (-1074) = last := ⟨_, rfl⟩
    rw [hlast]
    obtain ⟨D, hD⟩ : ∃ D : Nat, 0 - last = D := ⟨(0 - last).toNat, by omega⟩
    have hDt : (0 - last).toNat = D := by omega
    have hd : (last - 0).toNat = 0 := by omega
    rw [hd, cut_zero, Nat.shiftLeft_eq, hDt]
    have k1 : k * 2 ^ D ≤ 2 ^ 53 := by
      have a1 : k * 2 ^ D ≤ 2 ^ (g + 1) * 2 ^ D := Nat.mul_le_mul_right _ (by omega)
      rw [← Nat.pow_add] at a1
      exact Nat.le_trans a1 (Nat.pow_le_pow_right (by omega) (by omega))
    have k2 : (last - -1074).toNat = 0 ∨ 2 ^ 52 ≤ k * 2 ^ D := by
      right
      have a1 : 2 ^ g * 2 ^ D ≤ k * 2 ^ D := Nat.mul_le_mul_right _ l1
      rw [← Nat.pow_add, show g + D = 52 by omega] at a1
      exact a1
    obtain ⟨m', e', r1, r2⟩ := read_rung s _ _ (by omega) k1 k2
    refine ⟨m', e', r1, ?_⟩
    have hLc : (((last - -1074).toNat : Nat) : Int) - 1074 = last := by omega
    rw [hLc] at r2
    have ev : ((k * 2 ^ D : Nat) : Rat) * p2 last = (k : Rat) * p2 0 := by
      rw [show (0 : Int) = (D : Int) + last by omega, p2_add, p2_nat]
      push_cast
      grind
    unfold rv
    rw [r2, ev]
end
section
open Ieee
theorem rootFrom_le (n : Nat) : ∀ todo root, root * root ≤ n → Datum.rootFrom n todo root * Datum.rootFrom n todo root ≤ n
  | 0, root, h => h
  | todo + 1, root, h => by
    unfold Datum.rootFrom
    refine rootFrom_le n todo _ ?_
    split
    · assumption
    · exact h
theorem sqrt_ok {x m : Nat} {i : Int} (hx : Reads x false m i) (h : rv false m i ≤ p2 62) : ∃ r, double.sqrt x = some r ∧ ∃ m' p', Reads r false m' p' ∧ rv false m' p' ≤ p2 33 := by
  unfold Reads at hx
  have hfb : double.fractionBits + 2 = 54 := rfl
  have w33 : p2 32 + p2 (((32 : Nat) : Int) - 53) ≤ p2 33 := by decide +kernel
  unfold Format.sqrt
  rw [hx, hfb]
  unfold Datum.root
  dsimp only
  by_cases hm : m = 0
  · rw [if_pos hm]
    refine ⟨_, rfl, ?_⟩
    subst hm
    obtain ⟨m', p', h1, h2, _⟩ := nearest_near false 0 i 32 (by omega) (by have := p2_pos (((32 : Nat) : Int)); push_cast; grind)
    refine ⟨m', p', h1, ?_⟩
    have := p2_pos 32
    unfold rv
    simp only [Bool.false_eq_true, if_false]
    push_cast at h2
    grind
  · rw [if_neg hm]
    simp only [Bool.false_eq_true, if_false]
    refine ⟨_, rfl, ?_⟩
    generalize 2 * 54 - m.log2 = more1
    generalize hmore : more1 + ((i - (more1 : Int)) % 2).toNat = more
    have hev : 2 * ((i - (more : Int)) / 2) = i - more := by omega
    generalize hE : (i - (more : Int)) / 2 = E at *
    have hroot := rootFrom_le (m <<< more) ((m <<< more).log2 / 2 + 1) 0 (by simp)
    generalize Datum.rootFrom (m <<< more) ((m <<< more).log2 / 2 + 1) 0 = w at *
    rw [Nat.shiftLeft_eq] at *
    have pE := p2_pos E
    have hpi : p2 i = ((2 ^ more : Nat) : Rat) * (p2 E * p2 E) := by
      rw [← p2_nat, ← p2_add, ← p2_add]
      congr 1
      omega
    have hv : (m : Rat) * p2 i ≤ p2 62 := by unfold rv at h; simp at h; grind
    have hsq : ((w : Rat) * p2 E) * ((w : Rat) * p2 E) ≤ p2 62 := by
      have a1 := cast_le hroot
      push_cast at a1
      have a2 := Rat.mul_le_mul_of_nonneg_right a1 (Rat.mul_nonneg (Rat.le_of_lt pE) (Rat.le_of_lt pE))
      rw [hpi] at hv
      push_cast at hv
      grind
    have hE31 : E ≤ 31 := by
      have a1 : (1 : Rat) ≤ (m : Rat) := by exact_mod_cast Nat.pos_of_ne_zero hm
      have a2 : (1 : Rat) ≤ ((2 ^ more : Nat) : Rat) := by exact_mod_cast Nat.one_le_two_pow
      have a3 : p2 E * p2 E ≤ p2 62 := by
        rw [hpi] at hv
        have b0 := Rat.mul_nonneg (Rat.le_of_lt pE) (Rat.le_of_lt pE)
        have b1 := Rat.mul_le_mul_of_nonneg_right a2 b0
        have b2 := Rat.mul_le_mul_of_nonneg_right a1 (show 0 ≤ ((2 ^ more : Nat) : Rat) * (p2 E * p2 E) by grind)
        grind
      rw [← p2_add] at a3
      have := p2_lt_of a3
      omega
    have hw31 : (w : Rat) * p2 E ≤ p2 31 := by
      by_cases q : (w : Rat) * p2 E ≤ p2 31
      · exact q
      · have e62 : p2 31 * p2 31 = p2 62 := by rw [← p2_add]; rfl
        have p31 := p2_pos 31
        have := Rat.mul_lt_mul_of_pos_left (show p2 31 < (w : Rat) * p2 E by grind) p31
        have b := Rat.mul_le_mul_of_nonneg_right (show p2 31 ≤ (w : Rat) * p2 E by grind) (show 0 ≤ (w : Rat) * p2 E by grind)
        grind
    have hE1 : p2 (E - 1) ≤ p2 30 := p2_mono (by omega)
    have half := p2_half E
    obtain ⟨b, hb, hb1⟩ : ∃ b : Nat, (w * w != m * 2 ^ more).toNat = b ∧ b ≤ 1 := ⟨_, rfl, by cases (w * w != m * 2 ^ more) <;> simp⟩
    rw [hb]
    have hbR : (b : Rat) ≤ 1 := by exact_mod_cast hb1
    have num : p2 31 + p2 30 ≤ p2 32 := by decide +kernel
    have hbd : ((2 * w + b : Nat) : Rat) * p2 (E - 1) ≤ p2 ((32 : Nat) : Int) := by
      have c1 := Rat.mul_le_mul_of_nonneg_right hbR (Rat.le_of_lt (p2_pos (E - 1)))
      push_cast
      have : ((32 : Nat) : Int) = 32 := rfl
      have c2 : (2 * (w : Rat) + (b : Rat)) * p2 (E - 1) = (w : Rat) * (2 * p2 (E - 1)) + (b : Rat) * p2 (E - 1) := by grind
      rw [c2, half]
      grind
    obtain ⟨m', p', h1, h2, _⟩ := nearest_near false (2 * w + b) (E - 1) 32 (by omega) hbd
    refine ⟨m', p', h1, ?_⟩
    unfold rv
    simp only [Bool.false_eq_true, if_false]
    have : ((32 : Nat) : Int) = 32 := rfl
    rw [this] at hbd
    grind
end
end Go.Proofs.YtcgnhnmigmdalaaGreatDoor
