/- Consequences of the addition theorems: differences, signs, slopes. No program in sight. -/
import Derived.Test.YtffnmfcaoldlhaaDoorPlainAdd
import Derived.Test.YtffnmfcaoldlhaaDoorFltE
set_option linter.unusedVariables false
set_option linter.unusedSimpArgs false
namespace Go.Proofs.YtffnmfcaoldlhaaDoor
theorem SC_bd {y : Rat} (hy : rabs y ≤ 32/5) : rabs (S y) ≤ 1 + 1 / 100000000000 ∧ rabs (C y) ≤ 1 + 1 / 100000000000 := by
  have := bd64 hy
  exact ⟨rabs_le.2 ⟨this.1.1, this.1.2⟩, rabs_le.2 ⟨this.2.1, this.2.2⟩⟩
theorem rabs_neg (x : Rat) : rabs (-x) = rabs x := by unfold rabs; split <;> split <;> grind
theorem sin_sub {x y : Rat} (hx : rabs x ≤ 32/5) (hy : rabs y ≤ 16/5) : rabs (S (x - y) - (S x * C y - C x * S y)) ≤ 1 / 10000000000000 := by
  have h := sin_add hx (y := -y) (by rw [rabs_neg]; exact hy)
  rw [S_neg, C_neg] at h
  have e1 : x + -y = x - y := by grind
  have e2 : S x * C y + C x * -S y = S x * C y - C x * S y := by grind
  rw [e1, e2] at h
  exact h
theorem cos_sub {x y : Rat} (hx : rabs x ≤ 32/5) (hy : rabs y ≤ 16/5) : rabs (C (x - y) - (C x * C y + S x * S y)) ≤ 1 / 10000000000000 := by
  have h := cos_add hx (y := -y) (by rw [rabs_neg]; exact hy)
  rw [S_neg, C_neg] at h
  have e1 : x + -y = x - y := by grind
  have e2 : C x * C y - S x * -S y = C x * C y + S x * S y := by grind
  rw [e1, e2] at h
  exact h
theorem pi_num : piQ ≤ 31416 / 10000 ∧ 314159 / 100000 ≤ piQ := by decide +kernel
theorem at_pi : rabs (S piQ) ≤ 1 / 100000000000000 ∧ rabs (C piQ + 1) ≤ 1 / 100000000000000 ∧ rabs (S (piQ / 2) - 1) ≤ 1 / 100000000000000 ∧ rabs (C (piQ / 2)) ≤ 1 / 100000000000000 ∧ rabs (S (2 * piQ)) ≤ 1 / 100000000000000 ∧ rabs (C (2 * piQ) - 1) ≤ 1 / 100000000000000 := by decide +kernel
theorem sin_turn {x : Rat} (hx : rabs x ≤ 16/5) : rabs (S (x + 2 * piQ) - S x) ≤ 1 / 1000000000000 ∧ rabs (C (x + 2 * piQ) - C x) ≤ 1 / 1000000000000 := by
  have hp : rabs (2 * piQ) ≤ 32/5 := by decide +kernel
  have h1 := rabs_le.1 (sin_add hp hx)
  have h2 := rabs_le.1 (cos_add hp hx)
  obtain ⟨-, -, -, -, a1, a2⟩ := at_pi
  have hb := SC_bd (y := x) (by grind)
  have e : 2 * piQ + x = x + 2 * piQ := by grind
  rw [e] at h1 h2
  have m1 := rabs_le.1 (mul_rabs a1 hb.2)
  have m2 := rabs_le.1 (mul_rabs a2 hb.1)
  have m3 := rabs_le.1 (mul_rabs a1 hb.1)
  have m4 := rabs_le.1 (mul_rabs a2 hb.2)
  generalize S (2 * piQ) = s2 at *
  generalize C (2 * piQ) = c2 at *
  constructor <;> rw [rabs_le] <;> constructor <;> grind
/-- The sine over the number. -/
def gT : List Rat := sT.tail
theorem S_gT (x : Rat) : S x = x * pv gT x := by
  have e : sT = 0 :: gT := by decide +kernel
  unfold S
  rw [e, pv_cons]
  grind
def kT : List Rat := gT.tail.tail
theorem gT_kT (x : Rat) : pv gT x = 1 + x * x * pv kT x := by
  have e : gT = 1 :: 0 :: kT := by decide +kernel
  rw [e, pv_cons, pv_cons]
  grind
theorem k_bd {x : Rat} (hx : rabs x ≤ 8/5) : -(1/5) ≤ pv kT x ∧ pv kT x ≤ -(1/8) := by
  have e : kT = -1/6 :: kT.tail := by decide +kernel
  have hb := pv_bd hx kT.tail
  have hk : pbd kT.tail (8/5) ≤ 1/60 := by decide +kernel
  have h := rabs_le.1 (show rabs (pv kT.tail x) ≤ 1/60 by grind)
  have hx2 := rabs_le.1 hx
  rw [e, pv_cons]
  generalize kT.tail = t at *
  have m := rabs_le.1 (mul_rabs hx (show rabs (pv t x) ≤ 1/60 by exact rabs_le.2 h))
  constructor <;> grind
theorem S_lin {x : Rat} (x0 : 0 ≤ x) (x1 : x ≤ 8/5) : x / 2 - x / 50 ≤ S x ∧ S x ≤ x := by
  have hk := k_bd (x := x) (rabs_le.2 ⟨x1, by grind⟩)
  rw [S_gT, gT_kT]
  generalize pv kT x = k at *
  have x2 := Rat.mul_nonneg x0 x0
  have x3 : x * x ≤ 64/25 := by
    have := Rat.mul_nonneg x0 (show 0 ≤ 8/5 - x by grind)
    have := Rat.mul_nonneg (show 0 ≤ 8/5 - x by grind) (show 0 ≤ 8/5 - x by grind)
    grind
  have q : x * x * k ≤ 0 := by
    have := Rat.mul_nonneg x2 (show 0 ≤ -k by grind); grind
  have q2 : -(51/100) - 1/200 ≤ x * x * k := by
    have := Rat.mul_nonneg x2 (show 0 ≤ k + 1/5 by grind); grind
  generalize x * x * k = z at *
  have m1 := Rat.mul_nonneg x0 (show 0 ≤ -z by grind)
  have m2 := Rat.mul_nonneg x0 (show 0 ≤ z + 103/200 by grind)
  have e : x / 2 - x / 50 = x * (48/100) := by grind
  rw [e]
  constructor <;> grind
/-- The sine from nought to half a turn is not below nought, up to an error. -/
theorem S_up {x d : Rat} (d0 : 0 ≤ d) (d1 : d ≤ 1/1000) (x0 : -d ≤ x) (x1 : x ≤ piQ + d) : -(d + 1 / 1000000000000) ≤ S x := by
  have hp := pi_num
  by_cases h : x ≤ 8/5
  · by_cases h0 : 0 ≤ x
    · have := (S_lin h0 h).1
      grind
    · have := (S_lin (x := -x) (by grind) (by grind)).2
      rw [S_neg] at this
      grind
  · obtain ⟨a1, a2, -⟩ := at_pi
    have hx : rabs x ≤ 16/5 := rabs_le.2 ⟨by grind, by grind⟩
    have h1 := rabs_le.1 (sin_sub (x := piQ) (y := x) (rabs_le.2 ⟨by grind, by grind⟩) hx)
    have hb := SC_bd (y := x) (by grind)
    have m1 := rabs_le.1 (mul_rabs a1 hb.2)
    have m2 := rabs_le.1 (mul_rabs a2 hb.1)
    have hS : -d ≤ S (piQ - x) := by
      by_cases h0 : 0 ≤ piQ - x
      · have := (S_lin h0 (by grind)).1
        grind
      · have := (S_lin (x := -(piQ - x)) (by grind) (by grind)).2
        rw [S_neg] at this
        grind
    generalize S piQ = sp at *
    generalize C piQ = cp at *
    grind
/-- The cosine within a quarter of a turn. -/
theorem C_up {x d : Rat} (d0 : 0 ≤ d) (d1 : d ≤ 1/1000) (x0 : -(piQ / 2) - d ≤ x) (x1 : x ≤ piQ / 2 + d) : -(d + 2 / 1000000000000) ≤ C x := by
  have hp := pi_num
  have h := S_up d0 d1 (x := piQ / 2 - x) (by grind) (by grind)
  obtain ⟨-, -, a1, a2, -⟩ := at_pi
  have hx : rabs x ≤ 16/5 := rabs_le.2 ⟨by grind, by grind⟩
  have h1 := rabs_le.1 (sin_sub (x := piQ / 2) (y := x) (rabs_le.2 ⟨by grind, by grind⟩) hx)
  have hb := SC_bd (y := x) (by grind)
  have m1 := rabs_le.1 (mul_rabs a1 hb.2)
  have m2 := rabs_le.1 (mul_rabs a2 hb.1)
  generalize S (piQ / 2) = sp at *
  generalize C (piQ / 2) = cp at *
  grind
/-- Small changes of the angle. -/
theorem S_small1 {x : Rat} (hx : rabs x ≤ 8/5) : rabs (S x) ≤ rabs x := by
  have h := rabs_le.1 hx
  by_cases h0 : 0 ≤ x
  · have := S_lin h0 h.1
    rw [rabs_le]
    have e : rabs x = x := by unfold rabs; rw [if_pos h0]
    rw [e]
    constructor <;> grind
  · have := S_lin (x := -x) (by grind) (by grind)
    rw [S_neg] at this
    rw [rabs_le]
    have e : rabs x = -x := by unfold rabs; rw [if_neg h0]
    rw [e]
    constructor <;> grind
/-- The differences of sines and cosines are products. -/
theorem sin_diff {m d : Rat} (hm : rabs m ≤ 32/5) (hd : rabs d ≤ 16/5) : rabs (S (m + d) - S (m - d) - 2 * (C m * S d)) ≤ 2 / 10000000000000 ∧ rabs (C (m + d) - C (m - d) + 2 * (S m * S d)) ≤ 2 / 10000000000000 := by
  have h1 := rabs_le.1 (sin_add hm hd)
  have h2 := rabs_le.1 (sin_sub hm hd)
  have h3 := rabs_le.1 (cos_add hm hd)
  have h4 := rabs_le.1 (cos_sub hm hd)
  constructor <;> rw [rabs_le] <;> constructor <;> grind
theorem sin_lipQ {x y : Rat} (hm : rabs ((x + y) / 2) ≤ 32/5) (hd : rabs ((x - y) / 2) ≤ 8/5) : rabs (S x - S y) ≤ (1 + 1 / 100000000000) * rabs (x - y) + 2 / 10000000000000 ∧ rabs (C x - C y) ≤ (1 + 1 / 100000000000) * rabs (x - y) + 2 / 10000000000000 := by
  have h := sin_diff hm (d := (x - y) / 2) (by grind)
  have hs := S_small1 hd
  have hb := SC_bd hm
  have m1 := mul_rabs hb.2 hs
  have m2 := mul_rabs hb.1 hs
  have e1 : (x + y) / 2 + (x - y) / 2 = x := by grind
  have e2 : (x + y) / 2 - (x - y) / 2 = y := by grind
  rw [e1, e2] at h
  have e3 : rabs ((x - y) / 2) = rabs (x - y) / 2 := by unfold rabs; split <;> split <;> grind
  rw [e3] at m1 m2
  obtain ⟨a1, a2⟩ := rabs_le.1 h.1
  obtain ⟨a3, a4⟩ := rabs_le.1 h.2
  obtain ⟨b1, b2⟩ := rabs_le.1 m1
  obtain ⟨b3, b4⟩ := rabs_le.1 m2
  constructor <;> rw [rabs_le] <;> constructor <;> grind
end Go.Proofs.YtffnmfcaoldlhaaDoor
