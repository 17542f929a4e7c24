/- The addition theorems of the polynomials of the sine and the cosine, up to an error. No program in sight. Consequences of the addition theorems: differences, signs, slopes. No program in sight. The rational function of math.xatan is near the arc of the tangent. No program in sight. What math.xatan runs through, and how near it comes. No program in sight. What math.satan, atan and atan2 run through, and how near they come. No program in sight. What math.atan2 runs through, and how near it comes to the direction. No program in sight. -/
import Derived.Test.YtcgnhnmigmdalaaGreatDoorFltB
import Derived.Test.YtcgnhnmigmdalaaGreatDoorFltE
import Derived.Test.YtcgnhnmigmdalaaGreatDoorFltC
set_option linter.unusedVariables false
set_option linter.unusedSimpArgs false
namespace Go.Proofs.YtcgnhnmigmdalaaGreatDoor
section
/-- Polynomials of two numbers: the coefficients of the powers of the first are polynomials of the second. -/
def pv2 (L : List (List Rat)) (x y : Rat) : Rat := L.foldr (fun p a => pv p y + x * a) 0
def badd : List (List Rat) → List (List Rat) → List (List Rat)
  | [], q => q
  | p, [] => p
  | a :: p, b :: q => padd a b :: badd p q
def bscale (c : Rat) (L : List (List Rat)) : List (List Rat) := L.map (pscale c)
/-- p at x + y. -/
def bsh : List Rat → List (List Rat)
  | [] => []
  | c :: p => badd [[c]] (badd ([] :: bsh p) ((bsh p).map (0 :: ·)))
def bout (p q : List Rat) : List (List Rat) := p.map (fun a => pscale a q)
def pbd2 (L : List (List Rat)) (A B : Rat) : Rat := L.foldr (fun p a => pbd p B + A * a) 0
theorem pv2_cons (p : List Rat) (L : List (List Rat)) (x y : Rat) : pv2 (p :: L) x y = pv p y + x * pv2 L x y := rfl
theorem pv2_nil (x y : Rat) : pv2 [] x y = 0 := rfl
theorem pv2_add : ∀ (P Q : List (List Rat)) (x y : Rat), pv2 (badd P Q) x y = pv2 P x y + pv2 Q x y
  | [], Q, x, y => by unfold badd; rw [pv2_nil]; grind
  | a :: P, [], x, y => by unfold badd; rw [pv2_nil]; grind
  | a :: P, b :: Q, x, y => by
    unfold badd
    rw [pv2_cons, pv2_cons, pv2_cons, pv_add, pv2_add P Q x y]
    grind
theorem pv2_scale (c : Rat) : ∀ (P : List (List Rat)) (x y : Rat), pv2 (bscale c P) x y = c * pv2 P x y
  | [], x, y => by unfold bscale; simp only [List.map_nil, pv2_nil]; grind
  | a :: P, x, y => by
    have := pv2_scale c P x y
    unfold bscale at this ⊢
    rw [List.map_cons, pv2_cons, pv2_cons, pv_scale, this]
    grind
theorem pv2_up : ∀ (P : List (List Rat)) (x y : Rat), pv2 (P.map (0 :: ·)) x y = y * pv2 P x y
  | [], x, y => by simp only [List.map_nil, pv2_nil]; grind
  | a :: P, x, y => by
    have := pv2_up P x y
    rw [List.map_cons, pv2_cons, pv2_cons, pv_cons, this]
    grind
theorem pv2_sh : ∀ (p : List Rat) (x y : Rat), pv2 (bsh p) x y = pv p (x + y)
  | [], x, y => rfl
  | c :: p, x, y => by
    have := pv2_sh p x y
    unfold bsh
    rw [pv2_add, pv2_add, pv2_up, pv2_cons, pv2_cons, pv_cons c p (x + y), this, pv2_nil]
    have e1 : pv [c] y = c := by unfold pv; simp; grind
    have e2 : pv [] y = 0 := rfl
    rw [e1, e2]
    grind
theorem pv2_out : ∀ (p q : List Rat) (x y : Rat), pv2 (bout p q) x y = pv p x * pv q y
  | [], q, x, y => by unfold bout; simp only [List.map_nil, pv2_nil]; unfold pv; simp
  | a :: p, q, x, y => by
    have := pv2_out p q x y
    unfold bout at this ⊢
    rw [List.map_cons, pv2_cons, pv_cons, pv_scale, this]
    grind
theorem pv2_bd {A B x y : Rat} (hx : rabs x ≤ A) (hy : rabs y ≤ B) : ∀ L : List (List Rat), rabs (pv2 L x y) ≤ pbd2 L A B ∧ 0 ≤ pbd2 L A B
  | [] => by unfold pv2 pbd2 rabs; simp
  | p :: L => by
    have h0 := rabs_nonneg x
    have h1 := pv2_bd hx hy L
    have hB : 0 ≤ B := by have := rabs_nonneg y; grind
    have h2 := pbd_nonneg hB p
    have h3 := rabs_add (pv p y) (x * pv2 L x y)
    rw [rabs_mul] at h3
    have h4 := Rat.mul_le_mul_of_nonneg_left h1.1 h0
    have h5 := Rat.mul_le_mul_of_nonneg_right hx h1.2
    have h6 := pv_bd hy p
    have h7 := Rat.mul_nonneg (show 0 ≤ A by grind) h1.2
    show rabs (pv p y + x * pv2 L x y) ≤ pbd p B + A * pbd2 L A B ∧ 0 ≤ pbd p B + A * pbd2 L A B
    constructor <;> grind
theorem pv2_near {A B x y e : Rat} (hx : rabs x ≤ A) (hy : rabs y ≤ B) (P Q : List (List Rat)) (hb : pbd2 (badd P (bscale (-1) Q)) A B ≤ e) : rabs (pv2 P x y - pv2 Q x y) ≤ e := by
  have h := (pv2_bd hx hy (badd P (bscale (-1) Q))).1
  rw [pv2_add, pv2_scale] at h
  have e1 : pv2 P x y + -1 * pv2 Q x y = pv2 P x y - pv2 Q x y := by grind
  rw [e1] at h
  grind
theorem adds : pbd2 (badd (bsh sT) (bscale (-1) (badd (bout sT cT) (bout cT sT)))) (32/5) (16/5) ≤ 12 / 10 ^ 15 := by decide +kernel
theorem addc : pbd2 (badd (bsh cT) (bscale (-1) (badd (bout cT cT) (bscale (-1) (bout sT sT))))) (32/5) (16/5) ≤ 12 / 10 ^ 15 := by decide +kernel
theorem sin_add {x y : Rat} (hx : rabs x ≤ 32/5) (hy : rabs y ≤ 16/5) : rabs (S (x + y) - (S x * C y + C x * S y)) ≤ 12 / 1000000000000000 := by
  have h := pv2_near hx hy _ _ adds
  rw [pv2_sh, pv2_add, pv2_out, pv2_out] at h
  have e : (12 : Rat) / 10 ^ 15 = 12 / 1000000000000000 := by decide +kernel
  rw [e] at h
  exact h
theorem cos_add {x y : Rat} (hx : rabs x ≤ 32/5) (hy : rabs y ≤ 16/5) : rabs (C (x + y) - (C x * C y - S x * S y)) ≤ 12 / 1000000000000000 := by
  have h := pv2_near hx hy _ _ addc
  rw [pv2_sh, pv2_add, pv2_scale, pv2_out, pv2_out] at h
  have e : (12 : Rat) / 10 ^ 15 = 12 / 1000000000000000 := by decide +kernel
  have e1 : pv cT x * pv cT y + -1 * (pv sT x * pv sT y) = pv cT x * pv cT y - pv sT x * pv sT y := by grind
  rw [e, e1] at h
  exact h
theorem S_neg (x : Rat) : S (-x) = -S x := by
  have h := pv_stretch (-1) sT 1 x
  have e : pstretch (-1) 1 sT = pscale (-1) sT := by decide +kernel
  rw [e, pv_scale] at h
  have e2 : -1 * x = -x := by grind
  rw [e2] at h
  unfold S
  grind
theorem C_neg (x : Rat) : C (-x) = C x := by
  have h := pv_stretch (-1) cT 1 x
  have e : pstretch (-1) 1 cT = cT := by decide +kernel
  rw [e] at h
  have e2 : -1 * x = -x := by grind
  rw [e2] at h
  unfold C
  grind
end
section
theorem SC_bd {y : Rat} (hy : rabs y ≤ 32/5) : rabs (S y) ≤ 1 + 1 / 100000000000 ∧ rabs (C y) ≤ 1 + 1 / 100000000000 := by
  have := bd64 hy
  exact ⟨rabs_le.2 ⟨this.1.1, this.1.2⟩, rabs_le.2 ⟨this.2.1, this.2.2⟩⟩
theorem rabs_neg (x : Rat) : rabs (-x) = rabs x := by unfold rabs; split <;> split <;> grind
theorem sin_sub {x y : Rat} (hx : rabs x ≤ 32/5) (hy : rabs y ≤ 16/5) : rabs (S (x - y) - (S x * C y - C x * S y)) ≤ 12 / 1000000000000000 := by
  have h := sin_add hx (y := -y) (by rw [rabs_neg]; exact hy)
  rw [S_neg, C_neg] at h
  have e1 : x + -y = x - y := by grind
  have e2 : S x * C y + C x * -S y = S x * C y - C x * S y := by grind
  rw [e1, e2] at h
  exact h
theorem cos_sub {x y : Rat} (hx : rabs x ≤ 32/5) (hy : rabs y ≤ 16/5) : rabs (C (x - y) - (C x * C y + S x * S y)) ≤ 12 / 1000000000000000 := by
  have h := cos_add hx (y := -y) (by rw [rabs_neg]; exact hy)
  rw [S_neg, C_neg] at h
  have e1 : x + -y = x - y := by grind
  have e2 : C x * C y - S x * -S y = C x * C y + S x * S y := by grind
  rw [e1, e2] at h
  exact h
theorem pi_num : piQ ≤ 31416 / 10000 ∧ 314159 / 100000 ≤ piQ := by decide +kernel
theorem at_pi : rabs (S piQ) ≤ 1 / 100000000000000000 ∧ rabs (C piQ + 1) ≤ 1 / 100000000000000000 ∧ rabs (S (piQ / 2) - 1) ≤ 1 / 100000000000000000 ∧ rabs (C (piQ / 2)) ≤ 1 / 100000000000000000 ∧ rabs (S (2 * piQ)) ≤ 1 / 100000000000000000 ∧ rabs (C (2 * piQ) - 1) ≤ 1 / 100000000000000000 := by decide +kernel
theorem sin_turn {x : Rat} (hx : rabs x ≤ 16/5) : rabs (S (x + 2 * piQ) - S x) ≤ 1 / 1000000000000 ∧ rabs (C (x + 2 * piQ) - C x) ≤ 1 / 1000000000000 := by
  have hp : rabs (2 * piQ) ≤ 32/5 := by decide +kernel
  have h1 := rabs_le.1 (sin_add hp hx)
  have h2 := rabs_le.1 (cos_add hp hx)
  obtain ⟨-, -, -, -, a1, a2⟩ := at_pi
  have hb := SC_bd (y := x) (by grind)
  have e : 2 * piQ + x = x + 2 * piQ := by grind
  rw [e] at h1 h2
  have m1 := rabs_le.1 (mul_rabs a1 hb.2)
  have m2 := rabs_le.1 (mul_rabs a2 hb.1)
  have m3 := rabs_le.1 (mul_rabs a1 hb.1)
  have m4 := rabs_le.1 (mul_rabs a2 hb.2)
  generalize S (2 * piQ) = s2 at *
  generalize C (2 * piQ) = c2 at *
  constructor <;> rw [rabs_le] <;> constructor <;> grind
/-- The sine over the number. -/
def gT : List Rat := sT.tail
theorem S_gT (x : Rat) : S x = x * pv gT x := by
  have e : sT = 0 :: gT := by decide +kernel
  unfold S
  rw [e, pv_cons]
  grind
def kT : List Rat := gT.tail.tail
theorem gT_kT (x : Rat) : pv gT x = 1 + x * x * pv kT x := by
  have e : gT = 1 :: 0 :: kT := by decide +kernel
  rw [e, pv_cons, pv_cons]
  grind
theorem k_bd {x : Rat} (hx : rabs x ≤ 8/5) : -(1/5) ≤ pv kT x ∧ pv kT x ≤ -(1/8) := by
  have e : kT = -1/6 :: kT.tail := by decide +kernel
  have hb := pv_bd hx kT.tail
  have hk : pbd kT.tail (8/5) ≤ 1/60 := by decide +kernel
  have h := rabs_le.1 (show rabs (pv kT.tail x) ≤ 1/60 by grind)
  have hx2 := rabs_le.1 hx
  rw [e, pv_cons]
  generalize kT.tail = t at *
  have m := rabs_le.1 (mul_rabs hx (show rabs (pv t x) ≤ 1/60 by exact rabs_le.2 h))
  constructor <;> grind
theorem S_lin {x : Rat} (x0 : 0 ≤ x) (x1 : x ≤ 8/5) : x / 2 - x / 50 ≤ S x ∧ S x ≤ x := by
  have hk := k_bd (x := x) (rabs_le.2 ⟨x1, by grind⟩)
  rw [S_gT, gT_kT]
  generalize pv kT x = k at *
  have x2 := Rat.mul_nonneg x0 x0
  have x3 : x * x ≤ 64/25 := by
    have := Rat.mul_nonneg x0 (show 0 ≤ 8/5 - x by grind)
    have := Rat.mul_nonneg (show 0 ≤ 8/5 - x by grind) (show 0 ≤ 8/5 - x by grind)
    grind
  have q : x * x * k ≤ 0 := by
    have := Rat.mul_nonneg x2 (show 0 ≤ -k by grind); grind
  have q2 : -(51/100) - 1/200 ≤ x * x * k := by
    have := Rat.mul_nonneg x2 (show 0 ≤ k + 1/5 by grind); grind
  generalize x * x * k = z at *
  have m1 := Rat.mul_nonneg x0 (show 0 ≤ -z by grind)
  have m2 := Rat.mul_nonneg x0 (show 0 ≤ z + 103/200 by grind)
  have e : x / 2 - x / 50 = x * (48/100) := by grind
  rw [e]
  constructor <;> grind
/-- The sine from nought to half a turn is not below nought, up to an error. -/
theorem S_up {x d : Rat} (d0 : 0 ≤ d) (d1 : d ≤ 1/1000) (x0 : -d ≤ x) (x1 : x ≤ piQ + d) : -(d + 1 / 1000000000000) ≤ S x := by
  have hp := pi_num
  by_cases h : x ≤ 8/5
  · by_cases h0 : 0 ≤ x
    · have := (S_lin h0 h).1
      grind
    · have := (S_lin (x := -x) (by grind) (by grind)).2
      rw [S_neg] at this
      grind
  · obtain ⟨a1, a2, -⟩ := at_pi
    have hx : rabs x ≤ 16/5 := rabs_le.2 ⟨by grind, by grind⟩
    have h1 := rabs_le.1 (sin_sub (x := piQ) (y := x) (rabs_le.2 ⟨by grind, by grind⟩) hx)
    have hb := SC_bd (y := x) (by grind)
    have m1 := rabs_le.1 (mul_rabs a1 hb.2)
    have m2 := rabs_le.1 (mul_rabs a2 hb.1)
    have hS : -d ≤ S (piQ - x) := by
      by_cases h0 : 0 ≤ piQ - x
      · have := (S_lin h0 (by grind)).1
        grind
      · have := (S_lin (x := -(piQ - x)) (by grind) (by grind)).2
        rw [S_neg] at this
        grind
    generalize S piQ = sp at *
    generalize C piQ = cp at *
    grind
/-- The cosine within a quarter of a turn. -/
theorem C_up {x d : Rat} (d0 : 0 ≤ d) (d1 : d ≤ 1/1000) (x0 : -(piQ / 2) - d ≤ x) (x1 : x ≤ piQ / 2 + d) : -(d + 2 / 1000000000000) ≤ C x := by
  have hp := pi_num
  have h := S_up d0 d1 (x := piQ / 2 - x) (by grind) (by grind)
  obtain ⟨-, -, a1, a2, -⟩ := at_pi
  have hx : rabs x ≤ 16/5 := rabs_le.2 ⟨by grind, by grind⟩
  have h1 := rabs_le.1 (sin_sub (x := piQ / 2) (y := x) (rabs_le.2 ⟨by grind, by grind⟩) hx)
  have hb := SC_bd (y := x) (by grind)
  have m1 := rabs_le.1 (mul_rabs a1 hb.2)
  have m2 := rabs_le.1 (mul_rabs a2 hb.1)
  generalize S (piQ / 2) = sp at *
  generalize C (piQ / 2) = cp at *
  grind
/-- Small changes of the angle. -/
theorem S_small1 {x : Rat} (hx : rabs x ≤ 8/5) : rabs (S x) ≤ rabs x := by
  have h := rabs_le.1 hx
  by_cases h0 : 0 ≤ x
  · have := S_lin h0 h.1
    rw [rabs_le]
    have e : rabs x = x := by unfold rabs; rw [if_pos h0]
    rw [e]
    constructor <;> grind
  · have := S_lin (x := -x) (by grind) (by grind)
    rw [S_neg] at this
    rw [rabs_le]
    have e : rabs x = -x := by unfold rabs; rw [if_neg h0]
    rw [e]
    constructor <;> grind
/-- The differences of sines and cosines are products. -/
theorem sin_diff {m d : Rat} (hm : rabs m ≤ 32/5) (hd : rabs d ≤ 16/5) : rabs (S (m + d) - S (m - d) - 2 * (C m * S d)) ≤ 25 / 1000000000000000 ∧ rabs (C (m + d) - C (m - d) + 2 * (S m * S d)) ≤ 25 / 1000000000000000 := by
  have h1 := rabs_le.1 (sin_add hm hd)
  have h2 := rabs_le.1 (sin_sub hm hd)
  have h3 := rabs_le.1 (cos_add hm hd)
  have h4 := rabs_le.1 (cos_sub hm hd)
  constructor <;> rw [rabs_le] <;> constructor <;> grind
theorem sin_lipQ {x y : Rat} (hm : rabs ((x + y) / 2) ≤ 32/5) (hd : rabs ((x - y) / 2) ≤ 8/5) : rabs (S x - S y) ≤ (1 + 1 / 100000000000) * rabs (x - y) + 25 / 1000000000000000 ∧ rabs (C x - C y) ≤ (1 + 1 / 100000000000) * rabs (x - y) + 25 / 1000000000000000 := by
  have h := sin_diff hm (d := (x - y) / 2) (by grind)
  have hs := S_small1 hd
  have hb := SC_bd hm
  have m1 := mul_rabs hb.2 hs
  have m2 := mul_rabs hb.1 hs
  have e1 : (x + y) / 2 + (x - y) / 2 = x := by grind
  have e2 : (x + y) / 2 - (x - y) / 2 = y := by grind
  rw [e1, e2] at h
  have e3 : rabs ((x - y) / 2) = rabs (x - y) / 2 := by unfold rabs; split <;> split <;> grind
  rw [e3] at m1 m2
  obtain ⟨a1, a2⟩ := rabs_le.1 h.1
  obtain ⟨a3, a4⟩ := rabs_le.1 h.2
  obtain ⟨b1, b2⟩ := rabs_le.1 m1
  obtain ⟨b3, b4⟩ := rabs_le.1 m2
  constructor <;> rw [rabs_le] <;> constructor <;> grind
end
section
def pcomp (p q : List Rat) : List Rat := p.foldr (fun c a => padd [c] (pmul q a)) []
theorem pv_one (c x : Rat) : pv [c] x = c := by unfold pv; simp; grind
theorem pv_comp (q : List Rat) (x : Rat) : ∀ p : List Rat, pv (pcomp p q) x = pv p (pv q x)
  | [] => rfl
  | c :: p => by
    have := pv_comp q x p
    show pv (padd [c] (pmul q (pcomp p q))) x = _
    rw [pv_add, pv_mul, this, pv_one, pv_cons]
def ppow (p : List Rat) : Nat → List Rat
  | 0 => [1]
  | n + 1 => pmul p (ppow p n)
theorem pv_pow (p : List Rat) (x : Rat) : ∀ n : Nat, pv (ppow p n) x = (pv p x) ^ n
  | 0 => by unfold ppow; rw [pv_one]; grind
  | n + 1 => by unfold ppow; rw [pv_mul, pv_pow p x n, Rat.pow_succ]; grind
/-- The first terms of the arc of a small tangent. -/
def atB : List Rat := [0, 1, 0, -1/3, 0, 1/5, 0, -1/7]
def s9 : List Rat := [0, 1, 0, -1/6, 0, 1/120, 0, -1/5040, 0, 1/362880]
def c8 : List Rat := [1, 0, -1/2, 0, 1/24, 0, -1/720, 0, 1/40320]
theorem near_s9 : pbd (padd sT (pscale (-1) s9)) (1/20) ≤ 1 / 10 ^ 18 := by decide +kernel
theorem near_c8 : pbd (padd cT (pscale (-1) c8)) (1/20) ≤ 1 / 10 ^ 18 := by decide +kernel
theorem small_at : pbd (padd (pcomp s9 atB) (pscale (-1) (0 :: pcomp c8 atB))) (9/200) ≤ 1 / 10 ^ 13 := by decide +kernel
theorem bd_at : pbd atB (9/200) ≤ 1/20 := by decide +kernel
theorem at_small {u : Rat} (hu : rabs u ≤ 9/200) : rabs (S (pv atB u) - u * C (pv atB u)) ≤ 101 / 1000000000000000 ∧ rabs (pv atB u) ≤ 1/20 := by
  have hb := pv_bd hu atB
  have hb2 : rabs (pv atB u) ≤ 1/20 := by have := bd_at; grind
  refine ⟨?_, hb2⟩
  have h := pv_bd hu (padd (pcomp s9 atB) (pscale (-1) (0 :: pcomp c8 atB)))
  rw [pv_add, pv_scale, pv_cons, pv_comp, pv_comp] at h
  have h := rabs_le.1 (show rabs (pv s9 (pv atB u) + -1 * (0 + u * pv c8 (pv atB u))) ≤ 1 / 10 ^ 13 by have := small_at; grind)
  have n1 := pv_near hb2 _ _ near_s9
  have n2 := pv_near hb2 _ _ near_c8
  have t1 : (1 : Rat) / 10 ^ 18 = 1 / 1000000000000000000 := by decide +kernel
  have t2 : (1 : Rat) / 10 ^ 13 = 1 / 10000000000000 := by decide +kernel
  rw [t1] at n1 n2
  rw [t2] at h
  unfold S C
  have m := rabs_le.1 (mul_rabs hu (show rabs (pv cT (pv atB u) - pv c8 (pv atB u)) ≤ 1 / 1000000000000000000 from rabs_le.2 ⟨by grind, by grind⟩))
  generalize pv s9 (pv atB u) = x1 at *
  generalize pv c8 (pv atB u) = x2 at *
  generalize pv sT (pv atB u) = x3 at *
  generalize pv cT (pv atB u) = x4 at *
  rw [rabs_le]
  constructor <;> grind
def aP0 : Nat := 13829429103926125972
def aP1 : Nat := 13848613196940411002
def aP2 : Nat := 13858350711815275123
def aP3 : Nat := 13861719834326579749
def aP4 : Nat := 13857635882265799822
def aQ0 : Nat := 4627690253511319612
def aQ1 : Nat := 4640010388282866213
def aQ2 : Nat := 4646322940342877755
def aQ3 : Nat := 4647246694406179306
def aQ4 : Nat := 4641049159275471596
def xQ : List Rat := [cv aQ4, 0, cv aQ3, 0, cv aQ2, 0, cv aQ1, 0, cv aQ0, 0, 1]
def xN : List Rat := 0 :: padd xQ [0, 0, cv aP4, 0, cv aP3, 0, cv aP2, 0, cv aP1, 0, cv aP0]
def ndD (t : Rat) : List Rat := [1 + t * t, t]
def ndB (t : Rat) : List Rat := padd (pmul [0, 1] (ppow (ndD t) 6)) (padd (pmul [0, 0, 0, -1/3] (ppow (ndD t) 4)) (padd (pmul [0, 0, 0, 0, 0, 1/5] (ppow (ndD t) 2)) [0, 0, 0, 0, 0, 0, 0, -1/7]))
def ndG (t a : Rat) : List Rat := padd (pmul (padd (pshift t xN) (pscale (-a) (pshift t xQ))) (ppow (ndD t) 7)) (pscale (-1) (pmul (pshift t xQ) (ndB t)))
structure NdOk (t a : Rat) : Prop where
  g : pbd (ndG t a) (9/200) ≤ 58 / 1000000000000
  s : rabs (S a - t * C a) ≤ 1 / 1000000000000000
  t0 : 0 ≤ t
  t1 : t ≤ 7/10
  a1 : rabs a ≤ 1
theorem xQ_ge (x : Rat) : 194 ≤ pv xQ x := by
  have sq : 0 ≤ x * x := by
    by_cases q : 0 ≤ x
    · exact Rat.mul_nonneg q q
    · have := Rat.mul_nonneg (show 0 ≤ -x by grind) (show 0 ≤ -x by grind); grind
  have p : ∀ {c r : Rat}, 0 ≤ c → 0 ≤ r → 0 ≤ c + x * (0 + x * r) := by
    intro c r h1 h2
    have := Rat.mul_nonneg sq h2
    grind
  have q0 : (194 : Rat) ≤ cv aQ4 := by decide +kernel
  have q1 : 0 ≤ cv aQ3 := by decide +kernel
  have q2 : 0 ≤ cv aQ2 := by decide +kernel
  have q3 : 0 ≤ cv aQ1 := by decide +kernel
  have q4 : 0 ≤ cv aQ0 := by decide +kernel
  have e1 : (0 : Rat) ≤ 1 + x * 0 := by grind
  have h := p q1 (p q2 (p q3 (p q4 e1)))
  have h2 := Rat.mul_nonneg sq h
  unfold xQ
  simp only [pv_cons]
  have e0 : pv [] x = 0 := rfl
  rw [e0]
  grind
theorem one_pow {D : Rat} (h : 1 ≤ D) : ∀ n : Nat, 1 ≤ D ^ n
  | 0 => by simp
  | n + 1 => by
    have := one_pow h n
    rw [Rat.pow_succ]
    have m := Rat.mul_nonneg (show 0 ≤ D ^ n - 1 by grind) (show 0 ≤ D - 1 by grind)
    grind
theorem rabs_of_mul {x m e : Rat} (hm : 1 ≤ m) (h : rabs (x * m) ≤ e) : rabs x ≤ e := by
  rw [rabs_mul] at h
  have h0 := rabs_nonneg x
  have e1 : rabs m = m := by unfold rabs; rw [if_pos (by grind)]
  rw [e1] at h
  have := Rat.mul_nonneg h0 (show 0 ≤ m - 1 by grind)
  grind
theorem node {t a x R : Rat} (hn : NdOk t a) (hx : rabs (x - t) ≤ 9/200) (x0 : 0 ≤ x) (hR : R * pv xQ x = pv xN x) : rabs (S R - x * C R) ≤ 78 / 100000000000000 ∧ rabs R ≤ 21/20 + 1/100 := by
  obtain ⟨h, hh⟩ : ∃ h, x - t = h := ⟨_, rfl⟩
  rw [hh] at hx
  have hxt : x = t + h := by grind
  have D1 : 1 ≤ 1 + t * x := by have := Rat.mul_nonneg hn.t0 x0; grind
  obtain ⟨D, hD⟩ : ∃ D, 1 + t * x = D := ⟨_, rfl⟩
  rw [hD] at D1
  have hDv : pv (ndD t) h = D := by
    unfold ndD
    rw [pv_cons, pv_one, ← hD, hxt]
    grind
  obtain ⟨u, hu⟩ : ∃ u, u * D = h := ⟨h / D, Rat.div_mul_cancel (by grind)⟩
  have hub : rabs u ≤ 9/200 := rabs_of_mul D1 (by rw [hu]; exact hx)
  obtain ⟨s1, s2⟩ := at_small hub
  have hB : pv (ndB t) h = D ^ 7 * pv atB u := by
    unfold ndB atB
    simp only [pv_add, pv_mul, pv_pow, hDv, pv_cons]
    have e0 : ∀ y, pv [] y = 0 := fun _ => rfl
    simp only [e0]
    rw [← hu]
    grind
  have hG := pv_bd hx (ndG t a)
  have hG2 : rabs (pv (ndG t a) h) ≤ 58 / 1000000000000 := by have := hn.g; grind
  have eG : pv (ndG t a) h = (R - (a + pv atB u)) * (pv xQ x * D ^ 7) := by
    unfold ndG
    simp only [pv_add, pv_mul, pv_scale, pv_pow, pv_shift, hDv, hB]
    have ex : h + t = x := by grind
    rw [ex, ← hR]
    grind
  rw [eG] at hG2
  have q1 := xQ_ge x
  have q2 := one_pow D1 7
  have hRb : rabs (R - (a + pv atB u)) ≤ 3 / 10000000000000 := by
    have m : rabs ((R - (a + pv atB u)) * 194) ≤ 58 / 1000000000000 := by
      refine rabs_of_mul (m := pv xQ x * D ^ 7 / 194) ?_ ?_
      · have m1 := Rat.mul_nonneg (show 0 ≤ pv xQ x - 194 by grind) (show 0 ≤ D ^ 7 - 1 by grind)
        grind
      · have e : (R - (a + pv atB u)) * 194 * (pv xQ x * D ^ 7 / 194) = (R - (a + pv atB u)) * (pv xQ x * D ^ 7) := by grind
        rw [e]; exact hG2
    have := rabs_le.1 m
    rw [rabs_le]
    constructor <;> grind
  generalize pv atB u = b at *
  have b1 := rabs_le.1 s2
  have r1 := rabs_le.1 hRb
  have a1 := rabs_le.1 hn.a1
  have hab : rabs a ≤ 32/5 := rabs_le.2 ⟨by grind, by grind⟩
  have hbb : rabs b ≤ 16/5 := rabs_le.2 ⟨by grind, by grind⟩
  have ad1 := rabs_le.1 (sin_add hab hbb)
  have ad2 := cos_add hab hbb
  have lip := sin_lipQ (x := R) (y := a + b) (rabs_le.2 ⟨by grind, by grind⟩) (rabs_le.2 ⟨by grind, by grind⟩)
  have x1 : x ≤ 4/5 := by have := hn.t1; have := rabs_le.1 hx; grind
  have xb : rabs x ≤ 4/5 := rabs_le.2 ⟨x1, by grind⟩
  have l1 := rabs_le.1 lip.1
  have l2 := rabs_le.1 (mul_rabs xb (show rabs (C R - C (a + b)) ≤ 33 / 100000000000000 by have := lip.2; grind))
  have l3 := rabs_le.1 (mul_rabs xb ad2)
  have cb := SC_bd (y := b) (by grind)
  have ca := SC_bd (y := a) hab
  have l4 := rabs_le.1 (mul_rabs hn.s cb.2)
  have l5 := rabs_le.1 (mul_rabs hn.s cb.1)
  have l6 := rabs_le.1 (mul_rabs xb (rabs_le.2 l5))
  have D2 : D ≤ 8/5 := by
    have m := Rat.mul_nonneg (show 0 ≤ 4/5 - x by grind) hn.t0
    have m2 := Rat.mul_nonneg x0 (show 0 ≤ 7/10 - t by have := hn.t1; grind)
    grind
  have l7 := mul_rabs (show rabs D ≤ 8/5 from rabs_le.2 ⟨D2, by grind⟩) s1
  have l8 := rabs_le.1 (mul_rabs ca.2 l7)
  have key : S a * C b + C a * S b - x * (C a * C b - S a * S b) = C a * (D * (S b - u * C b)) + (S a - t * C a) * C b + x * ((S a - t * C a) * S b) := by
    have e1 : u * D = x - t := by rw [hu]; exact hh.symm
    have e2 : C a * (D * (S b - u * C b)) = C a * (D * S b - (u * D) * C b) := by grind
    rw [e2, e1, ← hD]
    grind
  constructor
  · rw [rabs_le]
    generalize C a * (D * (S b - u * C b)) = z1 at *
    generalize (S a - t * C a) * C b = z2 at *
    generalize x * ((S a - t * C a) * S b) = z3 at *
    constructor <;> grind
  · rw [rabs_le]
    constructor <;> grind
theorem nd0 : NdOk (9/200) (449696618523275861207608426 / 10 ^ 28) := ⟨by decide +kernel, by decide +kernel, by decide +kernel, by decide +kernel, by decide +kernel⟩
theorem nd1 : NdOk (27/200) (1341887279524205317652155279 / 10 ^ 28) := ⟨by decide +kernel, by decide +kernel, by decide +kernel, by decide +kernel, by decide +kernel⟩
theorem nd2 : NdOk (9/40) (2213144423477912931182797444 / 10 ^ 28) := ⟨by decide +kernel, by decide +kernel, by decide +kernel, by decide +kernel, by decide +kernel⟩
theorem nd3 : NdOk (63/200) (3051608246158600927095771295 / 10 ^ 28) := ⟨by decide +kernel, by decide +kernel, by decide +kernel, by decide +kernel, by decide +kernel⟩
theorem nd4 : NdOk (81/200) (3848092765458611737888959898 / 10 ^ 28) := ⟨by decide +kernel, by decide +kernel, by decide +kernel, by decide +kernel, by decide +kernel⟩
theorem nd5 : NdOk (99/200) (4596396144303821751201168258 / 10 ^ 28) := ⟨by decide +kernel, by decide +kernel, by decide +kernel, by decide +kernel, by decide +kernel⟩
theorem nd6 : NdOk (117/200) (5293170697190560172275445919 / 10 ^ 28) := ⟨by decide +kernel, by decide +kernel, by decide +kernel, by decide +kernel, by decide +kernel⟩
theorem nd7 : NdOk (27/40) (5937496667107711363616624289 / 10 ^ 28) := ⟨by decide +kernel, by decide +kernel, by decide +kernel, by decide +kernel, by decide +kernel⟩
/-- The rational function and the arc of the tangent. -/
theorem at_near0 {x R : Rat} (x0 : 0 ≤ x) (x1 : x ≤ 18/25) (hR : R * pv xQ x = pv xN x) : rabs (S R - x * C R) ≤ 78 / 100000000000000 ∧ rabs R ≤ 21/20 + 1/100 := by
  by_cases h0 : x ≤ 9/100
  · exact node nd0 (rabs_le.2 ⟨by grind, by grind⟩) x0 hR
  by_cases h1 : x ≤ 9/50
  · exact node nd1 (rabs_le.2 ⟨by grind, by grind⟩) x0 hR
  by_cases h2 : x ≤ 27/100
  · exact node nd2 (rabs_le.2 ⟨by grind, by grind⟩) x0 hR
  by_cases h3 : x ≤ 9/25
  · exact node nd3 (rabs_le.2 ⟨by grind, by grind⟩) x0 hR
  by_cases h4 : x ≤ 9/20
  · exact node nd4 (rabs_le.2 ⟨by grind, by grind⟩) x0 hR
  by_cases h5 : x ≤ 27/50
  · exact node nd5 (rabs_le.2 ⟨by grind, by grind⟩) x0 hR
  by_cases h6 : x ≤ 63/100
  · exact node nd6 (rabs_le.2 ⟨by grind, by grind⟩) x0 hR
  exact node nd7 (rabs_le.2 ⟨by grind, by grind⟩) x0 hR
theorem xQ_even (x : Rat) : pv xQ (-x) = pv xQ x := by
  have h := pv_stretch (-1) xQ 1 x
  have e : pstretch (-1) 1 xQ = xQ := by decide +kernel
  rw [e] at h
  have e2 : -1 * x = -x := by grind
  rw [e2] at h
  grind
theorem xN_odd (x : Rat) : pv xN (-x) = -pv xN x := by
  have h := pv_stretch (-1) xN 1 x
  have e : pstretch (-1) 1 xN = pscale (-1) xN := by decide +kernel
  rw [e, pv_scale] at h
  have e2 : -1 * x = -x := by grind
  rw [e2] at h
  grind
theorem at_near {x R : Rat} (hx : rabs x ≤ 18/25) (hR : R * pv xQ x = pv xN x) : rabs (S R - x * C R) ≤ 78 / 100000000000000 ∧ rabs R ≤ 21/20 + 1/100 := by
  have h := rabs_le.1 hx
  by_cases x0 : 0 ≤ x
  · exact at_near0 x0 h.1 hR
  · have := at_near0 (x := -x) (R := -R) (by grind) (by grind) (by rw [xQ_even, xN_odd]; grind)
    rw [S_neg, C_neg, rabs_neg] at this
    have e : -S R - -x * C R = -(S R - x * C R) := by grind
    rw [e, rabs_neg] at this
    exact this
end
section
open Ieee
theorem div_ap {x y : Nat} {X Y a b : Rat} (B M : Rat) (K : Nat) (hK : K ≤ 900) (hx : Ap x X a) (hy : Ap y Y b) (hB : 0 < B) (hY : B + b ≤ Y) (hM : rabs (X / Y) ≤ M) (hb : M + (a + M * b) / B + p2 (K - 54) ≤ p2 K) :
    ∃ r, double.div x y = some r ∧ Ap r (X / Y) ((a + M * b) / B + p2 (K - 54) + p2 (K - 53)) := by
  have a0 := hx.pos
  have b0 := hy.pos
  obtain ⟨s, m, i, h1, h2, h3⟩ := hx
  obtain ⟨t, n, j, g1, g2, g3⟩ := hy
  have y0 : B ≤ rv t n j := by grind
  have hn : n ≠ 0 := by
    rintro rfl
    unfold rv at y0
    simp at y0
    grind
  generalize hv : rv s m i = v at *
  generalize hw : rv t n j = w at *
  have hq : rabs (v / w - X / Y) ≤ (a + M * b) / B := by
    have e : v / w - X / Y = ((v - X) - (X / Y) * (w - Y)) / w := by grind
    have mm := mul_rabs hM (show rabs (w - Y) ≤ b from rabs_le.2 ⟨by grind, by grind⟩)
    have mm2 := rabs_le.1 mm
    have nb : rabs ((v - X) - (X / Y) * (w - Y)) ≤ a + M * b := rabs_le.2 ⟨by grind, by grind⟩
    have hiw : w * w⁻¹ = 1 := Rat.mul_inv_cancel w (by grind)
    have hiB : B * B⁻¹ = 1 := Rat.mul_inv_cancel B (by grind)
    have iw0 : 0 < w⁻¹ := Rat.inv_pos.2 (by grind)
    have iB0 : 0 < B⁻¹ := Rat.inv_pos.2 hB
    have ile : w⁻¹ ≤ B⁻¹ := by
      have m1 := Rat.mul_le_mul_of_nonneg_right y0 (Rat.le_of_lt (Rat.mul_pos iw0 iB0))
      have e1 : B * (w⁻¹ * B⁻¹) = w⁻¹ := by grind
      have e2 : w * (w⁻¹ * B⁻¹) = B⁻¹ := by grind
      rw [e1, e2] at m1
      exact m1
    rw [e, Rat.div_def, rabs_mul, Rat.div_def]
    have ew : rabs w⁻¹ = w⁻¹ := by unfold rabs; rw [if_pos (Rat.le_of_lt iw0)]
    rw [ew]
    have m1 := Rat.mul_le_mul_of_nonneg_left ile (rabs_nonneg ((v - X) - (X / Y) * (w - Y)))
    have m2 := Rat.mul_le_mul_of_nonneg_right nb (Rat.le_of_lt iB0)
    grind
  obtain ⟨q1, q2⟩ := rabs_le.1 hq
  obtain ⟨M1, M2⟩ := rabs_le.1 hM
  obtain ⟨r, r1, r2⟩ := div_val (s := s) (t := t) (m := m) (n := n) (i := i) (j := j) K hK h1 g1 hn (by rw [hv, hw]; grind) (by rw [hv, hw]; grind)
  rw [hv, hw] at r2
  exact ⟨r, r1, (r2.move (Y := X / Y) (d := (a + M * b) / B) (by grind) (by grind)).mono (by grind)⟩
/-- A step of Horner's rule, for greater numbers. -/
theorem hstep {acc zz c : Nat} {A Z V e d : Rat} (α : Rat) (ha : Ap acc A e) (hz : Ap zz Z d) (hc : Ap c V 0) (a1 : rabs A ≤ α) (z0 : 0 ≤ Z) (z1 : Z ≤ 45/100) (hα : α ≤ 800) (hv : rabs V ≤ 500) (he : e ≤ 1 / 100000000000) (hd : d ≤ 1 / 100000000000000) :
    ∃ m r, double.mul acc zz = some m ∧ double.add m c = some r ∧ Ap r (A * Z + V) (45/100 * e + α * d + 1 / 4000000000000) ∧ rabs (A * Z + V) ≤ 45/100 * α + rabs V := by
  have e0 := ha.pos
  have d0 := hz.pos
  have nn : p2 (((10 : Nat) : Int) - 53) ≤ 12 / 100000000000000 := by decide +kernel
  have p0 : p2 ((10 : Nat) : Int) = 1024 := by decide +kernel
  have A1 := rabs_le.1 a1
  have V1 := rabs_le.1 hv
  have ed := Rat.mul_le_mul_of_nonneg_right he d0
  have α0 : 0 ≤ α := by have := rabs_nonneg A; grind
  have ad := Rat.mul_le_mul_of_nonneg_left hd α0
  have AZ := rabs_le.1 (mul_rabs a1 (show rabs Z ≤ 45/100 from rabs_le.2 ⟨z1, by grind⟩))
  generalize hu : p2 (((10 : Nat) : Int) - 53) = u at *
  obtain ⟨m, m1, m2⟩ := mul_ap α (45/100) 10 (by omega) ha hz A1.1 A1.2 z1 (by grind) (by rw [p0]; grind)
  rw [hu] at m2
  obtain ⟨r, r1, r2⟩ := add_ap 10 (by omega) m2 hc (by rw [p0]; grind) (by rw [p0]; grind)
  rw [hu] at r2
  refine ⟨m, r, m1, r1, r2.mono (by grind), ?_⟩
  have h3 := rabs_add (A * Z) V
  have h4 := mul_rabs a1 (show rabs Z ≤ 45/100 from rabs_le.2 ⟨z1, by grind⟩)
  grind
/-- What math.xatan runs through. -/
def XatP (x r : Nat) : Prop := ∃ z m1 h1 m2 h2 m3 h3 m4 h4 n k0 l1 k1 l2 k2 l3 k3 l4 k4 d e,
  double.mul x x = some z ∧ double.mul aP0 z = some m1 ∧ double.add m1 aP1 = some h1 ∧ double.mul h1 z = some m2 ∧ double.add m2 aP2 = some h2 ∧ double.mul h2 z = some m3 ∧ double.add m3 aP3 = some h3 ∧ double.mul h3 z = some m4 ∧ double.add m4 aP4 = some h4 ∧ double.mul z h4 = some n ∧
  double.add z aQ0 = some k0 ∧ double.mul k0 z = some l1 ∧ double.add l1 aQ1 = some k1 ∧ double.mul k1 z = some l2 ∧ double.add l2 aQ2 = some k2 ∧ double.mul k2 z = some l3 ∧ double.add l3 aQ3 = some k3 ∧ double.mul k3 z = some l4 ∧ double.add l4 aQ4 = some k4 ∧
  double.div n k4 = some d ∧ double.mul x d = some e ∧ double.add e x = some r
theorem aC : Ap aP0 (cv aP0) 0 ∧ Ap aP1 (cv aP1) 0 ∧ Ap aP2 (cv aP2) 0 ∧ Ap aP3 (cv aP3) 0 ∧ Ap aP4 (cv aP4) 0 ∧ Ap aQ0 (cv aQ0) 0 ∧ Ap aQ1 (cv aQ1) 0 ∧ Ap aQ2 (cv aQ2) 0 ∧ Ap aQ3 (cv aQ3) 0 ∧ Ap aQ4 (cv aQ4) 0 :=
  ⟨cv_ap (by decide +kernel), cv_ap (by decide +kernel), cv_ap (by decide +kernel), cv_ap (by decide +kernel), cv_ap (by decide +kernel), cv_ap (by decide +kernel), cv_ap (by decide +kernel), cv_ap (by decide +kernel), cv_ap (by decide +kernel), cv_ap (by decide +kernel)⟩
theorem aB : rabs (cv aP0) ≤ 1 ∧ rabs (cv aP1) ≤ 17 ∧ rabs (cv aP2) ≤ 76 ∧ rabs (cv aP3) ≤ 123 ∧ rabs (cv aP4) ≤ 65 ∧ rabs (cv aQ0) ≤ 25 ∧ rabs (cv aQ1) ≤ 166 ∧ rabs (cv aQ2) ≤ 433 ∧ rabs (cv aQ3) ≤ 486 ∧ rabs (cv aQ4) ≤ 195 := by decide +kernel
theorem pChain {z : Nat} {Z d : Rat} (hz : Ap z Z d) (z0 : 0 ≤ Z) (z1 : Z ≤ 45/100) (hd : d ≤ 6 / 1000000000000000) :
    ∃ m1 h1 m2 h2 m3 h3 m4 h4 n, double.mul aP0 z = some m1 ∧ double.add m1 aP1 = some h1 ∧ double.mul h1 z = some m2 ∧ double.add m2 aP2 = some h2 ∧ double.mul h2 z = some m3 ∧ double.add m3 aP3 = some h3 ∧ double.mul h3 z = some m4 ∧ double.add m4 aP4 = some h4 ∧ double.mul z h4 = some n ∧
      Ap n (Z * ((((cv aP0 * Z + cv aP1) * Z + cv aP2) * Z + cv aP3) * Z + cv aP4)) (3 / 1000000000000) ∧ rabs ((((cv aP0 * Z + cv aP1) * Z + cv aP2) * Z + cv aP3) * Z + cv aP4) ≤ 138 := by
  obtain ⟨c0, c1, c2, c3, c4, -⟩ := aC
  obtain ⟨b0, b1, b2, b3, b4, -⟩ := aB
  have d0 := hz.pos
  have hd' : d ≤ 1 / 100000000000000 := by grind
  have p10 : p2 ((10 : Nat) : Int) = 1024 := by decide +kernel
  have nn10 : p2 (((10 : Nat) : Int) - 53) ≤ 12 / 100000000000000 := by decide +kernel
  obtain ⟨m1, h1, f2, f3, g2, u2⟩ := hstep 1 c0 hz c1 b0 z0 z1 (by grind) (by clear c0 c1 c2 c3 c4; grind) (by grind) hd'
  generalize cv aP0 * Z + cv aP1 = H1 at *
  clear c0 c1 b0
  have g2 := g2.mono (e' := 1 / 3000000000000) (by grind)
  have u2 : rabs H1 ≤ 18 := by grind
  obtain ⟨m2, h2, f4, f5, g3, u3⟩ := hstep 18 g2 hz c2 u2 z0 z1 (by grind) (by clear c2 c3 c4; grind) (by grind) hd'
  generalize H1 * Z + cv aP2 = H2 at *
  clear c2 b1 u2 g2
  have g3 := g3.mono (e' := 1 / 1000000000000) (by grind)
  have u3 : rabs H2 ≤ 85 := by grind
  obtain ⟨m3, h3, f6, f7, g4, u4⟩ := hstep 85 g3 hz c3 u3 z0 z1 (by grind) (by clear c3 c4; grind) (by grind) hd'
  generalize H2 * Z + cv aP3 = H3 at *
  clear c3 b2 u3 g3
  have g4 := g4.mono (e' := 2 / 1000000000000) (by grind)
  have u4 : rabs H3 ≤ 162 := by grind
  obtain ⟨m4, h4, f8, f9, g5, u5⟩ := hstep 162 g4 hz c4 u4 z0 z1 (by grind) (by clear c4; grind) (by grind) hd'
  generalize H3 * Z + cv aP4 = H4 at *
  clear c4 b3 u4 g4
  have g5 := g5.mono (e' := 3 / 1000000000000) (by grind)
  have u5 : rabs H4 ≤ 138 := by grind
  clear b4
  have P1 := rabs_le.1 u5
  obtain ⟨n, f10, g6⟩ := mul_ap (45/100) 138 10 (by omega) hz g5 z1 (by grind) P1.1 P1.2 (by rw [p10]; grind)
  have g6 := g6.mono (e' := 3 / 1000000000000) (by grind)
  exact ⟨m1, h1, m2, h2, m3, h3, m4, h4, n, f2, f3, f4, f5, f6, f7, f8, f9, f10, g6, u5⟩
theorem qChain {z : Nat} {Z d : Rat} (hz : Ap z Z d) (z0 : 0 ≤ Z) (z1 : Z ≤ 45/100) (hd : d ≤ 6 / 1000000000000000) :
    ∃ k0 l1 k1 l2 k2 l3 k3 l4 k4, double.add z aQ0 = some k0 ∧ double.mul k0 z = some l1 ∧ double.add l1 aQ1 = some k1 ∧ double.mul k1 z = some l2 ∧ double.add l2 aQ2 = some k2 ∧ double.mul k2 z = some l3 ∧ double.add l3 aQ3 = some k3 ∧ double.mul k3 z = some l4 ∧ double.add l4 aQ4 = some k4 ∧
      Ap k4 (((((Z + cv aQ0) * Z + cv aQ1) * Z + cv aQ2) * Z + cv aQ3) * Z + cv aQ4) (8 / 1000000000000) := by
  obtain ⟨-, -, -, -, -, q0, q1, q2, q3, q4⟩ := aC
  obtain ⟨-, -, -, -, -, b0, b1, b2, b3, b4⟩ := aB
  have d0 := hz.pos
  have hd' : d ≤ 1 / 100000000000000 := by grind
  have p10 : p2 ((10 : Nat) : Int) = 1024 := by decide +kernel
  have nn10 : p2 (((10 : Nat) : Int) - 53) ≤ 12 / 100000000000000 := by decide +kernel
  have B0 := rabs_le.1 b0
  obtain ⟨k0, f1, g1⟩ := add_ap 10 (by omega) hz q0 (by rw [p10]; grind) (by rw [p10]; grind)
  have u1 : rabs (Z + cv aQ0) ≤ 26 := rabs_le.2 ⟨by grind, by grind⟩
  generalize Z + cv aQ0 = H0 at *
  clear q0 b0 B0
  have g1 := g1.mono (e' := 1 / 3000000000000) (by grind)
  obtain ⟨m1, h1, f2, f3, g2, u2⟩ := hstep 26 g1 hz q1 u1 z0 z1 (by grind) (by clear q1 q2 q3 q4; grind) (by grind) hd'
  generalize H0 * Z + cv aQ1 = H1 at *
  clear q1 g1 u1
  have g2 := g2.mono (e' := 1 / 1000000000000) (by grind)
  have u2 : rabs H1 ≤ 178 := by grind
  obtain ⟨m2, h2, f4, f5, g3, u3⟩ := hstep 178 g2 hz q2 u2 z0 z1 (by grind) (by clear q2 q3 q4; grind) (by grind) hd'
  generalize H1 * Z + cv aQ2 = H2 at *
  clear q2 b1 u2 g2
  have g3 := g3.mono (e' := 2 / 1000000000000) (by grind)
  have u3 : rabs H2 ≤ 514 := by grind
  obtain ⟨m3, h3, f6, f7, g4, u4⟩ := hstep 514 g3 hz q3 u3 z0 z1 (by grind) (by clear q3 q4; grind) (by grind) hd'
  generalize H2 * Z + cv aQ3 = H3 at *
  clear q3 b2 u3 g3
  have g4 := g4.mono (e' := 5 / 1000000000000) (by grind)
  have u4 : rabs H3 ≤ 720 := by grind
  obtain ⟨m4, h4, f8, f9, g5, u5⟩ := hstep 720 g4 hz q4 u4 z0 z1 (by grind) (by clear q4; grind) (by grind) hd'
  generalize H3 * Z + cv aQ4 = H4 at *
  exact ⟨k0, m1, h1, m2, h2, m3, h3, m4, h4, f1, f2, f3, f4, f5, f6, f7, f8, f9, g5.mono (by clear q4 b3 b4 u5; grind)⟩
theorem xat_run {x : Nat} {X e : Rat} (hx : Ap x X e) (hX : rabs X ≤ 67/100) (he : e ≤ 4 / 1000000000000000) :
    ∃ r R, XatP x r ∧ Ap r R (1 / 10000000000000) ∧ rabs (S R - X * C R) ≤ 78 / 100000000000000 ∧ rabs R ≤ 133/100 * rabs X ∧ (0 ≤ X → 0 ≤ R) ∧ (X ≤ 0 → R ≤ 0) := by
  have e0 := hx.pos
  have X1 := rabs_le.1 hX
  have p0 : p2 ((0 : Nat) : Int) = 1 := by decide +kernel
  have nn : p2 (((0 : Nat) : Int) - 53) ≤ 12 / 100000000000000000 := by decide +kernel
  have nn1 : p2 (((0 : Nat) : Int) - 54) ≤ 12 / 100000000000000000 := by decide +kernel
  have p1 : p2 ((1 : Nat) : Int) = 2 := by decide +kernel
  have nm1 : p2 (((1 : Nat) : Int) - 53) ≤ 24 / 100000000000000000 := by decide +kernel
  have z0 : 0 ≤ X * X := by
    by_cases q : 0 ≤ X
    · exact Rat.mul_nonneg q q
    · have := Rat.mul_nonneg (show 0 ≤ -X by grind) (show 0 ≤ -X by grind); grind
  have z1 : X * X ≤ 45/100 := by
    have := Rat.mul_nonneg (show 0 ≤ 67/100 - X by grind) (show 0 ≤ 67/100 + X by grind); grind
  have ee := Rat.mul_le_mul_of_nonneg_left he e0
  obtain ⟨z, f1, g1⟩ := mul_ap (67/100) (67/100) 0 (by omega) hx hx X1.1 X1.2 X1.1 X1.2 (by rw [p0]; grind)
  have hz := g1.mono (e' := 6 / 1000000000000000) (by grind)
  clear g1
  obtain ⟨m1, h1, m2, h2, m3, h3, m4, h4, n, f2, f3, f4, f5, f6, f7, f8, f9, f10, g6, u5⟩ := pChain hz z0 z1 (by grind)
  obtain ⟨k0, l1, k1, l2, k2, l3, k3, l4, k4, f11, f12, f13, f14, f15, f16, f17, f18, f19, g11⟩ := qChain hz z0 z1 (by grind)
  have eQ : pv xQ X = ((((X * X + cv aQ0) * (X * X) + cv aQ1) * (X * X) + cv aQ2) * (X * X) + cv aQ3) * (X * X) + cv aQ4 := by
    unfold xQ
    simp only [pv_cons]
    have e0 : pv [] X = 0 := rfl
    rw [e0]
    grind
  have eN : pv xN X = X * (pv xQ X + X * X * ((((cv aP0 * (X * X) + cv aP1) * (X * X) + cv aP2) * (X * X) + cv aP3) * (X * X) + cv aP4)) := by
    unfold xN
    rw [pv_cons, pv_add]
    simp only [pv_cons]
    have e0 : pv [] X = 0 := rfl
    rw [e0]
    grind
  have hQ := xQ_ge X
  rw [eQ] at hQ
  rw [eQ] at eN
  generalize hPP : (((cv aP0 * (X * X) + cv aP1) * (X * X) + cv aP2) * (X * X) + cv aP3) * (X * X) + cv aP4 = PP at *
  generalize hQQ : ((((X * X + cv aQ0) * (X * X) + cv aQ1) * (X * X) + cv aQ2) * (X * X) + cv aQ3) * (X * X) + cv aQ4 = QQ at *
  clear hPP hQQ
  have QQ0 : QQ ≠ 0 := by grind
  have hZP := rabs_le.1 (mul_rabs (show rabs (X * X) ≤ 45/100 from rabs_le.2 ⟨z1, by grind⟩) u5)
  have hM : rabs (X * X * PP / QQ) ≤ 32033/100000 := by
    have iq : QQ * QQ⁻¹ = 1 := Rat.mul_inv_cancel QQ QQ0
    have iq0 : 0 < QQ⁻¹ := Rat.inv_pos.2 (by grind)
    have iq1 : QQ⁻¹ ≤ 1/194 := by
      have := Rat.mul_nonneg (show 0 ≤ QQ - 194 by grind) (Rat.le_of_lt iq0); grind
    rw [Rat.div_def]
    have m := mul_rabs (show rabs (X * X * PP) ≤ 45/100 * 138 from rabs_le.2 hZP) (show rabs QQ⁻¹ ≤ 1/194 from rabs_le.2 ⟨iq1, by grind⟩)
    grind
  have M1 := rabs_le.1 hM
  clear hZP
  obtain ⟨d, f20, g12⟩ := div_ap 193 (32033/100000) 0 (by omega) g6 g11 (by grind) (by grind) hM (by rw [p0]; grind)
  have hRR : X * (1 + X * X * PP / QQ) * pv xQ X = pv xN X := by
    rw [eN, eQ]
    have : X * X * PP / QQ * QQ = X * X * PP := Rat.div_mul_cancel QQ0
    clear f1 f2 f3 f4 f5 f6 f7 f8 f9 f10 f11 f12 f13 f14 f15 f16 f17 f18 f19 f20
    grind
  obtain ⟨t1, -⟩ := at_near (x := X) (by grind) hRR
  clear hRR eN eQ
  generalize X * X * PP / QQ = W at *
  clear g6 g11 hQ QQ0 u5
  have g12 := g12.mono (e' := 5 / 100000000000000) (by grind)
  obtain ⟨w, f21, g13⟩ := mul_ap (67/100) (32033/100000) 0 (by omega) hx g12 X1.1 X1.2 M1.1 M1.2 (by rw [p0]; grind)
  have g13 := g13.mono (e' := 5 / 100000000000000) (by grind)
  have hXM := rabs_le.1 (mul_rabs hX hM)
  obtain ⟨r, f22, g14⟩ := add_ap 1 (by omega) g13 hx (by rw [p1]; grind) (by rw [p1]; grind)
  have g14 := g14.mono (e' := 1 / 10000000000000) (by grind)
  have eR : X * W + X = X * (1 + W) := by grind
  rw [eR] at g14
  refine ⟨r, _, ⟨z, m1, h1, m2, h2, m3, h3, m4, h4, n, k0, l1, k1, l2, k2, l3, k3, l4, k4, d, w, f1, f2, f3, f4, f5, f6, f7, f8, f9, f10, f11, f12, f13, f14, f15, f16, f17, f18, f19, f20, f21, f22⟩, g14, t1, ?_⟩
  have n1 : rabs (1 + W) ≤ 133/100 := rabs_le.2 ⟨by grind, by grind⟩
  have m := mul_rabs (show rabs X ≤ rabs X from Rat.le_refl) n1
  have w0 : 0 ≤ 1 + W := by grind
  refine ⟨by grind, fun h => Rat.mul_nonneg h w0, fun h => ?_⟩
  have := Rat.mul_nonneg (show 0 ≤ -X by grind) w0
  grind
end
section
open Ieee
def w066 : Nat := 4604119971053405471
def wT38 : Nat := 4612618744449965542
def wPi2 : Nat := 4609753056924675352
def wPi4 : Nat := 4605249457297304856
def wMB : Nat := 4364452196894661639
def wMBh : Nat := 4359948597267291143
def wPiA : Nat := 4614256656552045848
theorem Ap.of_near {w : Nat} {X Y e : Rat} (h : Ap w X e) (d : Rat) (h1 : rabs (X - Y) ≤ d) : Ap w Y (e + d) := by
  have := rabs_le.1 h1
  exact h.move (by grind) (by grind)
/-- What math.satan runs through. -/
def SatP (t : Nat) (T : Rat) (r : Nat) : Prop :=
  (T ≤ cv w066 ∧ XatP t r) ∨
  (cv w066 < T ∧ cv wT38 < T ∧ ∃ i x a, double.div wOne t = some i ∧ XatP i x ∧ double.sub wPi2 x = some a ∧ double.add a wMB = some r) ∨
  (cv w066 < T ∧ T ≤ cv wT38 ∧ ∃ n d q x a, double.sub t wOne = some n ∧ double.add t wOne = some d ∧ double.div n d = some q ∧ XatP q x ∧ double.add wPi4 x = some a ∧ double.add a wMBh = some r)
theorem rabs_pos {x : Rat} (h : 0 ≤ x) : rabs x = x := by unfold rabs; rw [if_pos h]
theorem sat_num : (65/100 ≤ cv w066 ∧ cv w066 ≤ 6601/10000) ∧ (24142/10000 ≤ cv wT38 ∧ cv wT38 ≤ 24143/10000) ∧ rabs (cv wPi2 - piQ / 2) ≤ 1 / 1000000000000000 ∧ rabs (cv wPi4 - piQ / 4) ≤ 1 / 1000000000000000 ∧ rabs (cv wMB) ≤ 1 / 1000000000000000 ∧ rabs (cv wMBh) ≤ 1 / 1000000000000000 ∧ rabs (cv wPiA - piQ) ≤ 1 / 1000000000000000 ∧ cv wOne = 1 := by decide +kernel
theorem sat_ap : Ap wPi2 (piQ / 2) (1 / 1000000000000000) ∧ Ap wPi4 (piQ / 4) (1 / 1000000000000000) ∧ Ap wMB 0 (1 / 1000000000000000) ∧ Ap wMBh 0 (1 / 1000000000000000) ∧ Ap wPiA piQ (1 / 1000000000000000) ∧ Ap wOne 1 0 := by
  obtain ⟨-, -, h1, h2, h3, h4, h5, h6⟩ := sat_num
  have z : ∀ e : Rat, 0 + e = e := fun e => by grind
  refine ⟨?_, ?_, ?_, ?_, ?_, ?_⟩
  · have := (cv_ap (show isNum wPi2 = true by decide +kernel)).of_near _ h1; rw [z] at this; exact this
  · have := (cv_ap (show isNum wPi4 = true by decide +kernel)).of_near _ h2; rw [z] at this; exact this
  · have := (cv_ap (show isNum wMB = true by decide +kernel)).of_near (Y := 0) (1 / 1000000000000000) (by have e : cv wMB - 0 = cv wMB := by grind
                                                                                                          rw [e]; exact h3)
    rw [z] at this; exact this
  · have := (cv_ap (show isNum wMBh = true by decide +kernel)).of_near (Y := 0) (1 / 1000000000000000) (by have e : cv wMBh - 0 = cv wMBh := by grind
                                                                                                           rw [e]; exact h4)
    rw [z] at this; exact this
  · have := (cv_ap (show isNum wPiA = true by decide +kernel)).of_near _ h5; rw [z] at this; exact this
  · have := cv_ap (show isNum wOne = true by decide +kernel); rw [h6] at this; exact this
theorem at_pi4 : rabs (S (piQ / 4) - C (piQ / 4)) ≤ 1 / 100000000000000 ∧ rabs (C (piQ / 4)) ≤ 71/100 ∧ 70/100 ≤ C (piQ / 4) := by decide +kernel
/-- An angle of a tangent from nought on. -/
structure Tan (T a : Rat) : Prop where
  n : rabs (S a - T * C a) ≤ 82 / 100000000000000 * (1 + T)
  a0 : 0 ≤ a
  a1 : a ≤ piQ / 2
theorem tan_lo {T R : Rat} (T0 : 0 ≤ T) (h : rabs (S R - T * C R) ≤ 78 / 100000000000000) (R0 : 0 ≤ R) (R1 : R ≤ 1) : Tan T R := by
  have := pi_num
  exact ⟨by grind, R0, by grind⟩
theorem tan_hi {T R : Rat} (T1 : 1 ≤ T) (h : rabs (S R - 1 / T * C R) ≤ 78 / 100000000000000) (R0 : 0 ≤ R) (R1 : R ≤ 1) : Tan T (piQ / 2 - R) := by
  have hp := pi_num
  refine ⟨?_, by grind, by grind⟩
  obtain ⟨-, -, p1, p2, -⟩ := at_pi
  have hR : rabs R ≤ 16/5 := rabs_le.2 ⟨by grind, by grind⟩
  have hq : rabs (piQ / 2) ≤ 32/5 := rabs_le.2 ⟨by grind, by grind⟩
  have s1 := rabs_le.1 (sin_sub hq hR)
  have s2 := rabs_le.1 (cos_sub hq hR)
  have hb := SC_bd (y := R) (by grind)
  have m1 := rabs_le.1 (mul_rabs p1 hb.1)
  have m2 := rabs_le.1 (mul_rabs p1 hb.2)
  have m3 := rabs_le.1 (mul_rabs p2 hb.1)
  have m4 := rabs_le.1 (mul_rabs p2 hb.2)
  have TT : rabs T ≤ T := by rw [rabs_pos (by grind)]; exact Rat.le_refl
  have k : T * (1 / T) = 1 := by rw [Rat.div_def]; have := Rat.mul_inv_cancel T (by grind); grind
  have hT := rabs_le.1 (mul_rabs TT h)
  have e1 : T * (S R - 1 / T * C R) = T * S R - C R := by
    have : T * (S R - 1 / T * C R) = T * S R - T * (1 / T) * C R := by grind
    rw [this, k]; grind
  rw [e1] at hT
  generalize S (piQ / 2) = sp at *
  generalize C (piQ / 2) = cp at *
  have c1 : rabs (S (piQ / 2 - R) - C R) ≤ 2 / 100000000000000 := rabs_le.2 ⟨by grind, by grind⟩
  have c2 : rabs (C (piQ / 2 - R) - S R) ≤ 2 / 100000000000000 := rabs_le.2 ⟨by grind, by grind⟩
  have m5 := rabs_le.1 (mul_rabs TT c2)
  have c1 := rabs_le.1 c1
  clear m1 m2 m3 m4 s1 s2 p1 p2 h
  rw [rabs_le]
  constructor <;> grind
theorem tan_mid {T R : Rat} (T0 : 13/20 ≤ T) (T1 : T ≤ 5/2) (h : rabs (S R - (T - 1) / (T + 1) * C R) ≤ 78 / 100000000000000) (R0 : -(3/5) ≤ R) (R1 : R ≤ 3/5) : Tan T (piQ / 4 + R) := by
  have hp := pi_num
  refine ⟨?_, by grind, by grind⟩
  obtain ⟨p1, p2, -⟩ := at_pi4
  have hR : rabs R ≤ 16/5 := rabs_le.2 ⟨by grind, by grind⟩
  have hq : rabs (piQ / 4) ≤ 32/5 := rabs_le.2 ⟨by grind, by grind⟩
  have s1 := rabs_le.1 (sin_add hq hR)
  have s2 := cos_add hq hR
  have hb := SC_bd (y := R) (by grind)
  have k : (T + 1) * ((T - 1) / (T + 1)) = T - 1 := by rw [Rat.div_def]; have := Rat.mul_inv_cancel (T + 1) (by grind); grind
  have hT := mul_rabs (show rabs (T + 1) ≤ T + 1 by rw [rabs_pos (by grind)]; exact Rat.le_refl) h
  have e1 : (T + 1) * (S R - (T - 1) / (T + 1) * C R) = (T + 1) * S R - (T - 1) * C R := by
    have : (T + 1) * (S R - (T - 1) / (T + 1) * C R) = (T + 1) * S R - (T + 1) * ((T - 1) / (T + 1)) * C R := by grind
    rw [this, k]
  rw [e1] at hT
  have hT2 := rabs_le.1 (mul_rabs p2 hT)
  have TT : rabs T ≤ 5/2 := rabs_le.2 ⟨T1, by grind⟩
  have m1 := rabs_le.1 (mul_rabs TT s2)
  have m2 := rabs_le.1 (mul_rabs p1 hb.2)
  have m3 := mul_rabs p1 hb.1
  have m4 := rabs_le.1 (mul_rabs TT m3)
  clear s2 m3 p1 hb e1 k h hT
  generalize S (piQ / 4) = sp at *
  generalize C (piQ / 4) = cp at *
  rw [rabs_le]
  constructor <;> grind
theorem sat_run {t : Nat} {T : Rat} (ht : Num t T) (T0 : 0 ≤ T) : ∃ r a, SatP t T r ∧ Ap r a (3 / 10000000000000) ∧ Tan T a := by
  obtain ⟨n1, n2, -⟩ := sat_num
  obtain ⟨p1, p2', p3, p4, p5, p6⟩ := sat_ap
  have hp := pi_num
  have q0 : p2 ((0 : Nat) : Int) = 1 := by decide +kernel
  have nn : p2 (((0 : Nat) : Int) - 53) ≤ 12 / 100000000000000000 := by decide +kernel
  have nn1 : p2 (((0 : Nat) : Int) - 54) ≤ 12 / 100000000000000000 := by decide +kernel
  have q2 : p2 ((2 : Nat) : Int) = 4 := by decide +kernel
  have nm2 : p2 (((2 : Nat) : Int) - 53) ≤ 48 / 100000000000000000 := by decide +kernel
  by_cases h1 : T ≤ cv w066
  · obtain ⟨r, R, g1, g2, g3, g4, g5, g6⟩ := xat_run ht.ap (by rw [rabs_pos T0]; grind) (by grind)
    rw [rabs_pos T0] at g4
    have g4 := rabs_le.1 g4
    exact ⟨r, R, .inl ⟨h1, g1⟩, g2.mono (by grind), tan_lo T0 g3 (g5 T0) (by grind)⟩
  by_cases h2 : T ≤ cv wT38
  · obtain ⟨n, f1, a1⟩ := sub_ap 2 (by omega) ht.ap p6 (by rw [q2]; grind) (by rw [q2]; grind)
    obtain ⟨d, f2, a2⟩ := add_ap 2 (by omega) ht.ap p6 (by rw [q2]; grind) (by rw [q2]; grind)
    have a1 := a1.mono (e' := 5 / 10000000000000000) (by grind)
    have a2 := a2.mono (e' := 5 / 10000000000000000) (by grind)
    have i0 : (T + 1) * (T + 1)⁻¹ = 1 := Rat.mul_inv_cancel (T + 1) (by grind)
    have i1 : 0 < (T + 1)⁻¹ := Rat.inv_pos.2 (by grind)
    have hM : rabs ((T - 1) / (T + 1)) ≤ 42/100 := by
      rw [Rat.div_def, rabs_le]
      have m1 := Rat.mul_nonneg (show 0 ≤ 42/100 * (T + 1) - (T - 1) by grind) (Rat.le_of_lt i1)
      have m2 := Rat.mul_nonneg (show 0 ≤ 42/100 * (T + 1) + (T - 1) by grind) (Rat.le_of_lt i1)
      constructor <;> grind
    obtain ⟨q, f3, a3⟩ := div_ap (3/2) (42/100) 0 (by omega) a1 a2 (by grind) (by grind) hM (by rw [q0]; grind)
    have a3 := a3.mono (e' := 1 / 1000000000000000) (by grind)
    obtain ⟨x, R, g1, g2, g3, g4, -, -⟩ := xat_run a3 (by grind) (by grind)
    generalize hX : (T - 1) / (T + 1) = X at *
    have g4 : rabs R ≤ 3/5 := by grind
    have R1 := rabs_le.1 g4
    obtain ⟨a, f4, a4⟩ := add_ap 2 (by omega) p2' g2 (by rw [q2]; grind) (by rw [q2]; grind)
    obtain ⟨r, f5, a5⟩ := add_ap 2 (by omega) a4 p4 (by rw [q2]; grind) (by rw [q2]; grind)
    have e : piQ / 4 + R + 0 = piQ / 4 + R := by grind
    rw [e] at a5
    refine ⟨r, _, .inr (.inr ⟨by grind, h2, n, d, q, x, a, f1, f2, f3, g1, f4, f5⟩), a5.mono (by grind), tan_mid (by grind) (by grind) (by rw [hX]; exact g3) R1.2 R1.1⟩
  · have hT2 : T * (1 / T) = 1 := by rw [Rat.div_def]; have := Rat.mul_inv_cancel T (by grind); grind
    have iT : 0 < 1 / T := by rw [Rat.div_def]; have : 0 < T⁻¹ := Rat.inv_pos.2 (by grind); grind
    have iT2 : 1 / T ≤ 42/100 := by
      have m := Rat.mul_nonneg (show 0 ≤ T - 24142/10000 by grind) (Rat.le_of_lt iT)
      grind
    obtain ⟨i, f1, a1⟩ := div_ap 2 (42/100) 0 (by omega) p6 ht.ap (by grind) (by grind) (by rw [rabs_pos (Rat.le_of_lt iT)]; exact iT2) (by rw [q0]; grind)
    have a1 := a1.mono (e' := 1 / 1000000000000000) (by grind)
    obtain ⟨x, R, g1, g2, g3, g4, g5, -⟩ := xat_run a1 (by rw [rabs_pos (Rat.le_of_lt iT)]; grind) (by grind)
    have R0 := g5 (Rat.le_of_lt iT)
    rw [rabs_pos (Rat.le_of_lt iT)] at g4
    have R1 := rabs_le.1 g4
    obtain ⟨a, f4, a4⟩ := sub_ap 2 (by omega) p1 g2 (by rw [q2]; grind) (by rw [q2]; grind)
    obtain ⟨r, f5, a5⟩ := add_ap 2 (by omega) a4 p3 (by rw [q2]; grind) (by rw [q2]; grind)
    have e : piQ / 2 - R + 0 = piQ / 2 - R := by grind
    rw [e] at a5
    exact ⟨r, _, .inr (.inl ⟨by grind, by grind, i, x, a, f1, g1, f4, f5⟩), a5.mono (by grind), tan_hi (by grind) g3 R0 (by grind)⟩
end
section
open Ieee
theorem circ9 {y : Rat} (hy : rabs y ≤ 16/5) : rabs (S y * S y + C y * C y - 1) ≤ 1 / 1000000000000000 := by
  have h := circ20 hy
  have t : (1 : Rat) / 10 ^ 20 ≤ 1 / 1000000000000000 := by decide +kernel
  grind
theorem sq_nonneg (a : Rat) : 0 ≤ a * a := by
  by_cases q : 0 ≤ a
  · exact Rat.mul_nonneg q q
  · have := Rat.mul_nonneg (show 0 ≤ -a by grind) (show 0 ≤ -a by grind); grind
theorem rabs_sq (a : Rat) : rabs a * rabs a = a * a := by unfold rabs; split <;> grind
theorem sq_le {a b : Rat} (h0 : 0 ≤ b) (h : rabs a ≤ b) : a * a ≤ b * b := by
  have h1 := rabs_nonneg a
  have m := Rat.mul_le_mul_of_nonneg_right h h1
  have m2 := Rat.mul_le_mul_of_nonneg_left h h0
  rw [← rabs_sq]
  grind
theorem Tan.p {T a : Rat} (T0 : 0 ≤ T) (h : Tan T a) : (1 + T) / 2 ≤ C a + T * S a := by
  have hp := pi_num
  obtain ⟨n, a0, a1⟩ := h
  have hc := C_up (d := 0) (x := a) (by grind) (by grind) (by grind) (by grind)
  have hs := S_up (d := 0) (x := a) (by grind) (by grind) (by grind) (by grind)
  have ci := rabs_le.1 (circ9 (y := a) (rabs_le.2 ⟨by grind, by grind⟩))
  have T2 := Rat.mul_nonneg T0 T0
  have k := sq_le (b := 82 / 100000000000000 * (1 + T)) (by grind) n
  generalize S a = s at *
  generalize C a = c at *
  by_cases q : (1 + T) / 2 ≤ c + T * s
  · exact q
  · exfalso
    have m := Rat.mul_nonneg T0 (show 0 ≤ s + 1 / 1000000000000 by grind)
    have lo : -(1 / 100000000000 * (1 + T)) ≤ c + T * s := by grind
    have k2 := sq_le (a := c + T * s) (b := (1 + T) / 2) (by grind) (rabs_le.2 ⟨by grind, by grind⟩)
    have e : (c + T * s) * (c + T * s) + (s - T * c) * (s - T * c) = (1 + T * T) * (s * s + c * c) := by grind
    have m1 := Rat.mul_nonneg (show 0 ≤ 1 + T * T by grind) (show 0 ≤ (s * s + c * c) - (1 - 1 / 1000000000000000) by grind)
    have m2 := sq_nonneg (T - 1)
    generalize (c + T * s) * (c + T * s) = u1 at *
    generalize (s - T * c) * (s - T * c) = u2 at *
    generalize s * s + c * c = u3 at *
    have e3 : (1 + T * T) * u3 = u3 + T * T * u3 := by grind
    grind
/-- A tangent with its sign. -/
structure TanS (V θ : Rat) : Prop where
  n : rabs (S θ - V * C θ) ≤ 82 / 100000000000000 * (1 + rabs V)
  p : (1 + rabs V) / 2 ≤ C θ + V * S θ
  a0 : -(piQ / 2) ≤ θ
  a1 : θ ≤ piQ / 2
theorem Tan.pos {T a : Rat} (T0 : 0 ≤ T) (h : Tan T a) : TanS T a := by
  have hp := pi_num
  have := h.p T0
  obtain ⟨n, a0, a1⟩ := h
  exact ⟨by rw [rabs_pos T0]; exact n, by rw [rabs_pos T0]; exact this, by grind, a1⟩
theorem Tan.neg {T a : Rat} (T0 : 0 ≤ T) (h : Tan T a) : TanS (-T) (-a) := by
  have hp := pi_num
  have := h.p T0
  obtain ⟨n, a0, a1⟩ := h
  have e : -S a - -T * C a = -(S a - T * C a) := by grind
  refine ⟨?_, ?_, by grind, by grind⟩
  · rw [rabs_neg, rabs_pos T0, S_neg, C_neg, e, rabs_neg]; exact n
  · rw [rabs_neg, rabs_pos T0, S_neg, C_neg]; grind
/-- The direction of a pair of numbers. -/
structure Dir (X Y θ : Rat) : Prop where
  n : rabs (X * S θ - Y * C θ) ≤ 87 / 100000000000000 * (rabs X + rabs Y)
  p : (rabs X + rabs Y) / 4 ≤ X * C θ + Y * S θ
  b : rabs θ ≤ piQ + 1 / 100000000000
theorem TanS.dir {X Y V θ : Rat} (X0 : 0 < X) (h : TanS V θ) (hV : rabs (V * X - Y) ≤ 1 / 100000000000000 * (rabs X + rabs Y)) : (rabs (X * S θ - Y * C θ) ≤ 84 / 100000000000000 * (rabs X + rabs Y) ∧ (rabs X + rabs Y) * (3/10) ≤ X * C θ + Y * S θ) ∧ rabs θ ≤ piQ / 2 := by
  have hp := pi_num
  obtain ⟨n, p, a0, a1⟩ := h
  have ht : rabs θ ≤ piQ / 2 := rabs_le.2 ⟨a1, a0⟩
  refine ⟨⟨?_, ?_⟩, ht⟩
  · have hb := SC_bd (y := θ) (by grind)
    have m1 := mul_rabs (show rabs X ≤ X by rw [rabs_pos (by grind)]; exact Rat.le_refl) n
    have m2 := rabs_le.1 (mul_rabs hV hb.2)
    have e : X * (82 / 100000000000000 * (1 + rabs V)) = 82 / 100000000000000 * (X + rabs (V * X)) := by
      rw [rabs_mul, rabs_pos (show 0 ≤ X by grind)]; grind
    rw [e] at m1
    have m1 := rabs_le.1 m1
    have t := rabs_add (V * X - Y) Y
    have e2 : V * X - Y + Y = V * X := by grind
    rw [e2] at t
    have ex := rabs_pos (show 0 ≤ X by grind)
    have ny := rabs_nonneg Y
    have k : X * S θ - Y * C θ = X * (S θ - V * C θ) + (V * X - Y) * C θ := by grind
    rw [k, rabs_le]
    generalize X * (S θ - V * C θ) = u1 at *
    generalize (V * X - Y) * C θ = u2 at *
    generalize rabs (V * X - Y) = u3 at *
    generalize rabs (V * X) = u4 at *
    generalize rabs Y = u5 at *
    clear n p k e e2 hb a0 a1 ht hp
    constructor <;> grind
  · have hb := SC_bd (y := θ) (by grind)
    have m1 := Rat.mul_nonneg (show 0 ≤ X by grind) (show 0 ≤ C θ + V * S θ - (1 + rabs V) / 2 by grind)
    have m2 := rabs_le.1 (mul_rabs hV hb.1)
    have e : X * rabs V = rabs (V * X) := by rw [rabs_mul, rabs_pos (show 0 ≤ X by grind)]; grind
    have t := rabs_add (Y - V * X) (V * X)
    have e2 : Y - V * X + V * X = Y := by grind
    rw [e2] at t
    have e3 : rabs (Y - V * X) = rabs (V * X - Y) := by
      have : Y - V * X = -(V * X - Y) := by grind
      rw [this, rabs_neg]
    rw [e3] at t
    have ex := rabs_pos (show 0 ≤ X by grind)
    have ny := rabs_nonneg Y
    have k : X * C θ + Y * S θ = X * (C θ + V * S θ - (1 + rabs V) / 2) + (X + X * rabs V) / 2 - (V * X - Y) * S θ := by grind
    rw [k, e]
    generalize X * (C θ + V * S θ - (1 + rabs V) / 2) = u1 at *
    generalize (V * X - Y) * S θ = u2 at *
    generalize rabs (V * X - Y) = u3 at *
    generalize rabs (V * X) = u4 at *
    generalize rabs Y = u5 at *
    clear n p k e e2 e3 hb a0 a1 ht hp
    grind
theorem TanS.dir1 {X Y V θ : Rat} (X0 : 0 < X) (h : TanS V θ) (hV : rabs (V * X - Y) ≤ 1 / 100000000000000 * (rabs X + rabs Y)) : Dir X Y θ := by
  obtain ⟨⟨a, b⟩, c⟩ := h.dir X0 hV
  have hp := pi_num
  have x0 := rabs_nonneg X
  have y0 := rabs_nonneg Y
  exact ⟨by grind, by grind, by grind⟩
/-- Half a turn more, or less. -/
theorem Dir.half {X Y θ : Rat} (ht : rabs θ ≤ piQ / 2) (d : Rat) (hd : d = 1 ∨ d = -1) (hb : rabs (θ + d * piQ) ≤ piQ + 1 / 100000000000) (hn : rabs (-X * S θ - -Y * C θ) ≤ 84 / 100000000000000 * (rabs X + rabs Y)) (hpp : (rabs X + rabs Y) * (3/10) ≤ -X * C θ + -Y * S θ) : Dir X Y (θ + d * piQ) := by
  have hp := pi_num
  obtain ⟨p1, p2, -⟩ := at_pi
  have d1 : rabs d ≤ 1 := by rcases hd with rfl | rfl <;> decide +kernel
  have hdp : rabs (d * piQ) ≤ 16/5 := by
    have := mul_rabs d1 (show rabs piQ ≤ piQ by rw [rabs_pos (by grind)]; exact Rat.le_refl); grind
  have hS : rabs (S (d * piQ)) ≤ 1 / 100000000000000000 ∧ rabs (C (d * piQ) + 1) ≤ 1 / 100000000000000000 := by
    rcases hd with rfl | rfl
    · have e : 1 * piQ = piQ := by grind
      rw [e]; exact ⟨p1, p2⟩
    · have e : -1 * piQ = -piQ := by grind
      rw [e, S_neg, C_neg, rabs_neg]; exact ⟨p1, p2⟩
  have a1 := rabs_le.1 (sin_add (x := θ) (y := d * piQ) (by grind) hdp)
  have a2 := rabs_le.1 (cos_add (x := θ) (y := d * piQ) (by grind) hdp)
  have bb := SC_bd (y := θ) (by grind)
  have m1 := rabs_le.1 (mul_rabs hS.1 bb.1)
  have m2 := rabs_le.1 (mul_rabs hS.1 bb.2)
  have m3 := rabs_le.1 (mul_rabs hS.2 bb.1)
  have m4 := rabs_le.1 (mul_rabs hS.2 bb.2)
  generalize S (d * piQ) = sd at *
  generalize C (d * piQ) = cd at *
  have c1 : rabs (S (θ + d * piQ) + S θ) ≤ 2 / 100000000000000 := rabs_le.2 ⟨by grind, by grind⟩
  have c2 : rabs (C (θ + d * piQ) + C θ) ≤ 2 / 100000000000000 := rabs_le.2 ⟨by grind, by grind⟩
  clear m1 m2 m3 m4 a1 a2 p1 p2 hS bb
  have rx : rabs X ≤ rabs X := Rat.le_refl
  have ry : rabs Y ≤ rabs Y := Rat.le_refl
  have n1 := rabs_le.1 (mul_rabs rx c1)
  have n2 := rabs_le.1 (mul_rabs rx c2)
  have n3 := rabs_le.1 (mul_rabs ry c1)
  have n4 := rabs_le.1 (mul_rabs ry c2)
  have x0 := rabs_nonneg X
  have y0 := rabs_nonneg Y
  have hn := rabs_le.1 hn
  refine ⟨?_, ?_, hb⟩
  all_goals
    clear hb hd d1 hdp c1 c2 rx ry ht hp
    generalize S (θ + d * piQ) = s at *
    generalize C (θ + d * piQ) = c at *
    generalize rabs X = ax at *
    generalize rabs Y = ay at *
  · rw [rabs_le]
    constructor <;> grind
  · grind
end
end Go.Proofs.YtcgnhnmigmdalaaGreatDoor
