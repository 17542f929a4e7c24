/- The addition theorems of the polynomials of the sine and the cosine, up to an error. No program in sight. -/
import Derived.Test.YtffnmfcaoldlhaaDoorFltB
set_option linter.unusedVariables false
set_option linter.unusedSimpArgs false
namespace Go.Proofs.YtffnmfcaoldlhaaDoor
/-- Polynomials of two numbers: the coefficients of the powers of the first are polynomials of the second. -/
def pv2 (L : List (List Rat)) (x y : Rat) : Rat := L.foldr (fun p a => pv p y + x * a) 0
def badd : List (List Rat) → List (List Rat) → List (List Rat)
  | [], q => q
  | p, [] => p
  | a :: p, b :: q => padd a b :: badd p q
def bscale (c : Rat) (L : List (List Rat)) : List (List Rat) := L.map (pscale c)
/-- p at x + y. -/
def bsh : List Rat → List (List Rat)
  | [] => []
  | c :: p => badd [[c]] (badd ([] :: bsh p) ((bsh p).map (0 :: ·)))
def bout (p q : List Rat) : List (List Rat) := p.map (fun a => pscale a q)
def pbd2 (L : List (List Rat)) (A B : Rat) : Rat := L.foldr (fun p a => pbd p B + A * a) 0
theorem pv2_cons (p : List Rat) (L : List (List Rat)) (x y : Rat) : pv2 (p :: L) x y = pv p y + x * pv2 L x y := rfl
theorem pv2_nil (x y : Rat) : pv2 [] x y = 0 := rfl
theorem pv2_add : ∀ (P Q : List (List Rat)) (x y : Rat), pv2 (badd P Q) x y = pv2 P x y + pv2 Q x y
  | [], Q, x, y => by unfold badd; rw [pv2_nil]; grind
  | a :: P, [], x, y => by unfold badd; rw [pv2_nil]; grind
  | a :: P, b :: Q, x, y => by
    unfold badd
    rw [pv2_cons, pv2_cons, pv2_cons, pv_add, pv2_add P Q x y]
    grind
theorem pv2_scale (c : Rat) : ∀ (P : List (List Rat)) (x y : Rat), pv2 (bscale c P) x y = c * pv2 P x y
  | [], x, y => by unfold bscale; simp only [List.map_nil, pv2_nil]; grind
  | a :: P, x, y => by
    have := pv2_scale c P x y
    unfold bscale at this ⊢
    rw [List.map_cons, pv2_cons, pv2_cons, pv_scale, this]
    grind
theorem pv2_up : ∀ (P : List (List Rat)) (x y : Rat), pv2 (P.map (0 :: ·)) x y = y * pv2 P x y
  | [], x, y => by simp only [List.map_nil, pv2_nil]; grind
  | a :: P, x, y => by
    have := pv2_up P x y
    rw [List.map_cons, pv2_cons, pv2_cons, pv_cons, this]
    grind
theorem pv2_sh : ∀ (p : List Rat) (x y : Rat), pv2 (bsh p) x y = pv p (x + y)
  | [], x, y => rfl
  | c :: p, x, y => by
    have := pv2_sh p x y
    unfold bsh
    rw [pv2_add, pv2_add, pv2_up, pv2_cons, pv2_cons, pv_cons c p (x + y), this, pv2_nil]
    have e1 : pv [c] y = c := by unfold pv; simp; grind
    have e2 : pv [] y = 0 := rfl
    rw [e1, e2]
    grind
theorem pv2_out : ∀ (p q : List Rat) (x y : Rat), pv2 (bout p q) x y = pv p x * pv q y
  | [], q, x, y => by unfold bout; simp only [List.map_nil, pv2_nil]; unfold pv; simp
  | a :: p, q, x, y => by
    have := pv2_out p q x y
    unfold bout at this ⊢
    rw [List.map_cons, pv2_cons, pv_cons, pv_scale, this]
    grind
theorem pv2_bd {A B x y : Rat} (hx : rabs x ≤ A) (hy : rabs y ≤ B) : ∀ L : List (List Rat), rabs (pv2 L x y) ≤ pbd2 L A B ∧ 0 ≤ pbd2 L A B
  | [] => by unfold pv2 pbd2 rabs; simp
  | p :: L => by
    have h0 := rabs_nonneg x
    have h1 := pv2_bd hx hy L
    have hB : 0 ≤ B := by have := rabs_nonneg y; grind
    have h2 := pbd_nonneg hB p
    have h3 := rabs_add (pv p y) (x * pv2 L x y)
    rw [rabs_mul] at h3
    have h4 := Rat.mul_le_mul_of_nonneg_left h1.1 h0
    have h5 := Rat.mul_le_mul_of_nonneg_right hx h1.2
    have h6 := pv_bd hy p
    have h7 := Rat.mul_nonneg (show 0 ≤ A by grind) h1.2
    show rabs (pv p y + x * pv2 L x y) ≤ pbd p B + A * pbd2 L A B ∧ 0 ≤ pbd p B + A * pbd2 L A B
    constructor <;> grind
theorem pv2_near {A B x y e : Rat} (hx : rabs x ≤ A) (hy : rabs y ≤ B) (P Q : List (List Rat)) (hb : pbd2 (badd P (bscale (-1) Q)) A B ≤ e) : rabs (pv2 P x y - pv2 Q x y) ≤ e := by
  have h := (pv2_bd hx hy (badd P (bscale (-1) Q))).1
  rw [pv2_add, pv2_scale] at h
  have e1 : pv2 P x y + -1 * pv2 Q x y = pv2 P x y - pv2 Q x y := by grind
  rw [e1] at h
  grind
theorem adds : pbd2 (badd (bsh sT) (bscale (-1) (badd (bout sT cT) (bout cT sT)))) (32/5) (16/5) ≤ 1 / 10 ^ 13 := by decide +kernel
theorem addc : pbd2 (badd (bsh cT) (bscale (-1) (badd (bout cT cT) (bscale (-1) (bout sT sT))))) (32/5) (16/5) ≤ 1 / 10 ^ 13 := by decide +kernel
theorem sin_add {x y : Rat} (hx : rabs x ≤ 32/5) (hy : rabs y ≤ 16/5) : rabs (S (x + y) - (S x * C y + C x * S y)) ≤ 1 / 10000000000000 := by
  have h := pv2_near hx hy _ _ adds
  rw [pv2_sh, pv2_add, pv2_out, pv2_out] at h
  have e : (1 : Rat) / 10 ^ 13 = 1 / 10000000000000 := by decide +kernel
  rw [e] at h
  exact h
theorem cos_add {x y : Rat} (hx : rabs x ≤ 32/5) (hy : rabs y ≤ 16/5) : rabs (C (x + y) - (C x * C y - S x * S y)) ≤ 1 / 10000000000000 := by
  have h := pv2_near hx hy _ _ addc
  rw [pv2_sh, pv2_add, pv2_scale, pv2_out, pv2_out] at h
  have e : (1 : Rat) / 10 ^ 13 = 1 / 10000000000000 := by decide +kernel
  have e1 : pv cT x * pv cT y + -1 * (pv sT x * pv sT y) = pv cT x * pv cT y - pv sT x * pv sT y := by grind
  rw [e, e1] at h
  exact h
theorem S_neg (x : Rat) : S (-x) = -S x := by
  have h := pv_stretch (-1) sT 1 x
  have e : pstretch (-1) 1 sT = pscale (-1) sT := by decide +kernel
  rw [e, pv_scale] at h
  have e2 : -1 * x = -x := by grind
  rw [e2] at h
  unfold S
  grind
theorem C_neg (x : Rat) : C (-x) = C x := by
  have h := pv_stretch (-1) cT 1 x
  have e : pstretch (-1) 1 cT = cT := by decide +kernel
  rw [e] at h
  have e2 : -1 * x = -x := by grind
  rw [e2] at h
  unfold C
  grind
end Go.Proofs.YtffnmfcaoldlhaaDoor
