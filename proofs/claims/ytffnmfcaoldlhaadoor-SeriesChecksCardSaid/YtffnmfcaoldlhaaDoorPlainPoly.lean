/- Polynomials over the rational numbers, as lists of coefficients. No program in sight. -/
namespace Go.Proofs.YtffnmfcaoldlhaaDoor
/-- The value at a number. -/
def pv (p : List Rat) (x : Rat) : Rat := p.foldr (fun c a => c + x * a) 0
def padd : List Rat → List Rat → List Rat
  | [], q => q
  | p, [] => p
  | a :: p, b :: q => (a + b) :: padd p q
def pscale (c : Rat) (p : List Rat) : List Rat := p.map (c * ·)
def pmul : List Rat → List Rat → List Rat
  | [], _ => []
  | a :: p, q => padd (pscale a q) (0 :: pmul p q)
/-- p at x + h. -/
def pshift (h : Rat) : List Rat → List Rat
  | [] => []
  | a :: p => padd [a] (pmul [h, 1] (pshift h p))
/-- p at h x. -/
def pstretch (h : Rat) : Rat → List Rat → List Rat
  | _, [] => []
  | k, a :: p => (a * k) :: pstretch h (k * h) p
def rabs (x : Rat) : Rat := if 0 ≤ x then x else -x
/-- A bound of the values from -R to R. -/
def pbd (p : List Rat) (R : Rat) : Rat := p.foldr (fun c a => rabs c + R * a) 0
theorem pv_cons (a : Rat) (p : List Rat) (x : Rat) : pv (a :: p) x = a + x * pv p x := rfl
theorem pv_add : ∀ (p q : List Rat) (x : Rat), pv (padd p q) x = pv p x + pv q x
  | [], q, x => by unfold padd pv; simp; grind
  | a :: p, [], x => by unfold padd pv; simp; grind
  | a :: p, b :: q, x => by
    unfold padd
    rw [pv_cons, pv_cons, pv_cons, pv_add p q x]
    grind
theorem pv_scale (c : Rat) : ∀ (p : List Rat) (x : Rat), pv (pscale c p) x = c * pv p x
  | [], x => by unfold pscale pv; simp
  | a :: p, x => by
    have := pv_scale c p x
    unfold pscale at this ⊢
    rw [List.map_cons, pv_cons, pv_cons, this]
    grind
theorem pv_mul : ∀ (p q : List Rat) (x : Rat), pv (pmul p q) x = pv p x * pv q x
  | [], q, x => by unfold pmul pv; simp
  | a :: p, q, x => by
    unfold pmul
    rw [pv_add, pv_scale, pv_cons, pv_cons, pv_mul p q x]
    grind
theorem pv_shift (h : Rat) : ∀ (p : List Rat) (x : Rat), pv (pshift h p) x = pv p (x + h)
  | [], x => rfl
  | a :: p, x => by
    unfold pshift
    rw [pv_add, pv_mul, pv_shift h p x, pv_cons a p (x + h)]
    have e1 : pv [a] x = a := by unfold pv; simp; grind
    have e2 : pv [h, 1] x = x + h := by unfold pv; simp; grind
    rw [e1, e2]
theorem pv_stretch (h : Rat) : ∀ (p : List Rat) (k x : Rat), pv (pstretch h k p) x = k * pv p (h * x)
  | [], k, x => by unfold pstretch pv; simp
  | a :: p, k, x => by
    unfold pstretch
    rw [pv_cons, pv_cons, pv_stretch h p (k * h) x]
    grind
theorem rabs_le {x b : Rat} : rabs x ≤ b ↔ x ≤ b ∧ -b ≤ x := by
  unfold rabs
  split <;> constructor <;> intro h <;> first | (constructor <;> grind) | grind
theorem rabs_nonneg (x : Rat) : 0 ≤ rabs x := by unfold rabs; split <;> grind
theorem rabs_mul (x y : Rat) : rabs (x * y) = rabs x * rabs y := by
  have key : ∀ a b : Rat, 0 ≤ a → 0 ≤ b → 0 ≤ a * b := fun a b => Rat.mul_nonneg
  unfold rabs
  by_cases h1 : 0 ≤ x <;> by_cases h2 : 0 ≤ y
  · rw [if_pos h1, if_pos h2, if_pos (key _ _ h1 h2)]
  · rw [if_pos h1, if_neg h2]
    have := key x (-y) h1 (by grind)
    split <;> grind
  · rw [if_neg h1, if_pos h2]
    have := key (-x) y (by grind) h2
    split <;> grind
  · rw [if_neg h1, if_neg h2]
    have := key (-x) (-y) (by grind) (by grind)
    split <;> grind
theorem rabs_add (x y : Rat) : rabs (x + y) ≤ rabs x + rabs y := by
  unfold rabs; split <;> split <;> split <;> grind
theorem pbd_nonneg {R : Rat} (hR : 0 ≤ R) : ∀ p : List Rat, 0 ≤ pbd p R
  | [] => by unfold pbd; simp
  | a :: p => by
    have h1 := pbd_nonneg hR p
    have h2 := Rat.mul_nonneg hR h1
    have h3 := rabs_nonneg a
    show 0 ≤ rabs a + R * pbd p R
    grind
theorem pv_bd {R x : Rat} (hx : rabs x ≤ R) : ∀ p : List Rat, rabs (pv p x) ≤ pbd p R
  | [] => by unfold pv pbd rabs; simp
  | a :: p => by
    have h0 := rabs_nonneg x
    have h1 := pv_bd hx p
    have h2 := pbd_nonneg (R := R) (by grind) p
    have h3 := rabs_add a (x * pv p x)
    rw [rabs_mul] at h3
    have h4 := Rat.mul_le_mul_of_nonneg_left h1 h0
    have h5 := Rat.mul_le_mul_of_nonneg_right hx h2
    show rabs (a + x * pv p x) ≤ rabs a + R * pbd p R
    grind
/-- Two polynomials are near where the bound of their difference is small. -/
theorem pv_near {R x e : Rat} (hx : rabs x ≤ R) (p q : List Rat) (hb : pbd (padd p (pscale (-1) q)) R ≤ e) : pv p x ≤ pv q x + e ∧ pv q x ≤ pv p x + e := by
  have h := pv_bd hx (padd p (pscale (-1) q))
  rw [pv_add, pv_scale] at h
  obtain ⟨h1, h2⟩ := rabs_le.1 (show rabs (pv p x + -1 * pv q x) ≤ e by grind)
  constructor <;> grind
/-- Taylor's polynomials of the sine and the cosine. -/
def tayF : Nat → Nat → Rat → List Rat
  | 0, _, _ => []
  | n + 1, k, c => c :: tayF n (k + 1) (c / ((k + 1 : Nat) : Rat))
def signs : Nat → List Rat → List Rat
  | _, [] => []
  | k, a :: p => (if k % 4 = 0 then 0 else if k % 4 = 1 then a else if k % 4 = 2 then 0 else -a) :: signs (k + 1) p
def sT : List Rat := signs 0 (tayF 48 0 1)
def cT : List Rat := signs 1 (tayF 48 0 1)
def S (x : Rat) : Rat := pv sT x
def C (x : Rat) : Rat := pv cT x
theorem double_sin : pbd (padd (pstretch 2 1 sT) (pscale (-1) (pscale 2 (pmul sT cT)))) (16/5) ≤ 1 / 10 ^ 18 := by decide +kernel
theorem double_cos : pbd (padd (pstretch 2 1 cT) (pscale (-1) (padd [1] (pscale (-2) (pmul sT sT))))) (16/5) ≤ 1 / 10 ^ 18 := by decide +kernel
/-- The half of a turn, to forty digits. -/
def piQ : Rat := 31415926535897932384626433832795028841971 / 10 ^ 40
theorem quart1s : pbd (padd (pshift (piQ / 2) sT) (pscale (-1) cT)) (4/5) ≤ 1 / 10 ^ 18 := by decide +kernel
theorem quart2s : pbd (padd (pshift piQ sT) (pscale (-1) (pscale (-1) sT))) (4/5) ≤ 1 / 10 ^ 18 := by decide +kernel
theorem quart3s : pbd (padd (pshift (3 * piQ / 2) sT) (pscale (-1) (pscale (-1) cT))) (4/5) ≤ 1 / 10 ^ 18 := by decide +kernel
theorem quart4s : pbd (padd (pshift (2 * piQ) sT) (pscale (-1) sT)) (4/5) ≤ 1 / 10 ^ 18 := by decide +kernel
theorem circle : pbd (padd (padd (pmul sT sT) (pmul cT cT)) [-1]) (16/5) ≤ 1 / 10 ^ 18 := by decide +kernel
theorem sin_cos_le {y : Rat} (hy : rabs y ≤ 16/5) : (S y ≤ 1 + 1 / 10 ^ 18 ∧ -(1 + 1 / 10 ^ 18) ≤ S y) ∧ C y ≤ 1 + 1 / 10 ^ 18 ∧ -(1 + 1 / 10 ^ 18) ≤ C y := by
  have h := pv_bd hy (padd (padd (pmul sT sT) (pmul cT cT)) [-1])
  rw [pv_add, pv_add, pv_mul, pv_mul] at h
  have e1 : pv [-1] y = -1 := by unfold pv; simp; grind
  rw [e1] at h
  obtain ⟨h1, h2⟩ := rabs_le.1 (show rabs (S y * S y + C y * C y + -1) ≤ 1 / 10 ^ 18 by have := circle; unfold S C; grind)
  have sq : ∀ a : Rat, 0 ≤ a * a := fun a => by
    by_cases q : 0 ≤ a
    · exact Rat.mul_nonneg q q
    · have := Rat.mul_nonneg (show 0 ≤ -a by grind) (show 0 ≤ -a by grind); grind
  have key : ∀ a : Rat, a * a ≤ 1 + 1 / 10 ^ 18 → a ≤ 1 + 1 / 10 ^ 18 ∧ -(1 + 1 / 10 ^ 18) ≤ a := by
    intro a ha
    constructor
    · by_cases q : a ≤ 1 + 1 / 10 ^ 18
      · exact q
      · have := Rat.mul_nonneg (show 0 ≤ a - (1 + 1 / 10 ^ 18) by grind) (show 0 ≤ a by grind)
        grind
    · by_cases q : -(1 + 1 / 10 ^ 18) ≤ a
      · exact q
      · have := Rat.mul_nonneg (show 0 ≤ -a - (1 + 1 / 10 ^ 18) by grind) (show 0 ≤ -a by grind)
        grind
  have q1 := sq (S y)
  have q2 := sq (C y)
  exact ⟨key (S y) (by grind), key (C y) (by grind)⟩
theorem sin_double {y : Rat} (hy : rabs y ≤ 16/5) : S (2 * y) ≤ 2 * S y * C y + 1 / 10 ^ 18 ∧ 2 * S y * C y ≤ S (2 * y) + 1 / 10 ^ 18 := by
  have h := pv_near hy _ _ double_sin
  rw [pv_stretch, pv_scale, pv_mul] at h
  unfold S C
  constructor <;> grind
theorem cos_double {y : Rat} (hy : rabs y ≤ 16/5) : C (2 * y) ≤ 1 - 2 * S y * S y + 1 / 10 ^ 18 ∧ 1 - 2 * S y * S y ≤ C (2 * y) + 1 / 10 ^ 18 := by
  have h := pv_near hy _ _ double_cos
  rw [pv_stretch, pv_add, pv_scale, pv_mul] at h
  have e1 : pv [1] y = 1 := by unfold pv; simp; grind
  rw [e1] at h
  unfold S C
  constructor <;> grind
end Go.Proofs.YtffnmfcaoldlhaaDoor
