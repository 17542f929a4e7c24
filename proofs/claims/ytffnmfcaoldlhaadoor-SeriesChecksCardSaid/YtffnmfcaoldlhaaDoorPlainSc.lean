/- The reference's sine and cosine by doubling, in plain terms: how far they are from Taylor's polynomials. No program in sight. -/
import Derived.Test.YtffnmfcaoldlhaaDoorPlainPoly
set_option linter.unusedVariables false
set_option linter.unusedSimpArgs false
namespace Go.Proofs.YtffnmfcaoldlhaaDoor
def U60 : Int := 1152921504606846976
/-- The product of two fine numbers. -/
def fm (a b : Int) : Int := (a * b).tdiv U60
def scStep (p : Int × Int) : Int × Int := (2 * fm p.1 (U60 - p.2), 2 * fm p.1 p.1)
def scIter : Nat → Int × Int → Int × Int
  | 0, p => p
  | k + 1, p => scIter k (scStep p)
def scStart (x : Int) : Int × Int := (x - (fm x (fm x x)).tdiv 6 + (fm (fm x (fm x x)) (fm x x)).tdiv 120, (fm x x).tdiv 2 - (fm (fm x x) (fm x x)).tdiv 24)
def scX (arg : Int) : Int := (arg * 7244 + (arg / 1000000 * 19458077) / 1000) / 4096
/-- What SinCos answers for an argument from 0 to a turn. -/
def sc (arg : Int) : Int × Int := ((scIter 12 (scStart (scX arg))).1, U60 - (scIter 12 (scStart (scX arg))).2)
def uQ : Rat := 1152921504606846976
theorem uQ_eq : ((U60 : Int) : Rat) = uQ := rfl
theorem tdiv_near (n d : Int) (hd : 0 < d) : ((n.tdiv d : Int) : Rat) * (d : Rat) ≤ (n : Rat) + (d : Rat) ∧ (n : Rat) ≤ ((n.tdiv d : Int) : Rat) * (d : Rat) + (d : Rat) := by
  have e := Int.tmod_add_tdiv_mul n d
  have h1 := Int.tmod_lt_of_pos n hd
  have h2 := Int.lt_tmod_of_pos n hd
  have a1 : n.tdiv d * d ≤ n + d := by omega
  have a2 : n ≤ n.tdiv d * d + d := by omega
  have b1 : ((n.tdiv d * d : Int) : Rat) ≤ ((n + d : Int) : Rat) := by exact_mod_cast a1
  have b2 : ((n : Int) : Rat) ≤ ((n.tdiv d * d + d : Int) : Rat) := by exact_mod_cast a2
  push_cast at b1 b2
  exact ⟨b1, b2⟩
/-- A product is right up to a unit. -/
theorem fm_near (a b : Int) : (fm a b : Rat) * uQ ≤ (a : Rat) * b + uQ ∧ (a : Rat) * b ≤ (fm a b : Rat) * uQ + uQ := by
  have h := tdiv_near (a * b) U60 (by decide)
  rw [uQ_eq] at h
  push_cast at h
  exact h
/-- Near: a whole number of units and a number. -/
def Nr (n : Int) (X e : Rat) : Prop := (n : Rat) ≤ uQ * X + e ∧ uQ * X ≤ (n : Rat) + e
theorem Nr.mono {n : Int} {X e e' : Rat} (h : Nr n X e) (he : e ≤ e') : Nr n X e' := ⟨by have := h.1; grind, by have := h.2; grind⟩
theorem Nr.move {n : Int} {X Y e d : Rat} (h : Nr n X e) (h1 : X ≤ Y + d) (h2 : Y ≤ X + d) : Nr n Y (e + uQ * d) := by
  obtain ⟨a, b⟩ := h
  have u : (0 : Rat) ≤ uQ := by decide +kernel
  have c1 := Rat.mul_le_mul_of_nonneg_left h1 u
  have c2 := Rat.mul_le_mul_of_nonneg_left h2 u
  constructor <;> grind
theorem bil {u v c d : Rat} (u1 : -c ≤ u) (u2 : u ≤ c) (v1 : -d ≤ v) (v2 : v ≤ d) : u * v ≤ c * d ∧ -(c * d) ≤ u * v := by
  have p1 := Rat.mul_nonneg (show 0 ≤ c - u by grind) (show 0 ≤ d + v by grind)
  have p2 := Rat.mul_nonneg (show 0 ≤ c + u by grind) (show 0 ≤ d - v by grind)
  have p3 := Rat.mul_nonneg (show 0 ≤ c - u by grind) (show 0 ≤ d - v by grind)
  have p4 := Rat.mul_nonneg (show 0 ≤ c + u by grind) (show 0 ≤ d + v by grind)
  constructor <;> grind
theorem fm_nr {a b : Int} {X Y p q A B : Rat} (ha : Nr a X p) (hb : Nr b Y q) (a1 : -A ≤ X) (a2 : X ≤ A) (b1 : -B ≤ Y) (b2 : Y ≤ B) : Nr (fm a b) (X * Y) (A * q + B * p + p * q / uQ + 1) := by
  obtain ⟨h1, h2⟩ := ha
  obtain ⟨g1, g2⟩ := hb
  obtain ⟨f1, f2⟩ := fm_near a b
  have u : (0 : Rat) < uQ := by decide +kernel
  have k1 := bil (u := X) (v := (b : Rat) - uQ * Y) (c := A) (d := q) a1 a2 (by grind) (by grind)
  have k2 := bil (u := (a : Rat) - uQ * X) (v := Y) (c := p) (d := B) (by grind) (by grind) b1 b2
  have k3 := bil (u := (a : Rat) - uQ * X) (v := (b : Rat) - uQ * Y) (c := p) (d := q) (by grind) (by grind) (by grind) (by grind)
  have e : (a : Rat) * b = uQ * (uQ * (X * Y) + X * ((b : Rat) - uQ * Y) + ((a : Rat) - uQ * X) * Y) + ((a : Rat) - uQ * X) * ((b : Rat) - uQ * Y) := by grind
  have e2 : p * q = uQ * (p * q / uQ) := by
    rw [Rat.div_def]
    have := Rat.mul_inv_cancel uQ (by grind)
    grind
  have cancel : ∀ {s t : Rat}, s * uQ ≤ t * uQ → s ≤ t := fun h => Rat.le_of_mul_le_mul_right h u
  constructor
  · refine cancel ?_
    have m1 := Rat.mul_le_mul_of_nonneg_left k1.1 (Rat.le_of_lt u)
    have m2 := Rat.mul_le_mul_of_nonneg_left k2.1 (Rat.le_of_lt u)
    grind
  · refine cancel ?_
    have m1 := Rat.mul_le_mul_of_nonneg_left k1.2 (Rat.le_of_lt u)
    have m2 := Rat.mul_le_mul_of_nonneg_left k2.2 (Rat.le_of_lt u)
    grind
theorem Nr.two {n : Int} {X e : Rat} (h : Nr n X e) : Nr (2 * n) (2 * X) (2 * e) := by
  obtain ⟨a, b⟩ := h
  unfold Nr
  push_cast
  constructor <;> grind
theorem Nr.co {n : Int} {X e : Rat} (h : Nr n X e) : Nr (U60 - n) (1 - X) e := by
  obtain ⟨a, b⟩ := h
  unfold Nr
  push_cast
  rw [uQ_eq]
  constructor <;> grind
theorem Nr.pos {n : Int} {X e : Rat} (h : Nr n X e) : 0 ≤ e := by obtain ⟨a, b⟩ := h; grind
/-- How the errors grow in one doubling. -/
def sg (R : Rat) : Rat := if pbd sT R ≤ 1 then pbd sT R else 1 + 1 / 10 ^ 18
def erS (R : Rat) (p : Rat × Rat) : Rat × Rat := (2 * (sg R * p.2 + (1 + 1 / 10 ^ 18) * p.1 + p.1 * p.2 / uQ + 1) + uQ * (1 / 10 ^ 18), 2 * (sg R * p.1 + sg R * p.1 + p.1 * p.1 / uQ + 1) + uQ * (1 / 10 ^ 18))
theorem sg_le {R y : Rat} (hy : rabs y ≤ R) (hR : R ≤ 16/5) : -sg R ≤ S y ∧ S y ≤ sg R := by
  unfold sg
  split
  · obtain ⟨a, b⟩ := rabs_le.1 (pv_bd hy sT)
    exact ⟨b, a⟩
  · have := (sin_cos_le (y := y) (by grind)).1
    exact ⟨this.2, this.1⟩
theorem step_nr {p : Int × Int} {y R : Rat} {q : Rat × Rat} (hy : rabs y ≤ R) (hR : R ≤ 16/5) (h1 : Nr p.1 (S y) q.1) (h2 : Nr p.2 (1 - C y) q.2) :
    Nr (scStep p).1 (S (2 * y)) (erS R q).1 ∧ Nr (scStep p).2 (1 - C (2 * y)) (erS R q).2 := by
  obtain ⟨s1, s2⟩ := sg_le hy hR
  have hy' : rabs y ≤ 16/5 := by grind
  obtain ⟨c1, c2⟩ := (sin_cos_le hy').2
  obtain ⟨d1, d2⟩ := sin_double hy'
  obtain ⟨e1, e2⟩ := cos_double hy'
  have h3 := h2.co
  have e3 : 1 - (1 - C y) = C y := by grind
  rw [e3] at h3
  have f1 := (fm_nr h1 h3 s1 s2 c2 c1).two
  have f2 := (fm_nr h1 h1 s1 s2 s1 s2).two
  constructor
  · refine (f1.move (Y := S (2 * y)) (d := 1 / 10 ^ 18) ?_ ?_).mono ?_
    · grind
    · grind
    · unfold erS; grind
  · refine (f2.move (Y := 1 - C (2 * y)) (d := 1 / 10 ^ 18) ?_ ?_).mono ?_
    · grind
    · grind
    · unfold erS; grind
def erIt : Nat → Rat → Rat × Rat → Rat × Rat
  | 0, _, q => q
  | k + 1, R, q => erIt k (2 * R) (erS R q)
def okR : Nat → Rat → Bool
  | 0, _ => true
  | k + 1, R => decide (R ≤ 16/5) && okR k (2 * R)
def dbl : Nat → Rat → Rat
  | 0, y => y
  | k + 1, y => dbl k (2 * y)
theorem iter_nr : ∀ (k : Nat) (p : Int × Int) (y R : Rat) (q : Rat × Rat), okR k R = true → rabs y ≤ R → Nr p.1 (S y) q.1 → Nr p.2 (1 - C y) q.2 →
    Nr (scIter k p).1 (S (dbl k y)) (erIt k R q).1 ∧ Nr (scIter k p).2 (1 - C (dbl k y)) (erIt k R q).2
  | 0, _, _, _, _, _, _, h1, h2 => ⟨h1, h2⟩
  | k + 1, p, y, R, q, ho, hy, h1, h2 => by
    unfold okR at ho
    simp at ho
    obtain ⟨g1, g2⟩ := step_nr hy ho.1 h1 h2
    refine iter_nr k (scStep p) (2 * y) (2 * R) (erS R q) ho.2 ?_ g1 g2
    rw [rabs_mul]
    have : rabs 2 = 2 := by decide +kernel
    rw [this]
    grind
theorem er12 : (erIt 12 (63 / 40960) (48, 8)).1 ≤ 3000000 ∧ (erIt 12 (63 / 40960) (48, 8)).2 ≤ 3000000 := by decide +kernel
end Go.Proofs.YtffnmfcaoldlhaaDoor
