/- Least squares with one to three columns: the determinants of Gram's matrix, Cramer's rule. No program in sight. Determinants by their first row, and their bounds. No program in sight. Least squares: the answers of solve and of Residual, divided by the greatest common divisor. No program in sight. The plain law of least squares with one to three columns: orthogonality, bounds, the common divisor. No program in sight. -/
set_option linter.unusedVariables false
set_option linter.unusedSimpArgs false
namespace Go.Proofs.YtcgnhnmigmdalaaDoor
section
/-- A sum over the first numbers. -/
def smN : Nat → (Nat → Int) → Int
  | 0, _ => 0
  | n + 1, f => smN n f + f n
theorem smN_congr {f g : Nat → Int} : ∀ n, (∀ i, i < n → f i = g i) → smN n f = smN n g
  | 0, _ => rfl
  | n + 1, h => by
    unfold smN
    rw [smN_congr n (fun i hi => h i (by omega)), h n (by omega)]
theorem smN_add (f g : Nat → Int) : ∀ n, smN n (fun i => f i + g i) = smN n f + smN n g
  | 0 => rfl
  | n + 1 => by
    show smN n (fun i => f i + g i) + (f n + g n) = smN n f + f n + (smN n g + g n)
    rw [smN_add f g n]
    omega
theorem smN_mul (c : Int) (f : Nat → Int) : ∀ n, smN n (fun i => c * f i) = c * smN n f
  | 0 => by simp [smN]
  | n + 1 => by
    show smN n (fun i => c * f i) + c * f n = c * (smN n f + f n)
    rw [smN_mul c f n, Int.mul_add]
theorem smN_nn {f : Nat → Int} : ∀ n, (∀ i, i < n → 0 ≤ f i) → 0 ≤ smN n f
  | 0, _ => Int.le_refl _
  | n + 1, h => by
    have a := smN_nn n (fun i hi => h i (by omega))
    have b := h n (by omega)
    unfold smN
    omega
theorem smN_zero {f : Nat → Int} : ∀ n, (∀ i, i < n → 0 ≤ f i) → smN n f = 0 → ∀ i, i < n → f i = 0
  | 0, _, _ => fun i hi => by omega
  | n + 1, h, hz => by
    have a := smN_nn n (fun i hi => h i (by omega))
    have b := h n (by omega)
    unfold smN at hz
    intro i hi
    by_cases hin : i < n
    · exact smN_zero n (fun i hi => h i (by omega)) (by omega) i hin
    · have : i = n := by omega
      subst this
      omega
/-- Gram's matrix and the right side. -/
def gmM (R : Nat → Nat → Int) (n i j : Nat) : Int := smN n (fun k => R k i * R k j)
def gmR (R : Nat → Nat → Int) (H : Nat → Int) (n i : Nat) : Int := smN n (fun k => R k i * H k)
theorem gmM_symm (R : Nat → Nat → Int) (n i j : Nat) : gmM R n i j = gmM R n j i := smN_congr n (fun _ _ => Int.mul_comm _ _)
/-- A sum of quadratic forms of rows. -/
theorem gm_quad (R : Nat → Nat → Int) (n : Nat) (a b c d e f : Int) :
    smN n (fun k => a * (R k 0 * R k 0) + b * (R k 1 * R k 1) + c * (R k 2 * R k 2) + d * (R k 0 * R k 1) + e * (R k 0 * R k 2) + f * (R k 1 * R k 2)) = a * gmM R n 0 0 + b * gmM R n 1 1 + c * gmM R n 2 2 + d * gmM R n 0 1 + e * gmM R n 0 2 + f * gmM R n 1 2 := by
  unfold gmM
  rw [smN_add, smN_add, smN_add, smN_add, smN_add, smN_mul, smN_mul, smN_mul, smN_mul, smN_mul, smN_mul]
def det2 (a b c d : Int) : Int := a * d - b * c
def det3 (a b c d e f g h i : Int) : Int := a * (e * i - f * h) - b * (d * i - f * g) + c * (d * h - e * g)
theorem sq_nn (x : Int) : 0 ≤ x * x := by
  rcases Int.le_total 0 x with h | h
  · exact Int.mul_nonneg h h
  · have := Int.mul_nonneg (show 0 ≤ -x by omega) (show 0 ≤ -x by omega)
    rw [Int.neg_mul_neg] at this
    exact this
theorem sq_z {x : Int} (h : x * x = 0) : x = 0 := by
  rcases Int.mul_eq_zero.1 h with h | h <;> exact h
/-- Two columns: the squares of all determinants of two rows. -/
def mn2 (R : Nat → Nat → Int) (a b : Nat) : Int := R a 0 * R b 1 - R a 1 * R b 0
theorem gram2 (R : Nat → Nat → Int) (n : Nat) : smN n (fun a => smN n (fun b => mn2 R a b * mn2 R a b)) = 2 * det2 (gmM R n 0 0) (gmM R n 0 1) (gmM R n 1 0) (gmM R n 1 1) := by
  have s1 : ∀ a, smN n (fun b => mn2 R a b * mn2 R a b) = gmM R n 1 1 * (R a 0 * R a 0) + gmM R n 0 0 * (R a 1 * R a 1) + 0 * (R a 2 * R a 2) + (-2 * gmM R n 0 1) * (R a 0 * R a 1) + 0 * (R a 0 * R a 2) + 0 * (R a 1 * R a 2) := by
    intro a
    have := gm_quad R n (R a 1 * R a 1) (R a 0 * R a 0) 0 (-2 * (R a 0 * R a 1)) 0 0
    rw [smN_congr n (g := fun b => R a 1 * R a 1 * (R b 0 * R b 0) + R a 0 * R a 0 * (R b 1 * R b 1) + 0 * (R b 2 * R b 2) + -2 * (R a 0 * R a 1) * (R b 0 * R b 1) + 0 * (R b 0 * R b 2) + 0 * (R b 1 * R b 2)) (fun b _ => by unfold mn2; grind), this]
    grind
  rw [smN_congr n (fun a _ => s1 a), gm_quad]
  have := gmM_symm R n 1 0
  unfold det2
  grind
/-- Three columns: the squares of all determinants of three rows. -/
def mn3 (R : Nat → Nat → Int) (a b c : Nat) : Int := R a 0 * (R b 1 * R c 2 - R b 2 * R c 1) - R a 1 * (R b 0 * R c 2 - R b 2 * R c 0) + R a 2 * (R b 0 * R c 1 - R b 1 * R c 0)
theorem gram3 (R : Nat → Nat → Int) (n : Nat) : smN n (fun a => smN n (fun b => smN n (fun c => mn3 R a b c * mn3 R a b c))) = 6 * det3 (gmM R n 0 0) (gmM R n 0 1) (gmM R n 0 2) (gmM R n 1 0) (gmM R n 1 1) (gmM R n 1 2) (gmM R n 2 0) (gmM R n 2 1) (gmM R n 2 2) := by
  have e1 := gmM_symm R n 1 0
  have e2 := gmM_symm R n 2 0
  have e3 := gmM_symm R n 2 1
  have quad := gm_quad R n
  generalize gmM R n 0 0 = g00 at *
  generalize gmM R n 0 1 = g01 at *
  generalize gmM R n 0 2 = g02 at *
  generalize gmM R n 1 1 = g11 at *
  generalize gmM R n 1 2 = g12 at *
  generalize gmM R n 2 2 = g22 at *
  rw [e1, e2, e3]
  have s1 : ∀ a b, smN n (fun c => mn3 R a b c * mn3 R a b c) = (R a 2 * R a 2 * g11 + R a 1 * R a 1 * g22 - 2 * (R a 1 * R a 2) * g12) * (R b 0 * R b 0) + (R a 2 * R a 2 * g00 + R a 0 * R a 0 * g22 - 2 * (R a 0 * R a 2) * g02) * (R b 1 * R b 1) + (R a 1 * R a 1 * g00 + R a 0 * R a 0 * g11 - 2 * (R a 0 * R a 1) * g01) * (R b 2 * R b 2)
      + (-2 * (R a 0 * R a 1) * g22 - 2 * (R a 2 * R a 2) * g01 + 2 * (R a 1 * R a 2) * g02 + 2 * (R a 0 * R a 2) * g12) * (R b 0 * R b 1) + (-2 * (R a 0 * R a 2) * g11 + 2 * (R a 1 * R a 2) * g01 - 2 * (R a 1 * R a 1) * g02 + 2 * (R a 0 * R a 1) * g12) * (R b 0 * R b 2) + (-2 * (R a 1 * R a 2) * g00 + 2 * (R a 0 * R a 2) * g01 + 2 * (R a 0 * R a 1) * g02 - 2 * (R a 0 * R a 0) * g12) * (R b 1 * R b 2) := by
    intro a b
    obtain ⟨p0, h0⟩ : ∃ p, p = R a 1 * R b 2 - R a 2 * R b 1 := ⟨_, rfl⟩
    obtain ⟨p1, h1⟩ : ∃ p, p = R a 2 * R b 0 - R a 0 * R b 2 := ⟨_, rfl⟩
    obtain ⟨p2, h2⟩ : ∃ p, p = R a 0 * R b 1 - R a 1 * R b 0 := ⟨_, rfl⟩
    have m : ∀ c, mn3 R a b c = p0 * R c 0 + p1 * R c 1 + p2 * R c 2 := by
      intro c
      unfold mn3
      subst h0 h1 h2
      generalize R a 0 = a0; generalize R a 1 = a1; generalize R a 2 = a2
      generalize R b 0 = b0; generalize R b 1 = b1; generalize R b 2 = b2
      grind
    have q := quad (p0 * p0) (p1 * p1) (p2 * p2) (2 * (p0 * p1)) (2 * (p0 * p2)) (2 * (p1 * p2))
    rw [smN_congr n (g := fun c => p0 * p0 * (R c 0 * R c 0) + p1 * p1 * (R c 1 * R c 1) + p2 * p2 * (R c 2 * R c 2) + 2 * (p0 * p1) * (R c 0 * R c 1) + 2 * (p0 * p2) * (R c 0 * R c 2) + 2 * (p1 * p2) * (R c 1 * R c 2)) (fun c _ => by rw [m c]; generalize R c 0 = c0; generalize R c 1 = c1; generalize R c 2 = c2; clear q m h0 h1 h2 quad; grind), q]
    clear q m quad e1 e2 e3
    subst h0 h1 h2
    generalize R a 0 = a0; generalize R a 1 = a1; generalize R a 2 = a2
    generalize R b 0 = b0; generalize R b 1 = b1; generalize R b 2 = b2
    grind
  have s2 : ∀ a, smN n (fun b => smN n (fun c => mn3 R a b c * mn3 R a b c)) = (2 * (g11 * g22 - g12 * g12)) * (R a 0 * R a 0) + (2 * (g00 * g22 - g02 * g02)) * (R a 1 * R a 1) + (2 * (g00 * g11 - g01 * g01)) * (R a 2 * R a 2) + (4 * (g02 * g12 - g01 * g22)) * (R a 0 * R a 1) + (4 * (g01 * g12 - g02 * g11)) * (R a 0 * R a 2) + (4 * (g01 * g02 - g12 * g00)) * (R a 1 * R a 2) := by
    intro a
    rw [smN_congr n (fun b _ => s1 a b), quad]
    clear s1 quad e1 e2 e3
    generalize R a 0 = a0; generalize R a 1 = a1; generalize R a 2 = a2
    grind
  rw [smN_congr n (fun a _ => s2 a), quad]
  clear s1 s2 quad e1 e2 e3
  unfold det3
  grind
/-- Gram's determinants are not negative, and where one is 0 all determinants of as many rows are. -/
theorem gram1_nn (R : Nat → Nat → Int) (n : Nat) : 0 ≤ gmM R n 0 0 ∧ (gmM R n 0 0 = 0 → ∀ a, a < n → R a 0 = 0) := by
  have h : ∀ i, i < n → 0 ≤ R i 0 * R i 0 := fun i _ => sq_nn _
  exact ⟨smN_nn n h, fun hz a ha => sq_z (smN_zero n h hz a ha)⟩
theorem gram2_nn (R : Nat → Nat → Int) (n : Nat) : 0 ≤ det2 (gmM R n 0 0) (gmM R n 0 1) (gmM R n 1 0) (gmM R n 1 1) ∧ (det2 (gmM R n 0 0) (gmM R n 0 1) (gmM R n 1 0) (gmM R n 1 1) = 0 → ∀ a b, a < n → b < n → mn2 R a b = 0) := by
  have g := gram2 R n
  have h1 : ∀ a, ∀ b, b < n → 0 ≤ mn2 R a b * mn2 R a b := fun a b _ => sq_nn _
  have h2 : ∀ a, a < n → 0 ≤ smN n (fun b => mn2 R a b * mn2 R a b) := fun a _ => smN_nn n (h1 a)
  have h3 := smN_nn n h2
  refine ⟨by omega, fun hz a b ha hb => ?_⟩
  exact sq_z (smN_zero n (h1 a) (smN_zero n h2 (by rw [g, hz]; rfl) a ha) b hb)
theorem gram3_nn (R : Nat → Nat → Int) (n : Nat) : 0 ≤ det3 (gmM R n 0 0) (gmM R n 0 1) (gmM R n 0 2) (gmM R n 1 0) (gmM R n 1 1) (gmM R n 1 2) (gmM R n 2 0) (gmM R n 2 1) (gmM R n 2 2) ∧ (det3 (gmM R n 0 0) (gmM R n 0 1) (gmM R n 0 2) (gmM R n 1 0) (gmM R n 1 1) (gmM R n 1 2) (gmM R n 2 0) (gmM R n 2 1) (gmM R n 2 2) = 0 → ∀ a b c, a < n → b < n → c < n → mn3 R a b c = 0) := by
  have g := gram3 R n
  have h1 : ∀ a b, ∀ c, c < n → 0 ≤ mn3 R a b c * mn3 R a b c := fun a b c _ => sq_nn _
  have h2 : ∀ a, ∀ b, b < n → 0 ≤ smN n (fun c => mn3 R a b c * mn3 R a b c) := fun a b _ => smN_nn n (h1 a b)
  have h3 : ∀ a, a < n → 0 ≤ smN n (fun b => smN n (fun c => mn3 R a b c * mn3 R a b c)) := fun a _ => smN_nn n (h2 a)
  have h4 := smN_nn n h3
  refine ⟨by omega, fun hz a b c ha hb hc => ?_⟩
  exact sq_z (smN_zero n (h1 a b) (smN_zero n (h2 a) (smN_zero n h3 (by rw [g, hz]; rfl) a ha) b hb) c hc)
/-- Cramer's rule for a symmetric matrix of three columns. -/
theorem cramer3 (g00 g01 g02 g11 g12 g22 r0 r1 r2 : Int) :
    det3 g00 g01 g02 g01 g11 g12 g02 g12 g22 * r0 = g00 * det3 r0 g01 g02 r1 g11 g12 r2 g12 g22 + g01 * det3 g00 r0 g02 g01 r1 g12 g02 r2 g22 + g02 * det3 g00 g01 r0 g01 g11 r1 g02 g12 r2
    ∧ det3 g00 g01 g02 g01 g11 g12 g02 g12 g22 * r1 = g01 * det3 r0 g01 g02 r1 g11 g12 r2 g12 g22 + g11 * det3 g00 r0 g02 g01 r1 g12 g02 r2 g22 + g12 * det3 g00 g01 r0 g01 g11 r1 g02 g12 r2
    ∧ det3 g00 g01 g02 g01 g11 g12 g02 g12 g22 * r2 = g02 * det3 r0 g01 g02 r1 g11 g12 r2 g12 g22 + g12 * det3 g00 r0 g02 g01 r1 g12 g02 r2 g22 + g22 * det3 g00 g01 r0 g01 g11 r1 g02 g12 r2 := by
  unfold det3
  refine ⟨?_, ?_, ?_⟩ <;> grind
theorem cramer2 (g00 g01 g11 r0 r1 : Int) :
    det2 g00 g01 g01 g11 * r0 = g00 * det2 r0 g01 r1 g11 + g01 * det2 g00 r0 g01 r1
    ∧ det2 g00 g01 g01 g11 * r1 = g01 * det2 r0 g01 r1 g11 + g11 * det2 g00 r0 g01 r1 := by
  unfold det2
  refine ⟨?_, ?_⟩ <;> grind
end
section
def minR (R : Nat → Nat → Int) (k i j : Nat) : Int := R (i + 1) (if j < k then j else j + 1)
def sgn (k : Nat) : Int := if k % 2 = 0 then 1 else -1
theorem sgn_next (k : Nat) : sgn (k + 1) = -sgn k := by unfold sgn; split <;> split <;> omega
theorem sgn_bd (k : Nat) : -1 ≤ sgn k ∧ sgn k ≤ 1 := by unfold sgn; split <;> omega
def dPart (F : (Nat → Nat → Int) → Int) (R : Nat → Nat → Int) : Nat → Int
  | 0 => 0
  | k + 1 => dPart F R k + sgn k * R 0 k * F (minR R k)
def detF : Nat → (Nat → Nat → Int) → Int
  | 0, _ => 0
  | 1, R => R 0 0
  | n + 2, R => dPart (detF (n + 1)) R (n + 2)
theorem detF_next (n : Nat) (hn : 1 ≤ n) (R : Nat → Nat → Int) : detF (n + 1) R = dPart (detF n) R (n + 1) := by
  obtain ⟨m, rfl⟩ : ∃ m, n = m + 1 := ⟨n - 1, by omega⟩
  rfl
theorem mul_bd {x y A D : Int} (hx : -A ≤ x ∧ x ≤ A) (hy : -D ≤ y ∧ y ≤ D) : -(A * D) ≤ x * y ∧ x * y ≤ A * D := by
  obtain ⟨x0, x1⟩ := hx
  obtain ⟨y0, y1⟩ := hy
  have a := Int.mul_nonneg (show 0 ≤ A - x by omega) (show 0 ≤ D - y by omega)
  have b := Int.mul_nonneg (show 0 ≤ A + x by omega) (show 0 ≤ D + y by omega)
  have c := Int.mul_nonneg (show 0 ≤ A - x by omega) (show 0 ≤ D + y by omega)
  have d := Int.mul_nonneg (show 0 ≤ A + x by omega) (show 0 ≤ D - y by omega)
  constructor <;> grind
def RB (n : Nat) (R : Nat → Nat → Int) : Prop := ∀ i j, i < n → j < n → -80000 ≤ R i j ∧ R i j ≤ 80000
theorem RB.min {n : Nat} {R : Nat → Nat → Int} (h : RB (n + 1) R) (k : Nat) : RB n (minR R k) := by
  intro i j hi hj
  unfold minR
  split <;> exact h _ _ (by omega) (by omega)
theorem sgn_mul (k : Nat) {x A : Int} (hx : -A ≤ x ∧ x ≤ A) : -A ≤ sgn k * x ∧ sgn k * x ≤ A := by
  have := mul_bd (A := 1) (D := A) (sgn_bd k) hx
  omega
theorem dPart_bd {n : Nat} {R : Nat → Nat → Int} {F : (Nat → Nat → Int) → Int} {D : Int} (h : RB (n + 1) R) (hF : ∀ R, RB n R → -D ≤ F R ∧ F R ≤ D) : ∀ k, k ≤ n + 1 → -((k : Int) * (80000 * D)) ≤ dPart F R k ∧ dPart F R k ≤ (k : Int) * (80000 * D)
  | 0, _ => by simp [dPart]
  | k + 1, hk => by
    have ih := dPart_bd h hF k (by omega)
    have a := mul_bd (sgn_mul k (h 0 k (by omega) (by omega))) (hF _ (h.min k))
    have e : ((k + 1 : Nat) : Int) * (80000 * D) = (k : Int) * (80000 * D) + 80000 * D := by
      rw [Int.natCast_add, Int.add_mul]; simp
    rw [e]
    unfold dPart
    omega
theorem det1_bd (R : Nat → Nat → Int) (h : RB 1 R) : -80000 ≤ detF 1 R ∧ detF 1 R ≤ 80000 := h 0 0 (by omega) (by omega)
theorem det2_bd (R : Nat → Nat → Int) (h : RB 2 R) : -12800000000 ≤ detF 2 R ∧ detF 2 R ≤ 12800000000 := by
  have := dPart_bd h det1_bd 2 (by omega)
  have e : detF 2 R = dPart (detF 1) R 2 := detF_next 1 (by omega) R
  rw [e]
  omega
theorem det3_bd (R : Nat → Nat → Int) (h : RB 3 R) : -3072000000000000 ≤ detF 3 R ∧ detF 3 R ≤ 3072000000000000 := by
  have := dPart_bd h det2_bd 3 (by omega)
  have e : detF 3 R = dPart (detF 2) R 3 := detF_next 2 (by omega) R
  rw [e]
  omega
theorem detF_two (R : Nat → Nat → Int) : detF 2 R = det2 (R 0 0) (R 0 1) (R 1 0) (R 1 1) := by
  simp only [detF, dPart, minR, sgn, det2]
  simp
  grind
theorem detF_three (R : Nat → Nat → Int) : detF 3 R = det3 (R 0 0) (R 0 1) (R 0 2) (R 1 0) (R 1 1) (R 1 2) (R 2 0) (R 2 1) (R 2 2) := by
  simp only [detF, dPart, minR, sgn, det3]
  simp
  generalize R 0 0 = a; generalize R 0 1 = b; generalize R 0 2 = c; generalize R 1 0 = d; generalize R 1 1 = e; generalize R 1 2 = f
  generalize R 2 0 = g; generalize R 2 1 = h; generalize R 2 2 = i
  grind
end
section
/-- A number that is a multiple of g: the quotient by g, and what it is multiplied with. -/
theorem div_of {g x : Int} (g0 : 0 < g) (h : g ∣ x) : x / g * g = x := Int.ediv_mul_cancel h
/-- Cramer's rule, divided: the left side of row c is 0. -/
theorem cram_div {g d r n0 n1 n2 g0 g1 g2 : Int} (hg : 0 < g) (hd : g ∣ d) (h0 : g ∣ n0) (h1 : g ∣ n1) (h2 : g ∣ n2) (h : d * r = g0 * n0 + g1 * n1 + g2 * n2) : d / g * r = g0 * (n0 / g) + g1 * (n1 / g) + g2 * (n2 / g) := by
  have e := div_of hg hd
  have e0 := div_of hg h0
  have e1 := div_of hg h1
  have e2 := div_of hg h2
  generalize d / g = D at *
  generalize n0 / g = N0 at *
  generalize n1 / g = N1 at *
  generalize n2 / g = N2 at *
  subst e e0 e1 e2
  have : g * (D * r - (g0 * N0 + g1 * N1 + g2 * N2)) = 0 := by grind
  rcases Int.mul_eq_zero.1 this with h | h
  · omega
  · omega
theorem smN_lin4 (a b c d : Int) (f g h e : Nat → Int) (n : Nat) : smN n (fun i => a * f i + b * g i + c * h i + d * e i) = a * smN n f + b * smN n g + c * smN n h + d * smN n e := by
  rw [smN_add, smN_add, smN_add, smN_mul, smN_mul, smN_mul, smN_mul]
/-- The differences against a column, and against the heights. -/
theorem orth3 (R : Nat → Nat → Int) (H : Nat → Int) (n : Nat) (D N0 N1 N2 : Int) (c : Nat) : smN n (fun i => (D * H i - R i 0 * N0 - R i 1 * N1 - R i 2 * N2) * R i c) = D * gmR R H n c - N0 * gmM R n 0 c - N1 * gmM R n 1 c - N2 * gmM R n 2 c := by
  have e : ∀ i, i < n → (D * H i - R i 0 * N0 - R i 1 * N1 - R i 2 * N2) * R i c = D * (R i c * H i) + -N0 * (R i 0 * R i c) + -N1 * (R i 1 * R i c) + -N2 * (R i 2 * R i c) := by
    intro i _
    generalize H i = h; generalize R i 0 = x; generalize R i 1 = y; generalize R i 2 = z; generalize R i c = w
    grind
  rw [smN_congr n e, smN_lin4]
  unfold gmR gmM
  grind
theorem left3 (R : Nat → Nat → Int) (H : Nat → Int) (n : Nat) (D N0 N1 N2 : Int) : smN n (fun i => (D * H i - R i 0 * N0 - R i 1 * N1 - R i 2 * N2) * H i) = D * smN n (fun i => H i * H i) - N0 * gmR R H n 0 - N1 * gmR R H n 1 - N2 * gmR R H n 2 := by
  have e : ∀ i, i < n → (D * H i - R i 0 * N0 - R i 1 * N1 - R i 2 * N2) * H i = D * (H i * H i) + -N0 * (R i 0 * H i) + -N1 * (R i 1 * H i) + -N2 * (R i 2 * H i) := by
    intro i _
    generalize H i = h; generalize R i 0 = x; generalize R i 1 = y; generalize R i 2 = z
    grind
  rw [smN_congr n e, smN_lin4]
  unfold gmR
  grind
theorem gcd_step {x y : Int} {g : Nat} (g0 : 0 < g) (hx : (g : Int) ∣ x) (hy : (g : Int) ∣ y) : Nat.gcd (x / g).natAbs (y / g).natAbs = Nat.gcd x.natAbs y.natAbs / g := by
  obtain ⟨a, rfl⟩ := hx
  obtain ⟨b, rfl⟩ := hy
  have gz : (g : Int) ≠ 0 := by omega
  rw [Int.mul_ediv_cancel_left _ gz, Int.mul_ediv_cancel_left _ gz, Int.natAbs_mul, Int.natAbs_mul, Int.natAbs_natCast, Nat.gcd_mul_left, Nat.mul_div_cancel_left _ g0]
/-- Go's quotient by a divisor. -/
theorem tdiv_dvd {x : Int} {g : Nat} (g0 : 0 < g) (hx : (g : Int) ∣ x) : x.tdiv g = x / g := by
  obtain ⟨a, rfl⟩ := hx
  have gz : (g : Int) ≠ 0 := by omega
  rw [Int.mul_ediv_cancel_left _ gz, Int.mul_tdiv_cancel_left _ gz]
end
section
def colM (M : Nat → Nat → Int) (V : Nat → Int) (k i j : Nat) : Int := if j = k then V i else M i j
def NNv (n : Nat) (M : Nat → Nat → Int) (V : Nat → Int) (k : Nat) : Int := detF n (colM M V k)
def gN (D : Int) (F : Nat → Int) : Nat → Nat
  | 0 => D.natAbs
  | k + 1 => Nat.gcd (gN D F k) (F k).natAbs
theorem gN_pos {D : Int} (hD : D ≠ 0) (F : Nat → Int) : ∀ k, 0 < gN D F k
  | 0 => by unfold gN; omega
  | k + 1 => Nat.gcd_pos_of_pos_left _ (gN_pos hD F k)
theorem gN_dvd {D : Int} (F : Nat → Int) : ∀ k, gN D F k ∣ D.natAbs ∧ ∀ j, j < k → gN D F k ∣ (F j).natAbs
  | 0 => ⟨Nat.dvd_refl _, fun j hj => by omega⟩
  | k + 1 => by
    obtain ⟨h1, h2⟩ := gN_dvd (D := D) F k
    have d1 : gN D F (k + 1) ∣ gN D F k := Nat.gcd_dvd_left _ _
    refine ⟨Nat.dvd_trans d1 h1, fun j hj => ?_⟩
    by_cases e : j = k
    · subst e; exact Nat.gcd_dvd_right _ _
    · exact Nat.dvd_trans d1 (h2 j (by omega))
theorem gN_le {D : Int} (hD : D ≠ 0) (F : Nat → Int) (k : Nat) : gN D F k ≤ D.natAbs := Nat.le_of_dvd (by omega) (gN_dvd F k).1
theorem natAbs_div {x : Int} {g : Nat} (g0 : 0 < g) (h : g ∣ x.natAbs) : (x / (g : Int)).natAbs = x.natAbs / g := by
  obtain ⟨a, rfl⟩ := Int.ofNat_dvd_left.2 h
  have gz : (g : Int) ≠ 0 := by omega
  rw [Int.mul_ediv_cancel_left _ gz, Int.natAbs_mul, Int.natAbs_natCast, Nat.mul_div_cancel_left _ g0]
/-- The common divisor of the quotients. -/
theorem gN_div {D : Int} {F : Nat → Int} {g : Nat} (g0 : 0 < g) (hD : g ∣ D.natAbs) : ∀ k, (∀ j, j < k → g ∣ (F j).natAbs) → gN (D / (g : Int)) (fun j => F j / (g : Int)) k = gN D F k / g ∧ g ∣ gN D F k
  | 0, _ => ⟨natAbs_div g0 hD, hD⟩
  | k + 1, h => by
    obtain ⟨h1, h2⟩ := gN_div g0 hD k (fun j hj => h j (by omega))
    have h3 := h k (by omega)
    refine ⟨?_, Nat.dvd_gcd h2 h3⟩
    show Nat.gcd (gN (D / (g : Int)) (fun j => F j / (g : Int)) k) (F k / (g : Int)).natAbs = Nat.gcd (gN D F k) (F k).natAbs / g
    rw [h1, natAbs_div g0 h3, Nat.gcd_div h2 h3]
theorem gN_one {D : Int} (hD : D ≠ 0) (F : Nat → Int) (n : Nat) : gN (D / (gN D F n : Int)) (fun j => F j / (gN D F n : Int)) n = 1 := by
  obtain ⟨h1, h2⟩ := gN_dvd (D := D) F n
  have hp := gN_pos hD F n
  rw [(gN_div hp h1 n h2).1]
  exact Nat.div_self hp
/-- The differences against anything. -/
theorem smN_ext {f g : Nat → Int} (h : ∀ i, f i = g i) (n : Nat) : smN n f = smN n g := smN_congr n (fun i _ => h i)
def dfF (R : Nat → Nat → Int) (H : Nat → Int) (Dn : Int) (Nm : Nat → Int) (i j : Nat) : Int := Dn * H i - smN j (fun q => R i q * Nm q)
theorem df_sum (R : Nat → Nat → Int) (H X : Nat → Int) (Dn : Int) (Nm : Nat → Int) (N : Nat) : ∀ n, smN N (fun i => dfF R H Dn Nm i n * X i) = Dn * smN N (fun i => H i * X i) - smN n (fun j => Nm j * smN N (fun i => R i j * X i))
  | 0 => by
    rw [← smN_mul]
    show _ = _ - 0
    rw [Int.sub_zero]
    refine smN_ext (fun i => ?_) N
    show (Dn * H i - 0) * X i = Dn * (H i * X i)
    rw [Int.sub_zero, Int.mul_assoc]
  | n + 1 => by
    have ih := df_sum R H X Dn Nm N n
    have e : smN N (fun i => dfF R H Dn Nm i (n + 1) * X i) = smN N (fun i => dfF R H Dn Nm i n * X i + -Nm n * (R i n * X i)) := smN_ext (fun i => by
      show (Dn * H i - (smN n (fun q => R i q * Nm q) + R i n * Nm n)) * X i = (Dn * H i - smN n (fun q => R i q * Nm q)) * X i + -Nm n * (R i n * X i)
      generalize smN n (fun q => R i q * Nm q) = s
      generalize R i n = r; generalize H i = h; generalize X i = x; generalize Nm n = m
      grind) N
    rw [e, smN_add, smN_mul, ih]
    show _ = Dn * smN N (fun i => H i * X i) - (smN n (fun j => Nm j * smN N (fun i => R i j * X i)) + Nm n * smN N (fun i => R i n * X i))
    generalize smN N (fun i => R i n * X i) = s
    generalize smN n (fun j => Nm j * smN N (fun i => R i j * X i)) = t
    generalize Dn * smN N (fun i => H i * X i) = u
    grind
/-- Cramer's rule in all three sizes, divided. -/
theorem fit_orth {n : Nat} (n1 : 1 ≤ n) (n3 : n ≤ 3) {M : Nat → Nat → Int} (hs : ∀ i j, M i j = M j i) (V : Nat → Int) (hD : detF n M ≠ 0) {c : Nat} (hc : c < n) :
    detF n M / (gN (detF n M) (NNv n M V) n : Int) * V c = smN n (fun j => NNv n M V j / (gN (detF n M) (NNv n M V) n : Int) * M j c) := by
  obtain ⟨d1, d2⟩ := gN_dvd (D := detF n M) (NNv n M V) n
  have hp := gN_pos hD (NNv n M V) n
  have hg : (0 : Int) < (gN (detF n M) (NNv n M V) n : Int) := by omega
  have e1 := Int.ofNat_dvd_left.2 d1
  have e2 : ∀ j, j < n → ((gN (detF n M) (NNv n M V) n : Nat) : Int) ∣ NNv n M V j := fun j hj => Int.ofNat_dvd_left.2 (d2 j hj)
  clear d1 d2 hp hD
  generalize (gN (detF n M) (NNv n M V) n : Int) = G at *
  have z : (G : Int) ∣ 0 := ⟨0, by simp⟩
  have hz : (0 : Int) / G = 0 := Int.zero_ediv G
  rcases (show n = 1 ∨ n = 2 ∨ n = 3 by omega) with rfl | rfl | rfl
  · obtain rfl : c = 0 := by omega
    have k := cram_div (d := detF 1 M) (r := V 0) (g0 := M 0 0) (g1 := 0) (g2 := 0) (n0 := NNv 1 M V 0) (n1 := 0) (n2 := 0) hg e1 (e2 0 (by omega)) z z (by
      show M 0 0 * V 0 = M 0 0 * colM M V 0 0 0 + 0 * 0 + 0 * 0
      simp [colM])
    rw [k, hz]
    simp only [smN]
    generalize NNv 1 M V 0 / G = x
    generalize M 0 0 = y
    grind
  · have s10 := hs 1 0
    have c2 := cramer2 (M 0 0) (M 0 1) (M 1 1) (V 0) (V 1)
    have q0 : NNv 2 M V 0 = det2 (V 0) (M 0 1) (V 1) (M 1 1) := by unfold NNv; rw [detF_two]; simp [colM]
    have q1 : NNv 2 M V 1 = det2 (M 0 0) (V 0) (M 0 1) (V 1) := by unfold NNv; rw [detF_two]; simp [colM, s10]
    have qd : detF 2 M = det2 (M 0 0) (M 0 1) (M 0 1) (M 1 1) := by rw [detF_two, s10]
    rw [← q0, ← q1, ← qd] at c2
    have f0 := e2 0 (by omega)
    have f1 := e2 1 (by omega)
    rcases (show c = 0 ∨ c = 1 by omega) with rfl | rfl
    · have k := cram_div (g0 := M 0 0) (g1 := M 0 1) (n2 := 0) (g2 := 0) hg e1 f0 f1 z (by rw [c2.1]; omega)
      rw [k, hz]
      simp only [smN]
      rw [s10]
      generalize NNv 2 M V 0 / G = x; generalize NNv 2 M V 1 / G = y; generalize M 0 0 = u; generalize M 0 1 = v
      grind
    · have k := cram_div (g0 := M 0 1) (g1 := M 1 1) (n2 := 0) (g2 := 0) hg e1 f0 f1 z (by rw [c2.2]; omega)
      rw [k, hz]
      simp only [smN]
      generalize NNv 2 M V 0 / G = x; generalize NNv 2 M V 1 / G = y; generalize M 1 1 = u; generalize M 0 1 = v
      grind
  · have s10 := hs 1 0
    have s20 := hs 2 0
    have s21 := hs 2 1
    have c3 := cramer3 (M 0 0) (M 0 1) (M 0 2) (M 1 1) (M 1 2) (M 2 2) (V 0) (V 1) (V 2)
    have q0 : NNv 3 M V 0 = det3 (V 0) (M 0 1) (M 0 2) (V 1) (M 1 1) (M 1 2) (V 2) (M 1 2) (M 2 2) := by unfold NNv; rw [detF_three]; simp [colM, s21]
    have q1 : NNv 3 M V 1 = det3 (M 0 0) (V 0) (M 0 2) (M 0 1) (V 1) (M 1 2) (M 0 2) (V 2) (M 2 2) := by unfold NNv; rw [detF_three]; simp [colM, s10, s20]
    have q2 : NNv 3 M V 2 = det3 (M 0 0) (M 0 1) (V 0) (M 0 1) (M 1 1) (V 1) (M 0 2) (M 1 2) (V 2) := by unfold NNv; rw [detF_three]; simp [colM, s10, s20, s21]
    have qd : detF 3 M = det3 (M 0 0) (M 0 1) (M 0 2) (M 0 1) (M 1 1) (M 1 2) (M 0 2) (M 1 2) (M 2 2) := by rw [detF_three, s10, s20, s21]
    rw [← q0, ← q1, ← q2, ← qd] at c3
    have f0 := e2 0 (by omega)
    have f1 := e2 1 (by omega)
    have f2 := e2 2 (by omega)
    obtain ⟨k0, k1, k2⟩ := c3
    rcases (show c = 0 ∨ c = 1 ∨ c = 2 by omega) with rfl | rfl | rfl
    · have k := cram_div hg e1 f0 f1 f2 k0
      rw [k]
      simp only [smN]
      rw [s10, s20]
      generalize NNv 3 M V 0 / G = x; generalize NNv 3 M V 1 / G = y; generalize NNv 3 M V 2 / G = z; generalize M 0 0 = u; generalize M 0 1 = v; generalize M 0 2 = w
      grind
    · have k := cram_div hg e1 f0 f1 f2 k1
      rw [k]
      simp only [smN]
      rw [s21]
      generalize NNv 3 M V 0 / G = x; generalize NNv 3 M V 1 / G = y; generalize NNv 3 M V 2 / G = z; generalize M 1 1 = u; generalize M 0 1 = v; generalize M 1 2 = w
      grind
    · have k := cram_div hg e1 f0 f1 f2 k2
      rw [k]
      simp only [smN]
      generalize NNv 3 M V 0 / G = x; generalize NNv 3 M V 1 / G = y; generalize NNv 3 M V 2 / G = z; generalize M 2 2 = u; generalize M 0 2 = v; generalize M 1 2 = w
      grind
/-- Bounds of determinants by their columns. -/
theorem det2_col {a b c d A B : Int} (ha : -A ≤ a ∧ a ≤ A) (hb : -B ≤ b ∧ b ≤ B) (hc : -A ≤ c ∧ c ≤ A) (hd : -B ≤ d ∧ d ≤ B) : -(2 * (A * B)) ≤ det2 a b c d ∧ det2 a b c d ≤ 2 * (A * B) := by
  have p := mul_bd ha hd
  have q := mul_bd hb hc
  rw [Int.mul_comm B A] at q
  unfold det2
  omega
theorem det3_col {a b c d e f g h i A B C : Int} (ha : -A ≤ a ∧ a ≤ A) (hb : -B ≤ b ∧ b ≤ B) (hc : -C ≤ c ∧ c ≤ C) (hd : -A ≤ d ∧ d ≤ A) (he : -B ≤ e ∧ e ≤ B) (hf : -C ≤ f ∧ f ≤ C) (hg : -A ≤ g ∧ g ≤ A) (hh : -B ≤ h ∧ h ≤ B) (hi : -C ≤ i ∧ i ≤ C) :
    -(6 * (A * (B * C))) ≤ det3 a b c d e f g h i ∧ det3 a b c d e f g h i ≤ 6 * (A * (B * C)) := by
  have m1 := det2_col (a := e) (b := f) (c := h) (d := i) he hf hh hi
  have m2 := det2_col (a := d) (b := f) (c := g) (d := i) hd hf hg hi
  have m3 := det2_col (a := d) (b := e) (c := g) (d := h) hd he hg hh
  unfold det2 at m1 m2 m3
  have p1 := mul_bd (A := A) (D := 2 * (B * C)) ha m1
  have p2 := mul_bd (A := B) (D := 2 * (A * C)) hb m2
  have p3 := mul_bd (A := C) (D := 2 * (A * B)) hc m3
  have r1 : A * (2 * (B * C)) = 2 * (A * (B * C)) := by grind
  have r2 : B * (2 * (A * C)) = 2 * (A * (B * C)) := by grind
  have r3 : C * (2 * (A * B)) = 2 * (A * (B * C)) := by grind
  rw [r1] at p1
  rw [r2] at p2
  rw [r3] at p3
  unfold det3
  omega
theorem gram_bd {n : Nat} (n1 : 1 ≤ n) (n3 : n ≤ 3) {M : Nat → Nat → Int} {V : Nat → Int} (hM : ∀ i j, i < n → j < n → -800 ≤ M i j ∧ M i j ≤ 800) (hV : ∀ i, i < n → -80000 ≤ V i ∧ V i ≤ 80000) :
    (-3072000000 ≤ detF n M ∧ detF n M ≤ 3072000000) ∧ ∀ k, k < n → -307200000000 ≤ NNv n M V k ∧ NNv n M V k ≤ 307200000000 := by
  have hcol : ∀ (B : Nat → Int), (∀ j, j < n → ∀ i, i < n → -B j ≤ M i j ∧ M i j ≤ B j) → True := fun _ _ => trivial
  rcases (show n = 1 ∨ n = 2 ∨ n = 3 by omega) with rfl | rfl | rfl
  · refine ⟨by have := hM 0 0 (by omega) (by omega); show _ ≤ M 0 0 ∧ M 0 0 ≤ _; omega, fun k hk => ?_⟩
    obtain rfl : k = 0 := by omega
    have := hV 0 (by omega)
    show _ ≤ colM M V 0 0 0 ∧ colM M V 0 0 0 ≤ _
    simp [colM]
    omega
  · have m := fun i j hi hj => hM i j hi hj
    have v := fun i hi => hV i hi
    refine ⟨?_, fun k hk => ?_⟩
    · rw [detF_two]
      have := det2_col (m 0 0 (by omega) (by omega)) (m 0 1 (by omega) (by omega)) (m 1 0 (by omega) (by omega)) (m 1 1 (by omega) (by omega))
      omega
    · unfold NNv
      rw [detF_two]
      rcases (show k = 0 ∨ k = 1 by omega) with rfl | rfl
      · have := det2_col (v 0 (by omega)) (m 0 1 (by omega) (by omega)) (v 1 (by omega)) (m 1 1 (by omega) (by omega))
        simp [colM]
        omega
      · have := det2_col (m 0 0 (by omega) (by omega)) (v 0 (by omega)) (m 1 0 (by omega) (by omega)) (v 1 (by omega))
        simp [colM]
        omega
  · have m := fun i j hi hj => hM i j hi hj
    have v := fun i hi => hV i hi
    have m00 := m 0 0 (by omega) (by omega)
    have m01 := m 0 1 (by omega) (by omega)
    have m02 := m 0 2 (by omega) (by omega)
    have m10 := m 1 0 (by omega) (by omega)
    have m11 := m 1 1 (by omega) (by omega)
    have m12 := m 1 2 (by omega) (by omega)
    have m20 := m 2 0 (by omega) (by omega)
    have m21 := m 2 1 (by omega) (by omega)
    have m22 := m 2 2 (by omega) (by omega)
    have v0 := v 0 (by omega)
    have v1 := v 1 (by omega)
    have v2 := v 2 (by omega)
    refine ⟨?_, fun k hk => ?_⟩
    · rw [detF_three]
      have := det3_col m00 m01 m02 m10 m11 m12 m20 m21 m22
      omega
    · unfold NNv
      rw [detF_three]
      rcases (show k = 0 ∨ k = 1 ∨ k = 2 by omega) with rfl | rfl | rfl
      · have := det3_col v0 m01 m02 v1 m11 m12 v2 m21 m22
        simp [colM]
        omega
      · have := det3_col m00 v0 m02 m10 v1 m12 m20 v2 m22
        simp [colM]
        omega
      · have := det3_col m00 m01 v0 m10 m11 v1 m20 m21 v2
        simp [colM]
        omega
/-- Gram's determinant is not negative; where it is 0 the columns are dependent. -/
theorem gram_nn {n : Nat} (n1 : 1 ≤ n) (n3 : n ≤ 3) (R : Nat → Nat → Int) (N : Nat) : 0 ≤ detF n (gmM R N) := by
  rcases (show n = 1 ∨ n = 2 ∨ n = 3 by omega) with rfl | rfl | rfl
  · exact (gram1_nn R N).1
  · rw [detF_two]; exact (gram2_nn R N).1
  · rw [detF_three]; exact (gram3_nn R N).1
theorem quoG_bd {x A : Int} {g : Int} (g1 : 1 ≤ g) (hx : -A ≤ x ∧ x ≤ A) (h : g ∣ x) : -A ≤ x / g ∧ x / g ≤ A := by
  obtain ⟨z, rfl⟩ := h
  have gz : g ≠ 0 := by omega
  rw [Int.mul_ediv_cancel_left _ gz]
  rcases Int.le_total 0 z with q | q
  · have := Int.mul_nonneg (show 0 ≤ g - 1 by omega) q
    have e : (g - 1) * z = g * z - z := by grind
    omega
  · have := Int.mul_nonneg (show 0 ≤ g - 1 by omega) (show 0 ≤ -z by omega)
    have e : (g - 1) * -z = z - g * z := by grind
    omega
end
end Go.Proofs.YtcgnhnmigmdalaaDoor
