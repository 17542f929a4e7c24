/- Least squares with one to three columns: the determinants of Gram's matrix, Cramer's rule. No program in sight. -/
namespace Go.Proofs.Ytcnmjfngaahhmaa
/-- A sum over the first numbers. -/
def smN : Nat → (Nat → Int) → Int
  | 0, _ => 0
  | n + 1, f => smN n f + f n
theorem smN_congr {f g : Nat → Int} : ∀ n, (∀ i, i < n → f i = g i) → smN n f = smN n g
  | 0, _ => rfl
  | n + 1, h => by
    unfold smN
    rw [smN_congr n (fun i hi => h i (by omega)), h n (by omega)]
theorem smN_add (f g : Nat → Int) : ∀ n, smN n (fun i => f i + g i) = smN n f + smN n g
  | 0 => rfl
  | n + 1 => by
    show smN n (fun i => f i + g i) + (f n + g n) = smN n f + f n + (smN n g + g n)
    rw [smN_add f g n]
    omega
theorem smN_mul (c : Int) (f : Nat → Int) : ∀ n, smN n (fun i => c * f i) = c * smN n f
  | 0 => by simp [smN]
  | n + 1 => by
    show smN n (fun i => c * f i) + c * f n = c * (smN n f + f n)
    rw [smN_mul c f n, Int.mul_add]
theorem smN_nn {f : Nat → Int} : ∀ n, (∀ i, i < n → 0 ≤ f i) → 0 ≤ smN n f
  | 0, _ => Int.le_refl _
  | n + 1, h => by
    have a := smN_nn n (fun i hi => h i (by omega))
    have b := h n (by omega)
    unfold smN
    omega
theorem smN_zero {f : Nat → Int} : ∀ n, (∀ i, i < n → 0 ≤ f i) → smN n f = 0 → ∀ i, i < n → f i = 0
  | 0, _, _ => fun i hi => by omega
  | n + 1, h, hz => by
    have a := smN_nn n (fun i hi => h i (by omega))
    have b := h n (by omega)
    unfold smN at hz
    intro i hi
    by_cases hin : i < n
    · exact smN_zero n (fun i hi => h i (by omega)) (by omega) i hin
    · have : i = n := by omega
      subst this
      omega
/-- Gram's matrix and the right side. -/
def gmM (R : Nat → Nat → Int) (n i j : Nat) : Int := smN n (fun k => R k i * R k j)
def gmR (R : Nat → Nat → Int) (H : Nat → Int) (n i : Nat) : Int := smN n (fun k => R k i * H k)
theorem gmM_symm (R : Nat → Nat → Int) (n i j : Nat) : gmM R n i j = gmM R n j i := smN_congr n (fun _ _ => Int.mul_comm _ _)
/-- A sum of quadratic forms of rows. -/
theorem gm_quad (R : Nat → Nat → Int) (n : Nat) (a b c d e f : Int) :
    smN n (fun k => a * (R k 0 * R k 0) + b * (R k 1 * R k 1) + c * (R k 2 * R k 2) + d * (R k 0 * R k 1) + e * (R k 0 * R k 2) + f * (R k 1 * R k 2)) = a * gmM R n 0 0 + b * gmM R n 1 1 + c * gmM R n 2 2 + d * gmM R n 0 1 + e * gmM R n 0 2 + f * gmM R n 1 2 := by
  unfold gmM
  rw [smN_add, smN_add, smN_add, smN_add, smN_add, smN_mul, smN_mul, smN_mul, smN_mul, smN_mul, smN_mul]
def det2 (a b c d : Int) : Int := a * d - b * c
def det3 (a b c d e f g h i : Int) : Int := a * (e * i - f * h) - b * (d * i - f * g) + c * (d * h - e * g)
theorem sq_nn (x : Int) : 0 ≤ x * x := by
  rcases Int.le_total 0 x with h | h
  · exact Int.mul_nonneg h h
  · have := Int.mul_nonneg (show 0 ≤ -x by omega) (show 0 ≤ -x by omega)
    rw [Int.neg_mul_neg] at this
    exact this
theorem sq_z {x : Int} (h : x * x = 0) : x = 0 := by
  rcases Int.mul_eq_zero.1 h with h | h <;> exact h
/-- Two columns: the squares of all determinants of two rows. -/
def mn2 (R : Nat → Nat → Int) (a b : Nat) : Int := R a 0 * R b 1 - R a 1 * R b 0
theorem gram2 (R : Nat → Nat → Int) (n : Nat) : smN n (fun a => smN n (fun b => mn2 R a b * mn2 R a b)) = 2 * det2 (gmM R n 0 0) (gmM R n 0 1) (gmM R n 1 0) (gmM R n 1 1) := by
  have s1 : ∀ a, smN n (fun b => mn2 R a b * mn2 R a b) = gmM R n 1 1 * (R a 0 * R a 0) + gmM R n 0 0 * (R a 1 * R a 1) + 0 * (R a 2 * R a 2) + (-2 * gmM R n 0 1) * (R a 0 * R a 1) + 0 * (R a 0 * R a 2) + 0 * (R a 1 * R a 2) := by
    intro a
    have := gm_quad R n (R a 1 * R a 1) (R a 0 * R a 0) 0 (-2 * (R a 0 * R a 1)) 0 0
    rw [smN_congr n (g := fun b => R a 1 * R a 1 * (R b 0 * R b 0) + R a 0 * R a 0 * (R b 1 * R b 1) + 0 * (R b 2 * R b 2) + -2 * (R a 0 * R a 1) * (R b 0 * R b 1) + 0 * (R b 0 * R b 2) + 0 * (R b 1 * R b 2)) (fun b _ => by unfold mn2; grind), this]
    grind
  rw [smN_congr n (fun a _ => s1 a), gm_quad]
  have := gmM_symm R n 1 0
  unfold det2
  grind
/-- Three columns: the squares of all determinants of three rows. -/
def mn3 (R : Nat → Nat → Int) (a b c : Nat) : Int := R a 0 * (R b 1 * R c 2 - R b 2 * R c 1) - R a 1 * (R b 0 * R c 2 - R b 2 * R c 0) + R a 2 * (R b 0 * R c 1 - R b 1 * R c 0)
theorem gram3 (R : Nat → Nat → Int) (n : Nat) : smN n (fun a => smN n (fun b => smN n (fun c => mn3 R a b c * mn3 R a b c))) = 6 * det3 (gmM R n 0 0) (gmM R n 0 1) (gmM R n 0 2) (gmM R n 1 0) (gmM R n 1 1) (gmM R n 1 2) (gmM R n 2 0) (gmM R n 2 1) (gmM R n 2 2) := by
  have e1 := gmM_symm R n 1 0
  have e2 := gmM_symm R n 2 0
  have e3 := gmM_symm R n 2 1
  have quad := gm_quad R n
  generalize gmM R n 0 0 = g00 at *
  generalize gmM R n 0 1 = g01 at *
  generalize gmM R n 0 2 = g02 at *
  generalize gmM R n 1 1 = g11 at *
  generalize gmM R n 1 2 = g12 at *
  generalize gmM R n 2 2 = g22 at *
  rw [e1, e2, e3]
  have s1 : ∀ a b, smN n (fun c => mn3 R a b c * mn3 R a b c) = (R a 2 * R a 2 * g11 + R a 1 * R a 1 * g22 - 2 * (R a 1 * R a 2) * g12) * (R b 0 * R b 0) + (R a 2 * R a 2 * g00 + R a 0 * R a 0 * g22 - 2 * (R a 0 * R a 2) * g02) * (R b 1 * R b 1) + (R a 1 * R a 1 * g00 + R a 0 * R a 0 * g11 - 2 * (R a 0 * R a 1) * g01) * (R b 2 * R b 2)
      + (-2 * (R a 0 * R a 1) * g22 - 2 * (R a 2 * R a 2) * g01 + 2 * (R a 1 * R a 2) * g02 + 2 * (R a 0 * R a 2) * g12) * (R b 0 * R b 1) + (-2 * (R a 0 * R a 2) * g11 + 2 * (R a 1 * R a 2) * g01 - 2 * (R a 1 * R a 1) * g02 + 2 * (R a 0 * R a 1) * g12) * (R b 0 * R b 2) + (-2 * (R a 1 * R a 2) * g00 + 2 * (R a 0 * R a 2) * g01 + 2 * (R a 0 * R a 1) * g02 - 2 * (R a 0 * R a 0) * g12) * (R b 1 * R b 2) := by
    intro a b
    obtain ⟨p0, h0⟩ : ∃ p, p = R a 1 * R b 2 - R a 2 * R b 1 := ⟨_, rfl⟩
    obtain ⟨p1, h1⟩ : ∃ p, p = R a 2 * R b 0 - R a 0 * R b 2 := ⟨_, rfl⟩
    obtain ⟨p2, h2⟩ : ∃ p, p = R a 0 * R b 1 - R a 1 * R b 0 := ⟨_, rfl⟩
    have m : ∀ c, mn3 R a b c = p0 * R c 0 + p1 * R c 1 + p2 * R c 2 := by
      intro c
      unfold mn3
      subst h0 h1 h2
      generalize R a 0 = a0; generalize R a 1 = a1; generalize R a 2 = a2
      generalize R b 0 = b0; generalize R b 1 = b1; generalize R b 2 = b2
      grind
    have q := quad (p0 * p0) (p1 * p1) (p2 * p2) (2 * (p0 * p1)) (2 * (p0 * p2)) (2 * (p1 * p2))
    rw [smN_congr n (g := fun c => p0 * p0 * (R c 0 * R c 0) + p1 * p1 * (R c 1 * R c 1) + p2 * p2 * (R c 2 * R c 2) + 2 * (p0 * p1) * (R c 0 * R c 1) + 2 * (p0 * p2) * (R c 0 * R c 2) + 2 * (p1 * p2) * (R c 1 * R c 2)) (fun c _ => by rw [m c]; generalize R c 0 = c0; generalize R c 1 = c1; generalize R c 2 = c2; clear q m h0 h1 h2 quad; grind), q]
    clear q m quad e1 e2 e3
    subst h0 h1 h2
    generalize R a 0 = a0; generalize R a 1 = a1; generalize R a 2 = a2
    generalize R b 0 = b0; generalize R b 1 = b1; generalize R b 2 = b2
    grind
  have s2 : ∀ a, smN n (fun b => smN n (fun c => mn3 R a b c * mn3 R a b c)) = (2 * (g11 * g22 - g12 * g12)) * (R a 0 * R a 0) + (2 * (g00 * g22 - g02 * g02)) * (R a 1 * R a 1) + (2 * (g00 * g11 - g01 * g01)) * (R a 2 * R a 2) + (4 * (g02 * g12 - g01 * g22)) * (R a 0 * R a 1) + (4 * (g01 * g12 - g02 * g11)) * (R a 0 * R a 2) + (4 * (g01 * g02 - g12 * g00)) * (R a 1 * R a 2) := by
    intro a
    rw [smN_congr n (fun b _ => s1 a b), quad]
    clear s1 quad e1 e2 e3
    generalize R a 0 = a0; generalize R a 1 = a1; generalize R a 2 = a2
    grind
  rw [smN_congr n (fun a _ => s2 a), quad]
  clear s1 s2 quad e1 e2 e3
  unfold det3
  grind
/-- Gram's determinants are not negative, and where one is 0 all determinants of as many rows are. -/
theorem gram1_nn (R : Nat → Nat → Int) (n : Nat) : 0 ≤ gmM R n 0 0 ∧ (gmM R n 0 0 = 0 → ∀ a, a < n → R a 0 = 0) := by
  have h : ∀ i, i < n → 0 ≤ R i 0 * R i 0 := fun i _ => sq_nn _
  exact ⟨smN_nn n h, fun hz a ha => sq_z (smN_zero n h hz a ha)⟩
theorem gram2_nn (R : Nat → Nat → Int) (n : Nat) : 0 ≤ det2 (gmM R n 0 0) (gmM R n 0 1) (gmM R n 1 0) (gmM R n 1 1) ∧ (det2 (gmM R n 0 0) (gmM R n 0 1) (gmM R n 1 0) (gmM R n 1 1) = 0 → ∀ a b, a < n → b < n → mn2 R a b = 0) := by
  have g := gram2 R n
  have h1 : ∀ a, ∀ b, b < n → 0 ≤ mn2 R a b * mn2 R a b := fun a b _ => sq_nn _
  have h2 : ∀ a, a < n → 0 ≤ smN n (fun b => mn2 R a b * mn2 R a b) := fun a _ => smN_nn n (h1 a)
  have h3 := smN_nn n h2
  refine ⟨by omega, fun hz a b ha hb => ?_⟩
  exact sq_z (smN_zero n (h1 a) (smN_zero n h2 (by rw [g, hz]; rfl) a ha) b hb)
theorem gram3_nn (R : Nat → Nat → Int) (n : Nat) : 0 ≤ det3 (gmM R n 0 0) (gmM R n 0 1) (gmM R n 0 2) (gmM R n 1 0) (gmM R n 1 1) (gmM R n 1 2) (gmM R n 2 0) (gmM R n 2 1) (gmM R n 2 2) ∧ (det3 (gmM R n 0 0) (gmM R n 0 1) (gmM R n 0 2) (gmM R n 1 0) (gmM R n 1 1) (gmM R n 1 2) (gmM R n 2 0) (gmM R n 2 1) (gmM R n 2 2) = 0 → ∀ a b c, a < n → b < n → c < n → mn3 R a b c = 0) := by
  have g := gram3 R n
  have h1 : ∀ a b, ∀ c, c < n → 0 ≤ mn3 R a b c * mn3 R a b c := fun a b c _ => sq_nn _
  have h2 : ∀ a, ∀ b, b < n → 0 ≤ smN n (fun c => mn3 R a b c * mn3 R a b c) := fun a b _ => smN_nn n (h1 a b)
  have h3 : ∀ a, a < n → 0 ≤ smN n (fun b => smN n (fun c => mn3 R a b c * mn3 R a b c)) := fun a _ => smN_nn n (h2 a)
  have h4 := smN_nn n h3
  refine ⟨by omega, fun hz a b c ha hb hc => ?_⟩
  exact sq_z (smN_zero n (h1 a b) (smN_zero n (h2 a) (smN_zero n h3 (by rw [g, hz]; rfl) a ha) b hb) c hc)
/-- Cramer's rule for a symmetric matrix of three columns. -/
theorem cramer3 (g00 g01 g02 g11 g12 g22 r0 r1 r2 : Int) :
    det3 g00 g01 g02 g01 g11 g12 g02 g12 g22 * r0 = g00 * det3 r0 g01 g02 r1 g11 g12 r2 g12 g22 + g01 * det3 g00 r0 g02 g01 r1 g12 g02 r2 g22 + g02 * det3 g00 g01 r0 g01 g11 r1 g02 g12 r2
    ∧ det3 g00 g01 g02 g01 g11 g12 g02 g12 g22 * r1 = g01 * det3 r0 g01 g02 r1 g11 g12 r2 g12 g22 + g11 * det3 g00 r0 g02 g01 r1 g12 g02 r2 g22 + g12 * det3 g00 g01 r0 g01 g11 r1 g02 g12 r2
    ∧ det3 g00 g01 g02 g01 g11 g12 g02 g12 g22 * r2 = g02 * det3 r0 g01 g02 r1 g11 g12 r2 g12 g22 + g12 * det3 g00 r0 g02 g01 r1 g12 g02 r2 g22 + g22 * det3 g00 g01 r0 g01 g11 r1 g02 g12 r2 := by
  unfold det3
  refine ⟨?_, ?_, ?_⟩ <;> grind
theorem cramer2 (g00 g01 g11 r0 r1 : Int) :
    det2 g00 g01 g01 g11 * r0 = g00 * det2 r0 g01 r1 g11 + g01 * det2 g00 r0 g01 r1
    ∧ det2 g00 g01 g01 g11 * r1 = g01 * det2 r0 g01 r1 g11 + g11 * det2 g00 r0 g01 r1 := by
  unfold det2
  refine ⟨?_, ?_⟩ <;> grind
end Go.Proofs.Ytcnmjfngaahhmaa
