/- The plain law of least squares with one to three columns: orthogonality, bounds, the common divisor. No program in sight. -/
import Derived.Test.YtcnmjfngaahhmaaPlainGau2
import Derived.Test.YtcnmjfngaahhmaaPlainDet
set_option linter.unusedVariables false
set_option linter.unusedSimpArgs false
namespace Go.Proofs.Ytcnmjfngaahhmaa
def colM (M : Nat → Nat → Int) (V : Nat → Int) (k i j : Nat) : Int := if j = k then V i else M i j
def NNv (n : Nat) (M : Nat → Nat → Int) (V : Nat → Int) (k : Nat) : Int := detF n (colM M V k)
def gN (D : Int) (F : Nat → Int) : Nat → Nat
  | 0 => D.natAbs
  | k + 1 => Nat.gcd (gN D F k) (F k).natAbs
theorem gN_pos {D : Int} (hD : D ≠ 0) (F : Nat → Int) : ∀ k, 0 < gN D F k
  | 0 => by unfold gN; omega
  | k + 1 => Nat.gcd_pos_of_pos_left _ (gN_pos hD F k)
theorem gN_dvd {D : Int} (F : Nat → Int) : ∀ k, gN D F k ∣ D.natAbs ∧ ∀ j, j < k → gN D F k ∣ (F j).natAbs
  | 0 => ⟨Nat.dvd_refl _, fun j hj => by omega⟩
  | k + 1 => by
    obtain ⟨h1, h2⟩ := gN_dvd (D := D) F k
    have d1 : gN D F (k + 1) ∣ gN D F k := Nat.gcd_dvd_left _ _
    refine ⟨Nat.dvd_trans d1 h1, fun j hj => ?_⟩
    by_cases e : j = k
    · subst e; exact Nat.gcd_dvd_right _ _
    · exact Nat.dvd_trans d1 (h2 j (by omega))
theorem gN_le {D : Int} (hD : D ≠ 0) (F : Nat → Int) (k : Nat) : gN D F k ≤ D.natAbs := Nat.le_of_dvd (by omega) (gN_dvd F k).1
theorem natAbs_div {x : Int} {g : Nat} (g0 : 0 < g) (h : g ∣ x.natAbs) : (x / (g : Int)).natAbs = x.natAbs / g := by
  obtain ⟨a, rfl⟩ := Int.ofNat_dvd_left.2 h
  have gz : (g : Int) ≠ 0 := by omega
  rw [Int.mul_ediv_cancel_left _ gz, Int.natAbs_mul, Int.natAbs_natCast, Nat.mul_div_cancel_left _ g0]
/-- The common divisor of the quotients. -/
theorem gN_div {D : Int} {F : Nat → Int} {g : Nat} (g0 : 0 < g) (hD : g ∣ D.natAbs) : ∀ k, (∀ j, j < k → g ∣ (F j).natAbs) → gN (D / (g : Int)) (fun j => F j / (g : Int)) k = gN D F k / g ∧ g ∣ gN D F k
  | 0, _ => ⟨natAbs_div g0 hD, hD⟩
  | k + 1, h => by
    obtain ⟨h1, h2⟩ := gN_div g0 hD k (fun j hj => h j (by omega))
    have h3 := h k (by omega)
    refine ⟨?_, Nat.dvd_gcd h2 h3⟩
    show Nat.gcd (gN (D / (g : Int)) (fun j => F j / (g : Int)) k) (F k / (g : Int)).natAbs = Nat.gcd (gN D F k) (F k).natAbs / g
    rw [h1, natAbs_div g0 h3, Nat.gcd_div h2 h3]
theorem gN_one {D : Int} (hD : D ≠ 0) (F : Nat → Int) (n : Nat) : gN (D / (gN D F n : Int)) (fun j => F j / (gN D F n : Int)) n = 1 := by
  obtain ⟨h1, h2⟩ := gN_dvd (D := D) F n
  have hp := gN_pos hD F n
  rw [(gN_div hp h1 n h2).1]
  exact Nat.div_self hp
/-- The differences against anything. -/
theorem smN_ext {f g : Nat → Int} (h : ∀ i, f i = g i) (n : Nat) : smN n f = smN n g := smN_congr n (fun i _ => h i)
def dfF (R : Nat → Nat → Int) (H : Nat → Int) (Dn : Int) (Nm : Nat → Int) (i j : Nat) : Int := Dn * H i - smN j (fun q => R i q * Nm q)
theorem df_sum (R : Nat → Nat → Int) (H X : Nat → Int) (Dn : Int) (Nm : Nat → Int) (N : Nat) : ∀ n, smN N (fun i => dfF R H Dn Nm i n * X i) = Dn * smN N (fun i => H i * X i) - smN n (fun j => Nm j * smN N (fun i => R i j * X i))
  | 0 => by
    rw [← smN_mul]
    show _ = _ - 0
    rw [Int.sub_zero]
    refine smN_ext (fun i => ?_) N
    show (Dn * H i - 0) * X i = Dn * (H i * X i)
    rw [Int.sub_zero, Int.mul_assoc]
  | n + 1 => by
    have ih := df_sum R H X Dn Nm N n
    have e : smN N (fun i => dfF R H Dn Nm i (n + 1) * X i) = smN N (fun i => dfF R H Dn Nm i n * X i + -Nm n * (R i n * X i)) := smN_ext (fun i => by
      show (Dn * H i - (smN n (fun q => R i q * Nm q) + R i n * Nm n)) * X i = (Dn * H i - smN n (fun q => R i q * Nm q)) * X i + -Nm n * (R i n * X i)
      generalize smN n (fun q => R i q * Nm q) = s
      generalize R i n = r; generalize H i = h; generalize X i = x; generalize Nm n = m
      grind) N
    rw [e, smN_add, smN_mul, ih]
    show _ = Dn * smN N (fun i => H i * X i) - (smN n (fun j => Nm j * smN N (fun i => R i j * X i)) + Nm n * smN N (fun i => R i n * X i))
    generalize smN N (fun i => R i n * X i) = s
    generalize smN n (fun j => Nm j * smN N (fun i => R i j * X i)) = t
    generalize Dn * smN N (fun i => H i * X i) = u
    grind
/-- Cramer's rule in all three sizes, divided. -/
theorem fit_orth {n : Nat} (n1 : 1 ≤ n) (n3 : n ≤ 3) {M : Nat → Nat → Int} (hs : ∀ i j, M i j = M j i) (V : Nat → Int) (hD : detF n M ≠ 0) {c : Nat} (hc : c < n) :
    detF n M / (gN (detF n M) (NNv n M V) n : Int) * V c = smN n (fun j => NNv n M V j / (gN (detF n M) (NNv n M V) n : Int) * M j c) := by
  obtain ⟨d1, d2⟩ := gN_dvd (D := detF n M) (NNv n M V) n
  have hp := gN_pos hD (NNv n M V) n
  have hg : (0 : Int) < (gN (detF n M) (NNv n M V) n : Int) := by omega
  have e1 := Int.ofNat_dvd_left.2 d1
  have e2 : ∀ j, j < n → ((gN (detF n M) (NNv n M V) n : Nat) : Int) ∣ NNv n M V j := fun j hj => Int.ofNat_dvd_left.2 (d2 j hj)
  clear d1 d2 hp hD
  generalize (gN (detF n M) (NNv n M V) n : Int) = G at *
  have z : (G : Int) ∣ 0 := ⟨0, by simp⟩
  have hz : (0 : Int) / G = 0 := Int.zero_ediv G
  rcases (show n = 1 ∨ n = 2 ∨ n = 3 by omega) with rfl | rfl | rfl
  · obtain rfl : c = 0 := by omega
    have k := cram_div (d := detF 1 M) (r := V 0) (g0 := M 0 0) (g1 := 0) (g2 := 0) (n0 := NNv 1 M V 0) (n1 := 0) (n2 := 0) hg e1 (e2 0 (by omega)) z z (by
      show M 0 0 * V 0 = M 0 0 * colM M V 0 0 0 + 0 * 0 + 0 * 0
      simp [colM])
    rw [k, hz]
    simp only [smN]
    generalize NNv 1 M V 0 / G = x
    generalize M 0 0 = y
    grind
  · have s10 := hs 1 0
    have c2 := cramer2 (M 0 0) (M 0 1) (M 1 1) (V 0) (V 1)
    have q0 : NNv 2 M V 0 = det2 (V 0) (M 0 1) (V 1) (M 1 1) := by unfold NNv; rw [detF_two]; simp [colM]
    have q1 : NNv 2 M V 1 = det2 (M 0 0) (V 0) (M 0 1) (V 1) := by unfold NNv; rw [detF_two]; simp [colM, s10]
    have qd : detF 2 M = det2 (M 0 0) (M 0 1) (M 0 1) (M 1 1) := by rw [detF_two, s10]
    rw [← q0, ← q1, ← qd] at c2
    have f0 := e2 0 (by omega)
    have f1 := e2 1 (by omega)
    rcases (show c = 0 ∨ c = 1 by omega) with rfl | rfl
    · have k := cram_div (g0 := M 0 0) (g1 := M 0 1) (n2 := 0) (g2 := 0) hg e1 f0 f1 z (by rw [c2.1]; omega)
      rw [k, hz]
      simp only [smN]
      rw [s10]
      generalize NNv 2 M V 0 / G = x; generalize NNv 2 M V 1 / G = y; generalize M 0 0 = u; generalize M 0 1 = v
      grind
    · have k := cram_div (g0 := M 0 1) (g1 := M 1 1) (n2 := 0) (g2 := 0) hg e1 f0 f1 z (by rw [c2.2]; omega)
      rw [k, hz]
      simp only [smN]
      generalize NNv 2 M V 0 / G = x; generalize NNv 2 M V 1 / G = y; generalize M 1 1 = u; generalize M 0 1 = v
      grind
  · have s10 := hs 1 0
    have s20 := hs 2 0
    have s21 := hs 2 1
    have c3 := cramer3 (M 0 0) (M 0 1) (M 0 2) (M 1 1) (M 1 2) (M 2 2) (V 0) (V 1) (V 2)
    have q0 : NNv 3 M V 0 = det3 (V 0) (M 0 1) (M 0 2) (V 1) (M 1 1) (M 1 2) (V 2) (M 1 2) (M 2 2) := by unfold NNv; rw [detF_three]; simp [colM, s21]
    have q1 : NNv 3 M V 1 = det3 (M 0 0) (V 0) (M 0 2) (M 0 1) (V 1) (M 1 2) (M 0 2) (V 2) (M 2 2) := by unfold NNv; rw [detF_three]; simp [colM, s10, s20]
    have q2 : NNv 3 M V 2 = det3 (M 0 0) (M 0 1) (V 0) (M 0 1) (M 1 1) (V 1) (M 0 2) (M 1 2) (V 2) := by unfold NNv; rw [detF_three]; simp [colM, s10, s20, s21]
    have qd : detF 3 M = det3 (M 0 0) (M 0 1) (M 0 2) (M 0 1) (M 1 1) (M 1 2) (M 0 2) (M 1 2) (M 2 2) := by rw [detF_three, s10, s20, s21]
    rw [← q0, ← q1, ← q2, ← qd] at c3
    have f0 := e2 0 (by omega)
    have f1 := e2 1 (by omega)
    have f2 := e2 2 (by omega)
    obtain ⟨k0, k1, k2⟩ := c3
    rcases (show c = 0 ∨ c = 1 ∨ c = 2 by omega) with rfl | rfl | rfl
    · have k := cram_div hg e1 f0 f1 f2 k0
      rw [k]
      simp only [smN]
      rw [s10, s20]
      generalize NNv 3 M V 0 / G = x; generalize NNv 3 M V 1 / G = y; generalize NNv 3 M V 2 / G = z; generalize M 0 0 = u; generalize M 0 1 = v; generalize M 0 2 = w
      grind
    · have k := cram_div hg e1 f0 f1 f2 k1
      rw [k]
      simp only [smN]
      rw [s21]
      generalize NNv 3 M V 0 / G = x; generalize NNv 3 M V 1 / G = y; generalize NNv 3 M V 2 / G = z; generalize M 1 1 = u; generalize M 0 1 = v; generalize M 1 2 = w
      grind
    · have k := cram_div hg e1 f0 f1 f2 k2
      rw [k]
      simp only [smN]
      generalize NNv 3 M V 0 / G = x; generalize NNv 3 M V 1 / G = y; generalize NNv 3 M V 2 / G = z; generalize M 2 2 = u; generalize M 0 2 = v; generalize M 1 2 = w
      grind
/-- Bounds of determinants by their columns. -/
theorem det2_col {a b c d A B : Int} (ha : -A ≤ a ∧ a ≤ A) (hb : -B ≤ b ∧ b ≤ B) (hc : -A ≤ c ∧ c ≤ A) (hd : -B ≤ d ∧ d ≤ B) : -(2 * (A * B)) ≤ det2 a b c d ∧ det2 a b c d ≤ 2 * (A * B) := by
  have p := mul_bd ha hd
  have q := mul_bd hb hc
  rw [Int.mul_comm B A] at q
  unfold det2
  omega
theorem det3_col {a b c d e f g h i A B C : Int} (ha : -A ≤ a ∧ a ≤ A) (hb : -B ≤ b ∧ b ≤ B) (hc : -C ≤ c ∧ c ≤ C) (hd : -A ≤ d ∧ d ≤ A) (he : -B ≤ e ∧ e ≤ B) (hf : -C ≤ f ∧ f ≤ C) (hg : -A ≤ g ∧ g ≤ A) (hh : -B ≤ h ∧ h ≤ B) (hi : -C ≤ i ∧ i ≤ C) :
    -(6 * (A * (B * C))) ≤ det3 a b c d e f g h i ∧ det3 a b c d e f g h i ≤ 6 * (A * (B * C)) := by
  have m1 := det2_col (a := e) (b := f) (c := h) (d := i) he hf hh hi
  have m2 := det2_col (a := d) (b := f) (c := g) (d := i) hd hf hg hi
  have m3 := det2_col (a := d) (b := e) (c := g) (d := h) hd he hg hh
  unfold det2 at m1 m2 m3
  have p1 := mul_bd (A := A) (D := 2 * (B * C)) ha m1
  have p2 := mul_bd (A := B) (D := 2 * (A * C)) hb m2
  have p3 := mul_bd (A := C) (D := 2 * (A * B)) hc m3
  have r1 : A * (2 * (B * C)) = 2 * (A * (B * C)) := by grind
  have r2 : B * (2 * (A * C)) = 2 * (A * (B * C)) := by grind
  have r3 : C * (2 * (A * B)) = 2 * (A * (B * C)) := by grind
  rw [r1] at p1
  rw [r2] at p2
  rw [r3] at p3
  unfold det3
  omega
theorem gram_bd {n : Nat} (n1 : 1 ≤ n) (n3 : n ≤ 3) {M : Nat → Nat → Int} {V : Nat → Int} (hM : ∀ i j, i < n → j < n → -800 ≤ M i j ∧ M i j ≤ 800) (hV : ∀ i, i < n → -80000 ≤ V i ∧ V i ≤ 80000) :
    (-3072000000 ≤ detF n M ∧ detF n M ≤ 3072000000) ∧ ∀ k, k < n → -307200000000 ≤ NNv n M V k ∧ NNv n M V k ≤ 307200000000 := by
  have hcol : ∀ (B : Nat → Int), (∀ j, j < n → ∀ i, i < n → -B j ≤ M i j ∧ M i j ≤ B j) → True := fun _ _ => trivial
  rcases (show n = 1 ∨ n = 2 ∨ n = 3 by omega) with rfl | rfl | rfl
  · refine ⟨by have := hM 0 0 (by omega) (by omega); show _ ≤ M 0 0 ∧ M 0 0 ≤ _; omega, fun k hk => ?_⟩
    obtain rfl : k = 0 := by omega
    have := hV 0 (by omega)
    show _ ≤ colM M V 0 0 0 ∧ colM M V 0 0 0 ≤ _
    simp [colM]
    omega
  · have m := fun i j hi hj => hM i j hi hj
    have v := fun i hi => hV i hi
    refine ⟨?_, fun k hk => ?_⟩
    · rw [detF_two]
      have := det2_col (m 0 0 (by omega) (by omega)) (m 0 1 (by omega) (by omega)) (m 1 0 (by omega) (by omega)) (m 1 1 (by omega) (by omega))
      omega
    · unfold NNv
      rw [detF_two]
      rcases (show k = 0 ∨ k = 1 by omega) with rfl | rfl
      · have := det2_col (v 0 (by omega)) (m 0 1 (by omega) (by omega)) (v 1 (by omega)) (m 1 1 (by omega) (by omega))
        simp [colM]
        omega
      · have := det2_col (m 0 0 (by omega) (by omega)) (v 0 (by omega)) (m 1 0 (by omega) (by omega)) (v 1 (by omega))
        simp [colM]
        omega
  · have m := fun i j hi hj => hM i j hi hj
    have v := fun i hi => hV i hi
    have m00 := m 0 0 (by omega) (by omega)
    have m01 := m 0 1 (by omega) (by omega)
    have m02 := m 0 2 (by omega) (by omega)
    have m10 := m 1 0 (by omega) (by omega)
    have m11 := m 1 1 (by omega) (by omega)
    have m12 := m 1 2 (by omega) (by omega)
    have m20 := m 2 0 (by omega) (by omega)
    have m21 := m 2 1 (by omega) (by omega)
    have m22 := m 2 2 (by omega) (by omega)
    have v0 := v 0 (by omega)
    have v1 := v 1 (by omega)
    have v2 := v 2 (by omega)
    refine ⟨?_, fun k hk => ?_⟩
    · rw [detF_three]
      have := det3_col m00 m01 m02 m10 m11 m12 m20 m21 m22
      omega
    · unfold NNv
      rw [detF_three]
      rcases (show k = 0 ∨ k = 1 ∨ k = 2 by omega) with rfl | rfl | rfl
      · have := det3_col v0 m01 m02 v1 m11 m12 v2 m21 m22
        simp [colM]
        omega
      · have := det3_col m00 v0 m02 m10 v1 m12 m20 v2 m22
        simp [colM]
        omega
      · have := det3_col m00 m01 v0 m10 m11 v1 m20 m21 v2
        simp [colM]
        omega
/-- Gram's determinant is not negative; where it is 0 the columns are dependent. -/
theorem gram_nn {n : Nat} (n1 : 1 ≤ n) (n3 : n ≤ 3) (R : Nat → Nat → Int) (N : Nat) : 0 ≤ detF n (gmM R N) := by
  rcases (show n = 1 ∨ n = 2 ∨ n = 3 by omega) with rfl | rfl | rfl
  · exact (gram1_nn R N).1
  · rw [detF_two]; exact (gram2_nn R N).1
  · rw [detF_three]; exact (gram3_nn R N).1
theorem quo_bd {x A : Int} {g : Int} (g1 : 1 ≤ g) (hx : -A ≤ x ∧ x ≤ A) (h : g ∣ x) : -A ≤ x / g ∧ x / g ≤ A := by
  obtain ⟨z, rfl⟩ := h
  have gz : g ≠ 0 := by omega
  rw [Int.mul_ediv_cancel_left _ gz]
  rcases Int.le_total 0 z with q | q
  · have := Int.mul_nonneg (show 0 ≤ g - 1 by omega) q
    have e : (g - 1) * z = g * z - z := by grind
    omega
  · have := Int.mul_nonneg (show 0 ≤ g - 1 by omega) (show 0 ≤ -z by omega)
    have e : (g - 1) * -z = z - g * z := by grind
    omega
end Go.Proofs.Ytcnmjfngaahhmaa
