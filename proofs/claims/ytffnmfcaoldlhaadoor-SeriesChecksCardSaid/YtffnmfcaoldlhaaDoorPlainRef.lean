/- The reference's products and remainders in whole numbers, in plain terms. No program in sight. -/
import Derived.Test.YtffnmfcaoldlhaaDoorPlainSc2
set_option linter.unusedVariables false
set_option linter.unusedSimpArgs false
namespace Go.Proofs.YtffnmfcaoldlhaaDoor
theorem fm_parts {a b : Int} (a0 : 0 ≤ a) (a1 : a ≤ 2305843009213693952) (b0 : 0 ≤ b) (b1 : b ≤ 2305843009213693952) :
    (0 ≤ a / 1073741824 ∧ a / 1073741824 ≤ 2147483648 ∧ 0 ≤ b / 1073741824 ∧ b / 1073741824 ≤ 2147483648 ∧ 0 ≤ a % 1073741824 ∧ a % 1073741824 ≤ 1073741823 ∧ 0 ≤ b % 1073741824 ∧ b % 1073741824 ≤ 1073741823) ∧
    (0 ≤ a / 1073741824 * (b / 1073741824) ∧ a / 1073741824 * (b / 1073741824) ≤ 4611686018427387904) ∧
    (0 ≤ a / 1073741824 * (b % 1073741824) ∧ a / 1073741824 * (b % 1073741824) ≤ 2305843009213693952) ∧
    (0 ≤ a % 1073741824 * (b / 1073741824) ∧ a % 1073741824 * (b / 1073741824) ≤ 2305843009213693952) ∧
    (0 ≤ a % 1073741824 * (b % 1073741824) ∧ a % 1073741824 * (b % 1073741824) ≤ 1152921504606846976) ∧
    a / 1073741824 * (b / 1073741824) + (a / 1073741824 * (b % 1073741824) + a % 1073741824 * (b / 1073741824) + a % 1073741824 * (b % 1073741824) / 1073741824) / 1073741824 = (a * b).tdiv U60 := by
  have h1 := Int.emod_add_mul_ediv a 1073741824
  have h2 := Int.emod_add_mul_ediv b 1073741824
  have q : ∀ {x y p r : Int}, 0 ≤ x → x ≤ p → 0 ≤ y → y ≤ r → 0 ≤ x * y ∧ x * y ≤ p * r := by
    intro x y p r x0 x1 y0 y1
    exact ⟨Int.mul_nonneg x0 y0, Int.le_trans (Int.mul_le_mul_of_nonneg_right x1 y0) (Int.mul_le_mul_of_nonneg_left y1 (by omega))⟩
  have A0 : 0 ≤ a / 1073741824 := by omega
  have A1 : a / 1073741824 ≤ 2147483648 := by omega
  have B0 : 0 ≤ b / 1073741824 := by omega
  have B1 : b / 1073741824 ≤ 2147483648 := by omega
  have C0 : 0 ≤ a % 1073741824 := by omega
  have C1 : a % 1073741824 ≤ 1073741823 := by omega
  have D0 : 0 ≤ b % 1073741824 := by omega
  have D1 : b % 1073741824 ≤ 1073741823 := by omega
  have e : a * b = a / 1073741824 * (b / 1073741824) * 1152921504606846976 + (a / 1073741824 * (b % 1073741824) + a % 1073741824 * (b / 1073741824)) * 1073741824 + a % 1073741824 * (b % 1073741824) := by
    generalize a / 1073741824 = A at *
    generalize b / 1073741824 = B at *
    generalize a % 1073741824 = C at *
    generalize b % 1073741824 = D at *
    subst h1 h2
    grind
  have p1 := q A0 A1 B0 B1
  have p2 := q A0 A1 D0 D1
  have p3 := q C0 C1 B0 B1
  have p4 := q C0 C1 D0 D1
  refine ⟨⟨A0, A1, B0, B1, C0, C1, D0, D1⟩, ⟨p1.1, by omega⟩, ⟨p2.1, by omega⟩, ⟨p3.1, by omega⟩, ⟨p4.1, by omega⟩, ?_⟩
  rw [Int.tdiv_eq_ediv_of_nonneg (Int.mul_nonneg a0 b0), e]
  unfold U60
  omega
theorem fm_neg_l (a b : Int) : fm (-a) b = -fm a b := by unfold fm; rw [Int.neg_mul, Int.neg_tdiv]
theorem fm_neg_r (a b : Int) : fm a (-b) = -fm a b := by unfold fm; rw [Int.mul_neg, Int.neg_tdiv]
/-- The bound of a product. -/
theorem fm_le {a b A B : Int} (a1 : -A ≤ a) (a2 : a ≤ A) (b1 : -B ≤ b) (b2 : b ≤ B) (C : Int) (h : A * B ≤ C * U60) : -C ≤ fm a b ∧ fm a b ≤ C := by
  have A0 : 0 ≤ A := by omega
  have B0 : 0 ≤ B := by omega
  have n1 : (a * b).natAbs ≤ (A * B).natAbs := by
    rw [Int.natAbs_mul, Int.natAbs_mul]
    exact Nat.mul_le_mul (by omega) (by omega)
  have AB := Int.mul_nonneg A0 B0
  have u1 : a * b ≤ C * U60 := by omega
  have u2 : -(C * U60) ≤ a * b := by omega
  unfold fm
  unfold U60 at *
  constructor
  · have h2 := Int.tmod_add_tdiv_mul (a * b) 1152921504606846976
    have h3 := Int.tmod_lt_of_pos (a * b) (show (0 : Int) < 1152921504606846976 by omega)
    have h4 : (a * b).tdiv 1152921504606846976 = if 0 ≤ a * b then a * b / 1152921504606846976 else -(-(a * b) / 1152921504606846976) := by
      split
      · exact Int.tdiv_eq_ediv_of_nonneg (by omega)
      · rw [← Int.neg_neg (a * b), Int.neg_tdiv, Int.tdiv_eq_ediv_of_nonneg (by omega), Int.neg_neg]
    rw [h4]
    split <;> omega
  · have h4 : (a * b).tdiv 1152921504606846976 = if 0 ≤ a * b then a * b / 1152921504606846976 else -(-(a * b) / 1152921504606846976) := by
      split
      · exact Int.tdiv_eq_ediv_of_nonneg (by omega)
      · rw [← Int.neg_neg (a * b), Int.neg_tdiv, Int.tdiv_eq_ediv_of_nonneg (by omega), Int.neg_neg]
    rw [h4]
    split <;> omega
/-- The sine and the cosine up to 32/5 are bounded. -/
theorem half_bd {y : Rat} (hy : rabs y ≤ 32/5) : rabs (y / 2) ≤ 16/5 := by
  obtain ⟨a, b⟩ := rabs_le.1 hy
  rw [rabs_le]
  have e : y / 2 = y * (1/2) := by rw [Rat.div_def, Rat.div_def]; grind
  rw [e]
  constructor <;> grind
theorem bd64 {y : Rat} (hy : rabs y ≤ 32/5) : (S y ≤ 1 + 1 / 100000000000 ∧ -(1 + 1 / 100000000000) ≤ S y) ∧ C y ≤ 1 + 1 / 100000000000 ∧ -(1 + 1 / 100000000000) ≤ C y := by
  have h := half_bd hy
  have hc := pv_bd h (padd (padd (pmul sT sT) (pmul cT cT)) [-1])
  rw [pv_add, pv_add, pv_mul, pv_mul] at hc
  have e1 : pv [-1] (y / 2) = -1 := by unfold pv; simp; grind
  rw [e1] at hc
  obtain ⟨h1, h2⟩ := rabs_le.1 (show rabs (S (y / 2) * S (y / 2) + C (y / 2) * C (y / 2) + -1) ≤ 1 / 10 ^ 18 by have := circle; unfold S C; grind)
  obtain ⟨d1, d2⟩ := sin_double h
  obtain ⟨d3, d4⟩ := cos_double h
  have e : 2 * (y / 2) = y := by rw [Rat.div_def]; grind
  rw [e] at d1 d2 d3 d4
  have t : (1 : Rat) / 10 ^ 18 ≤ 1 / 1000000000000 := by decide +kernel
  have sq : ∀ a : Rat, 0 ≤ a * a := fun a => by
    by_cases q : 0 ≤ a
    · exact Rat.mul_nonneg q q
    · have := Rat.mul_nonneg (show 0 ≤ -a by grind) (show 0 ≤ -a by grind); grind
  have q1 := sq (S (y / 2) - C (y / 2))
  have q2 := sq (S (y / 2) + C (y / 2))
  have q3 := sq (S (y / 2))
  have q4 := sq (C (y / 2))
  generalize (1 : Rat) / 10 ^ 18 = d at *
  generalize S (y / 2) = s at *
  generalize C (y / 2) = c at *
  refine ⟨⟨?_, ?_⟩, ?_, ?_⟩ <;> grind
theorem scIter_succ : ∀ (k : Nat) (p : Int × Int), scIter (k + 1) p = scStep (scIter k p)
  | 0, _ => rfl
  | k + 1, p => by
    show scIter (k + 1) (scStep p) = _
    rw [scIter_succ k (scStep p)]
    rfl
theorem er_all : (List.range 13).all (fun k => decide ((erIt k (63 / 40960) (48, 8)).1 ≤ 3000000) && decide ((erIt k (63 / 40960) (48, 8)).2 ≤ 3000000) && okR k (63 / 40960)) = true := by decide +kernel
theorem okR_le : ∀ (k : Nat) (R : Rat), 0 ≤ R → okR k R = true → (2 ^ k : Nat) * R ≤ 32/5 ∨ k = 0
  | 0, _, _, _ => .inr rfl
  | k + 1, R, hR, h => by
    left
    unfold okR at h
    simp at h
    rcases okR_le k (2 * R) (by grind) h.2 with q | q
    · rw [Nat.pow_succ]; push_cast at q ⊢; grind
    · subst q
      have e : ((2 ^ (0 + 1) : Nat) : Rat) = 2 := by decide +kernel
      rw [e]; grind
theorem scX_bd {arg : Int} (h0 : 0 ≤ arg) (h1 : arg ≤ 1000000000000000) : 0 ≤ scX arg ∧ scX arg ≤ 1800000000000000 ∧ arg * 7244 + arg / 1000000 * 19458077 / 1000 ≤ 7300000000000000000 ∧ 0 ≤ arg * 7244 + arg / 1000000 * 19458077 / 1000 ∧ 0 ≤ arg / 1000000 * 19458077 ∧ arg / 1000000 * 19458077 ≤ 20000000000000000 ∧ 0 ≤ arg / 1000000 ∧ arg / 1000000 ≤ 1000000000 := by
  unfold scX
  omega
/-- The bounds of the start. -/
theorem scStart_bd {x : Int} (h0 : 0 ≤ x) (h1 : x ≤ 1800000000000000) : (0 ≤ fm x x ∧ fm x x ≤ 3000000000000) ∧ (0 ≤ fm x (fm x x) ∧ fm x (fm x x) ≤ 5000000000) ∧ (0 ≤ fm (fm x (fm x x)) (fm x x) ∧ fm (fm x (fm x x)) (fm x x) ≤ 20000) ∧ (0 ≤ fm (fm x x) (fm x x) ∧ fm (fm x x) (fm x x) ≤ 10000000) := by
  have nn : ∀ a b : Int, 0 ≤ a → 0 ≤ b → 0 ≤ fm a b := by
    intro a b ha hb
    unfold fm
    rw [Int.tdiv_eq_ediv_of_nonneg (Int.mul_nonneg ha hb)]
    exact Int.ediv_nonneg (Int.mul_nonneg ha hb) (by decide)
  have q := fm_le (a := x) (b := x) (A := 1800000000000000) (B := 1800000000000000) (by omega) h1 (by omega) h1 3000000000000 (by decide)
  have q0 := nn x x h0 h0
  generalize fm x x = y at *
  have r := fm_le (a := x) (b := y) (A := 1800000000000000) (B := 3000000000000) (by omega) h1 (by omega) q.2 5000000000 (by decide)
  have r0 := nn x y h0 q0
  generalize fm x y = z at *
  have s := fm_le (a := z) (b := y) (A := 5000000000) (B := 3000000000000) (by omega) r.2 (by omega) q.2 20000 (by decide)
  have s0 := nn z y r0 q0
  have t := fm_le (a := y) (b := y) (A := 3000000000000) (B := 3000000000000) (by omega) q.2 (by omega) q.2 10000000 (by decide)
  have t0 := nn y y q0 q0
  exact ⟨⟨q0, q.2⟩, ⟨r0, r.2⟩, ⟨s0, s.2⟩, t0, t.2⟩
/-- The numbers of the doubling stay in bounds. -/
theorem sc_bd {arg : Int} (h0 : 0 ≤ arg) (h1 : arg ≤ 1000000000000000) (k : Nat) (hk : k ≤ 12) : -1153000000000000000 ≤ (scIter k (scStart (scX arg))).1 ∧ (scIter k (scStart (scX arg))).1 ≤ 1153000000000000000 ∧ -100000000 ≤ (scIter k (scStart (scX arg))).2 ∧ (scIter k (scStart (scX arg))).2 ≤ 2305843009313693952 := by
  have hx := scX_near h0 h1
  have r0 : (0 : Rat) ≤ (arg : Rat) := by exact_mod_cast h0
  have r1 : (arg : Rat) ≤ ((1000000000000000 : Int) : Rat) := Rat.intCast_le_intCast.2 h1
  have r2 : ((1000000000000000 : Int) : Rat) = 1000000000000000 := rfl
  rw [r2] at r1
  have hy : rabs (ang arg / 4096) ≤ 63 / 40960 := by
    have e : ang arg / 4096 = (arg : Rat) * (2 * piQ / 10 ^ 15 / 4096) := by unfold ang; simp only [Rat.div_def]; grind
    have k : 0 ≤ 2 * piQ / 10 ^ 15 / 4096 ∧ 2 * piQ / 10 ^ 15 / 4096 ≤ 63 / 40960 / 1000000000000000 := by decide +kernel
    rw [e, rabs_le]
    generalize 2 * piQ / 10 ^ 15 / 4096 = c at *
    have m1 := Rat.mul_nonneg r0 k.1
    have m2 := Rat.mul_le_mul_of_nonneg_left k.2 r0
    have m3 := Rat.mul_le_mul_of_nonneg_right r1 (show (0 : Rat) ≤ 63 / 40960 / 1000000000000000 by decide +kernel)
    have m4 : (1000000000000000 : Rat) * (63 / 40960 / 1000000000000000) = 63 / 40960 := by decide +kernel
    constructor <;> grind
  obtain ⟨s1, s2⟩ := start_near hy hx
  have ea := er_all
  rw [List.all_eq_true] at ea
  have ek := ea k (List.mem_range.2 (by omega))
  simp only [Bool.and_eq_true, decide_eq_true_eq] at ek
  obtain ⟨⟨ek1, ek2⟩, ek3⟩ := ek
  obtain ⟨i1, i2⟩ := iter_nr k _ _ _ (48, 8) ek3 hy s1 s2
  have hd : rabs (dbl k (ang arg / 4096)) ≤ 32/5 := by
    rw [dbl_eq, rabs_mul]
    have p : rabs ((2 ^ k : Nat) : Rat) = ((2 ^ k : Nat) : Rat) := by
      unfold rabs; rw [if_pos (by exact_mod_cast Nat.zero_le _)]
    rw [p]
    have p0 : (0 : Rat) ≤ ((2 ^ k : Nat) : Rat) := by exact_mod_cast Nat.zero_le _
    have m := Rat.mul_le_mul_of_nonneg_left hy p0
    rcases okR_le k (63 / 40960) (by decide +kernel) ek3 with q | q
    · grind
    · subst q
      have e : ((2 ^ 0 : Nat) : Rat) = 1 := by decide +kernel
      rw [e] at m ⊢
      grind
  have hS := bd64 hd
  have hu : uQ = 1152921504606846976 := rfl
  have u0 : (0 : Rat) ≤ uQ := by decide +kernel
  have m1 := Rat.mul_le_mul_of_nonneg_left hS.1.1 u0
  have m2 := Rat.mul_le_mul_of_nonneg_left hS.1.2 u0
  have m3 := Rat.mul_le_mul_of_nonneg_left hS.2.1 u0
  have m4 := Rat.mul_le_mul_of_nonneg_left hS.2.2 u0
  generalize (scIter k (scStart (scX arg))).1 = n1 at *
  generalize (scIter k (scStart (scX arg))).2 = n2 at *
  obtain ⟨j1, j2⟩ := i1.mono ek1
  obtain ⟨j3, j4⟩ := i2.mono ek2
  generalize S (dbl k (ang arg / 4096)) = s at *
  generalize C (dbl k (ang arg / 4096)) = c at *
  have cancel : ∀ {a b : Int}, (a : Rat) ≤ (b : Rat) → a ≤ b := fun h => Rat.intCast_le_intCast.1 h
  have w1 : ((-1153000000000000000 : Int) : Rat) = -1153000000000000000 := rfl
  have w2 : ((1153000000000000000 : Int) : Rat) = 1153000000000000000 := rfl
  have w3 : ((-100000000 : Int) : Rat) = -100000000 := rfl
  have w4 : ((2305843009313693952 : Int) : Rat) = 2305843009313693952 := rfl
  rw [hu] at *
  refine ⟨cancel ?_, cancel ?_, cancel ?_, cancel ?_⟩
  · rw [w1]; grind
  · rw [w2]; grind
  · rw [w3]; grind
  · rw [w4]; grind
end Go.Proofs.YtffnmfcaoldlhaaDoor
