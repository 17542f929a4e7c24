/- The reference's products and remainders in whole numbers, in plain terms. No program in sight. The reference's Arg and Part in plain terms. No program in sight. What a rate adds up to an instant, in plain terms. No program in sight. Checks and bounds of sums of terms, in plain terms. No program in sight. The term of a sum in floating point. No program in sight. The value of a sum in floating point. No program in sight. -/
import Derived.Test.YtcgnhnmigmdalaaGreatDoorFltC
import Derived.Test.YtcgnhnmigmdalaaGreatDoorPlA
set_option linter.unusedVariables false
set_option linter.unusedSimpArgs false
namespace Go.Proofs.YtcgnhnmigmdalaaGreatDoor
section
theorem fm_parts {a b : Int} (a0 : 0 ≤ a) (a1 : a ≤ 2305843009213693952) (b0 : 0 ≤ b) (b1 : b ≤ 2305843009213693952) :
    (0 ≤ a / 1073741824 ∧ a / 1073741824 ≤ 2147483648 ∧ 0 ≤ b / 1073741824 ∧ b / 1073741824 ≤ 2147483648 ∧ 0 ≤ a % 1073741824 ∧ a % 1073741824 ≤ 1073741823 ∧ 0 ≤ b % 1073741824 ∧ b % 1073741824 ≤ 1073741823) ∧
    (0 ≤ a / 1073741824 * (b / 1073741824) ∧ a / 1073741824 * (b / 1073741824) ≤ 4611686018427387904) ∧
    (0 ≤ a / 1073741824 * (b % 1073741824) ∧ a / 1073741824 * (b % 1073741824) ≤ 2305843009213693952) ∧
    (0 ≤ a % 1073741824 * (b / 1073741824) ∧ a % 1073741824 * (b / 1073741824) ≤ 2305843009213693952) ∧
    (0 ≤ a % 1073741824 * (b % 1073741824) ∧ a % 1073741824 * (b % 1073741824) ≤ 1152921504606846976) ∧
    a / 1073741824 * (b / 1073741824) + (a / 1073741824 * (b % 1073741824) + a % 1073741824 * (b / 1073741824) + a % 1073741824 * (b % 1073741824) / 1073741824) / 1073741824 = (a * b).tdiv U60 := by
  have h1 := Int.emod_add_mul_ediv a 1073741824
  have h2 := Int.emod_add_mul_ediv b 1073741824
  have q : ∀ {x y p r : Int}, 0 ≤ x → x ≤ p → 0 ≤ y → y ≤ r → 0 ≤ x * y ∧ x * y ≤ p * r := by
    intro x y p r x0 x1 y0 y1
    exact ⟨Int.mul_nonneg x0 y0, Int.le_trans (Int.mul_le_mul_of_nonneg_right x1 y0) (Int.mul_le_mul_of_nonneg_left y1 (by omega))⟩
  have A0 : 0 ≤ a / 1073741824 := by omega
  have A1 : a / 1073741824 ≤ 2147483648 := by omega
  have B0 : 0 ≤ b / 1073741824 := by omega
  have B1 : b / 1073741824 ≤ 2147483648 := by omega
  have C0 : 0 ≤ a % 1073741824 := by omega
  have C1 : a % 1073741824 ≤ 1073741823 := by omega
  have D0 : 0 ≤ b % 1073741824 := by omega
  have D1 : b % 1073741824 ≤ 1073741823 := by omega
  have e : a * b = a / 1073741824 * (b / 1073741824) * 1152921504606846976 + (a / 1073741824 * (b % 1073741824) + a % 1073741824 * (b / 1073741824)) * 1073741824 + a % 1073741824 * (b % 1073741824) := by
    generalize a / 1073741824 = A at *
    generalize b / 1073741824 = B at *
    generalize a % 1073741824 = C at *
    generalize b % 1073741824 = D at *
    subst h1 h2
    grind
  have p1 := q A0 A1 B0 B1
  have p2 := q A0 A1 D0 D1
  have p3 := q C0 C1 B0 B1
  have p4 := q C0 C1 D0 D1
  refine ⟨⟨A0, A1, B0, B1, C0, C1, D0, D1⟩, ⟨p1.1, by omega⟩, ⟨p2.1, by omega⟩, ⟨p3.1, by omega⟩, ⟨p4.1, by omega⟩, ?_⟩
  rw [Int.tdiv_eq_ediv_of_nonneg (Int.mul_nonneg a0 b0), e]
  unfold U60
  omega
theorem fm_neg_l (a b : Int) : fm (-a) b = -fm a b := by unfold fm; rw [Int.neg_mul, Int.neg_tdiv]
theorem fm_neg_r (a b : Int) : fm a (-b) = -fm a b := by unfold fm; rw [Int.mul_neg, Int.neg_tdiv]
/-- The bound of a product. -/
theorem fm_le {a b A B : Int} (a1 : -A ≤ a) (a2 : a ≤ A) (b1 : -B ≤ b) (b2 : b ≤ B) (C : Int) (h : A * B ≤ C * U60) : -C ≤ fm a b ∧ fm a b ≤ C := by
  have A0 : 0 ≤ A := by omega
  have B0 : 0 ≤ B := by omega
  have n1 : (a * b).natAbs ≤ (A * B).natAbs := by
    rw [Int.natAbs_mul, Int.natAbs_mul]
    exact Nat.mul_le_mul (by omega) (by omega)
  have AB := Int.mul_nonneg A0 B0
  have u1 : a * b ≤ C * U60 := by omega
  have u2 : -(C * U60) ≤ a * b := by omega
  unfold fm
  unfold U60 at *
  constructor
  · have h2 := Int.tmod_add_tdiv_mul (a * b) 1152921504606846976
    have h3 := Int.tmod_lt_of_pos (a * b) (show (0 : Int) < 1152921504606846976 by omega)
    have h4 : (a * b).tdiv 1152921504606846976 = if 0 ≤ a * b then a * b / 1152921504606846976 else -(-(a * b) / 1152921504606846976) := by
      split
      · exact Int.tdiv_eq_ediv_of_nonneg (by omega)
      · rw [← Int.neg_neg (a * b), Int.neg_tdiv, Int.tdiv_eq_ediv_of_nonneg (by omega), Int.neg_neg]
    rw [h4]
    split <;> omega
  · have h4 : (a * b).tdiv 1152921504606846976 = if 0 ≤ a * b then a * b / 1152921504606846976 else -(-(a * b) / 1152921504606846976) := by
      split
      · exact Int.tdiv_eq_ediv_of_nonneg (by omega)
      · rw [← Int.neg_neg (a * b), Int.neg_tdiv, Int.tdiv_eq_ediv_of_nonneg (by omega), Int.neg_neg]
    rw [h4]
    split <;> omega
/-- The sine and the cosine up to 32/5 are bounded. -/
theorem half_bd {y : Rat} (hy : rabs y ≤ 32/5) : rabs (y / 2) ≤ 16/5 := by
  obtain ⟨a, b⟩ := rabs_le.1 hy
  rw [rabs_le]
  have e : y / 2 = y * (1/2) := by rw [Rat.div_def, Rat.div_def]; grind
  rw [e]
  constructor <;> grind
theorem bd64 {y : Rat} (hy : rabs y ≤ 32/5) : (S y ≤ 1 + 1 / 100000000000 ∧ -(1 + 1 / 100000000000) ≤ S y) ∧ C y ≤ 1 + 1 / 100000000000 ∧ -(1 + 1 / 100000000000) ≤ C y := by
  have h := half_bd hy
  have hc := pv_bd h (padd (padd (pmul sT sT) (pmul cT cT)) [-1])
  rw [pv_add, pv_add, pv_mul, pv_mul] at hc
  have e1 : pv [-1] (y / 2) = -1 := by unfold pv; simp; grind
  rw [e1] at hc
  obtain ⟨h1, h2⟩ := rabs_le.1 (show rabs (S (y / 2) * S (y / 2) + C (y / 2) * C (y / 2) + -1) ≤ 1 / 10 ^ 18 by have := circle; unfold S C; grind)
  obtain ⟨d1, d2⟩ := sin_double h
  obtain ⟨d3, d4⟩ := cos_double h
  have e : 2 * (y / 2) = y := by rw [Rat.div_def]; grind
  rw [e] at d1 d2 d3 d4
  have t : (1 : Rat) / 10 ^ 18 ≤ 1 / 1000000000000 := by decide +kernel
  have sq : ∀ a : Rat, 0 ≤ a * a := fun a => by
    by_cases q : 0 ≤ a
    · exact Rat.mul_nonneg q q
    · have := Rat.mul_nonneg (show 0 ≤ -a by grind) (show 0 ≤ -a by grind); grind
  have q1 := sq (S (y / 2) - C (y / 2))
  have q2 := sq (S (y / 2) + C (y / 2))
  have q3 := sq (S (y / 2))
  have q4 := sq (C (y / 2))
  generalize (1 : Rat) / 10 ^ 18 = d at *
  generalize S (y / 2) = s at *
  generalize C (y / 2) = c at *
  refine ⟨⟨?_, ?_⟩, ?_, ?_⟩ <;> grind
theorem scIter_succ : ∀ (k : Nat) (p : Int × Int), scIter (k + 1) p = scStep (scIter k p)
  | 0, _ => rfl
  | k + 1, p => by
    show scIter (k + 1) (scStep p) = _
    rw [scIter_succ k (scStep p)]
    rfl
theorem er_all : (List.range 13).all (fun k => decide ((erIt k (63 / 40960) (48, 8)).1 ≤ 3000000) && decide ((erIt k (63 / 40960) (48, 8)).2 ≤ 3000000) && okR k (63 / 40960)) = true := by decide +kernel
theorem okR_le : ∀ (k : Nat) (R : Rat), 0 ≤ R → okR k R = true → (2 ^ k : Nat) * R ≤ 32/5 ∨ k = 0
  | 0, _, _, _ => .inr rfl
  | k + 1, R, hR, h => by
    left
    unfold okR at h
    simp at h
    rcases okR_le k (2 * R) (by grind) h.2 with q | q
    · rw [Nat.pow_succ]; push_cast at q ⊢; grind
    · subst q
      have e : ((2 ^ (0 + 1) : Nat) : Rat) = 2 := by decide +kernel
      rw [e]; grind
theorem scX_bd {arg : Int} (h0 : 0 ≤ arg) (h1 : arg ≤ 1000000000000000) : 0 ≤ scX arg ∧ scX arg ≤ 1800000000000000 ∧ arg * 7244 + arg / 1000000 * 19458077 / 1000 ≤ 7300000000000000000 ∧ 0 ≤ arg * 7244 + arg / 1000000 * 19458077 / 1000 ∧ 0 ≤ arg / 1000000 * 19458077 ∧ arg / 1000000 * 19458077 ≤ 20000000000000000 ∧ 0 ≤ arg / 1000000 ∧ arg / 1000000 ≤ 1000000000 := by
  unfold scX
  omega
/-- The bounds of the start. -/
theorem scStart_bd {x : Int} (h0 : 0 ≤ x) (h1 : x ≤ 1800000000000000) : (0 ≤ fm x x ∧ fm x x ≤ 3000000000000) ∧ (0 ≤ fm x (fm x x) ∧ fm x (fm x x) ≤ 5000000000) ∧ (0 ≤ fm (fm x (fm x x)) (fm x x) ∧ fm (fm x (fm x x)) (fm x x) ≤ 20000) ∧ (0 ≤ fm (fm x x) (fm x x) ∧ fm (fm x x) (fm x x) ≤ 10000000) := by
  have nn : ∀ a b : Int, 0 ≤ a → 0 ≤ b → 0 ≤ fm a b := by
    intro a b ha hb
    unfold fm
    rw [Int.tdiv_eq_ediv_of_nonneg (Int.mul_nonneg ha hb)]
    exact Int.ediv_nonneg (Int.mul_nonneg ha hb) (by decide)
  have q := fm_le (a := x) (b := x) (A := 1800000000000000) (B := 1800000000000000) (by omega) h1 (by omega) h1 3000000000000 (by decide)
  have q0 := nn x x h0 h0
  generalize fm x x = y at *
  have r := fm_le (a := x) (b := y) (A := 1800000000000000) (B := 3000000000000) (by omega) h1 (by omega) q.2 5000000000 (by decide)
  have r0 := nn x y h0 q0
  generalize fm x y = z at *
  have s := fm_le (a := z) (b := y) (A := 5000000000) (B := 3000000000000) (by omega) r.2 (by omega) q.2 20000 (by decide)
  have s0 := nn z y r0 q0
  have t := fm_le (a := y) (b := y) (A := 3000000000000) (B := 3000000000000) (by omega) q.2 (by omega) q.2 10000000 (by decide)
  have t0 := nn y y q0 q0
  exact ⟨⟨q0, q.2⟩, ⟨r0, r.2⟩, ⟨s0, s.2⟩, t0, t.2⟩
/-- The numbers of the doubling stay in bounds. -/
theorem sc_bd {arg : Int} (h0 : 0 ≤ arg) (h1 : arg ≤ 1000000000000000) (k : Nat) (hk : k ≤ 12) : -1153000000000000000 ≤ (scIter k (scStart (scX arg))).1 ∧ (scIter k (scStart (scX arg))).1 ≤ 1153000000000000000 ∧ -100000000 ≤ (scIter k (scStart (scX arg))).2 ∧ (scIter k (scStart (scX arg))).2 ≤ 2305843009313693952 := by
  have hx := scX_near h0 h1
  have r0 : (0 : Rat) ≤ (arg : Rat) := by exact_mod_cast h0
  have r1 : (arg : Rat) ≤ ((1000000000000000 : Int) : Rat) := Rat.intCast_le_intCast.2 h1
  have r2 : ((1000000000000000 : Int) : Rat) = 1000000000000000 := rfl
  rw [r2] at r1
  have hy : rabs (ang arg / 4096) ≤ 63 / 40960 := by
    have e : ang arg / 4096 = (arg : Rat) * (2 * piQ / 10 ^ 15 / 4096) := by unfold ang; simp only [Rat.div_def]; grind
    have k : 0 ≤ 2 * piQ / 10 ^ 15 / 4096 ∧ 2 * piQ / 10 ^ 15 / 4096 ≤ 63 / 40960 / 1000000000000000 := by decide +kernel
    rw [e, rabs_le]
    generalize 2 * piQ / 10 ^ 15 / 4096 = c at *
    have m1 := Rat.mul_nonneg r0 k.1
    have m2 := Rat.mul_le_mul_of_nonneg_left k.2 r0
    have m3 := Rat.mul_le_mul_of_nonneg_right r1 (show (0 : Rat) ≤ 63 / 40960 / 1000000000000000 by decide +kernel)
    have m4 : (1000000000000000 : Rat) * (63 / 40960 / 1000000000000000) = 63 / 40960 := by decide +kernel
    constructor <;> grind
  obtain ⟨s1, s2⟩ := start_near hy hx
  have ea := er_all
  rw [List.all_eq_true] at ea
  have ek := ea k (List.mem_range.2 (by omega))
  simp only [Bool.and_eq_true, decide_eq_true_eq] at ek
  obtain ⟨⟨ek1, ek2⟩, ek3⟩ := ek
  obtain ⟨i1, i2⟩ := iter_nr k _ _ _ (48, 8) ek3 hy s1 s2
  have hd : rabs (dbl k (ang arg / 4096)) ≤ 32/5 := by
    rw [dbl_eq, rabs_mul]
    have p : rabs ((2 ^ k : Nat) : Rat) = ((2 ^ k : Nat) : Rat) := by
      unfold rabs; rw [if_pos (by exact_mod_cast Nat.zero_le _)]
    rw [p]
    have p0 : (0 : Rat) ≤ ((2 ^ k : Nat) : Rat) := by exact_mod_cast Nat.zero_le _
    have m := Rat.mul_le_mul_of_nonneg_left hy p0
    rcases okR_le k (63 / 40960) (by decide +kernel) ek3 with q | q
    · grind
    · subst q
      have e : ((2 ^ 0 : Nat) : Rat) = 1 := by decide +kernel
      rw [e] at m ⊢
      grind
  have hS := bd64 hd
  have hu : uQ = 1152921504606846976 := rfl
  have u0 : (0 : Rat) ≤ uQ := by decide +kernel
  have m1 := Rat.mul_le_mul_of_nonneg_left hS.1.1 u0
  have m2 := Rat.mul_le_mul_of_nonneg_left hS.1.2 u0
  have m3 := Rat.mul_le_mul_of_nonneg_left hS.2.1 u0
  have m4 := Rat.mul_le_mul_of_nonneg_left hS.2.2 u0
  generalize (scIter k (scStart (scX arg))).1 = n1 at *
  generalize (scIter k (scStart (scX arg))).2 = n2 at *
  obtain ⟨j1, j2⟩ := i1.mono ek1
  obtain ⟨j3, j4⟩ := i2.mono ek2
  generalize S (dbl k (ang arg / 4096)) = s at *
  generalize C (dbl k (ang arg / 4096)) = c at *
  have cancel : ∀ {a b : Int}, (a : Rat) ≤ (b : Rat) → a ≤ b := fun h => Rat.intCast_le_intCast.1 h
  have w1 : ((-1153000000000000000 : Int) : Rat) = -1153000000000000000 := rfl
  have w2 : ((1153000000000000000 : Int) : Rat) = 1153000000000000000 := rfl
  have w3 : ((-100000000 : Int) : Rat) = -100000000 := rfl
  have w4 : ((2305843009313693952 : Int) : Rat) = 2305843009313693952 := rfl
  rw [hu] at *
  refine ⟨cancel ?_, cancel ?_, cancel ?_, cancel ?_⟩
  · rw [w1]; grind
  · rw [w2]; grind
  · rw [w3]; grind
  · rw [w4]; grind
end
section
/-- Part: an amount times a fine number, in the unit 1 / 2^20. -/
def prt (a v : Int) : Int := if v < 0 then -(a * -v / 1099511627776) else a * v / 1099511627776
theorem prt_parts {a v : Int} (a1 : -1000000000 ≤ a) (a2 : a ≤ 1000000000) (v0 : 0 ≤ v) (v1 : v ≤ 1200000000000000000) :
    (0 ≤ v / 1073741824 ∧ v / 1073741824 ≤ 1200000000 ∧ 0 ≤ v % 1073741824 ∧ v % 1073741824 ≤ 1073741823) ∧ (-1200000000000000000 ≤ a * (v / 1073741824) ∧ a * (v / 1073741824) ≤ 1200000000000000000) ∧ (-1200000000000000000 ≤ a * (v % 1073741824) ∧ a * (v % 1073741824) ≤ 1200000000000000000) ∧
    (a * (v / 1073741824) + a * (v % 1073741824) / 1073741824) / 1024 = a * v / 1099511627776 ∧ -1200000000000000 ≤ a * v / 1099511627776 ∧ a * v / 1099511627776 ≤ 1200000000000000 := by
  have h1 := Int.emod_add_mul_ediv v 1073741824
  have A0 : 0 ≤ v / 1073741824 := by omega
  have A1 : v / 1073741824 ≤ 1200000000 := by omega
  have B0 : 0 ≤ v % 1073741824 := by omega
  have B1 : v % 1073741824 ≤ 1073741823 := by omega
  have q : ∀ {x y p r : Int}, -p ≤ x → x ≤ p → 0 ≤ y → y ≤ r → -(p * r) ≤ x * y ∧ x * y ≤ p * r := by
    intro x y p r x0 x1 y0 y1
    have p0 : 0 ≤ p := by omega
    have m1 := Int.mul_le_mul_of_nonneg_right x1 y0
    have m2 := Int.mul_le_mul_of_nonneg_right x0 y0
    have m3 := Int.mul_le_mul_of_nonneg_left y1 p0
    rw [Int.neg_mul] at m2
    constructor <;> omega
  have p1 := q a1 a2 A0 A1
  have p2 := q a1 a2 B0 B1
  have e : a * v = a * (v / 1073741824) * 1073741824 + a * (v % 1073741824) := by
    generalize v / 1073741824 = A at *
    generalize v % 1073741824 = B at *
    subst h1
    grind
  refine ⟨⟨A0, A1, B0, B1⟩, ⟨by omega, by omega⟩, ⟨by omega, by omega⟩, ?_⟩
  rw [e]
  generalize a * (v / 1073741824) = P at *
  generalize a * (v % 1073741824) = Q at *
  refine ⟨?_, ?_, ?_⟩ <;> omega
/-- The argument of a rate at an instant. -/
def argV (rate inst : Int) : Int := rate * inst / 86400000 % 1000000000000000
theorem arg_step (X B d W : Int) (hd : 0 < d) : (2 * (X / d % W) + (2 * (X % d) + B) / d) % W = (2 * X + B) / d % W ∧ (2 * (X % d) + B) % d = (2 * X + B) % d := by
  have h1 := Int.emod_add_mul_ediv X d
  have e : 2 * X + B = 2 * (X % d) + B + d * (2 * (X / d)) := by
    generalize X / d = Q at *
    generalize X % d = r at *
    subst h1
    grind
  constructor
  · rw [e, Int.add_mul_ediv_left _ _ (by omega : d ≠ 0)]
    generalize X / d = Q at *
    generalize (2 * (X % d) + B) / d = c at *
    have h2 := Int.emod_add_mul_ediv Q W
    have e2 : c + 2 * Q = 2 * (Q % W) + c + W * (2 * (Q / W)) := by
      generalize Q / W = u at *
      generalize hz : Q % W = z at *
      have : 2 * Q = 2 * z + 2 * (W * u) := by omega
      rw [this]; grind
    rw [e2, Int.add_mul_emod_self_left]
  · rw [e, Int.add_mul_emod_self_left]
/-- What the bit by bit product holds behind the bits from 50 down to b. -/
theorem arg_next (I : Int) (b : Nat) :
    I / 2 ^ b = 2 * (I / 2 ^ (b + 1)) + I / 2 ^ b % 2 := by
  have : I / 2 ^ (b + 1) = I / 2 ^ b / 2 := by
    rw [Int.pow_succ, Int.ediv_ediv_of_nonneg (Int.pow_nonneg (by omega))]
  rw [this]
  omega
/-- The state of Arg's loop, m bits to go. -/
structure ArgAt (R I : Int) (m : Nat) (q r : Int) : Prop where
  q_ : q = R * (I / 2 ^ m) / 86400000 % 1000000000000000
  r_ : r = R * (I / 2 ^ m) % 86400000
theorem ArgAt.bd {R I : Int} {m : Nat} {q r : Int} (h : ArgAt R I m q r) : 0 ≤ q ∧ q < 1000000000000000 ∧ 0 ≤ r ∧ r < 86400000 := by
  rw [h.q_, h.r_]
  omega
theorem arg_start {R I : Int} (i0 : 0 ≤ I) (i1 : I < 2251799813685248) : ArgAt R I 51 0 0 := by
  have e : I / 2 ^ 51 = 0 := Int.ediv_eq_zero_of_lt i0 (by omega)
  constructor <;> rw [e] <;> simp
theorem ArgAt.step {R I : Int} {b : Nat} {q r : Int} (h : ArgAt R I (b + 1) q r) : (I / 2 ^ b % 2 = 1 → ArgAt R I b ((2 * q + (2 * r + R) / 86400000) % 1000000000000000) ((2 * r + R) % 86400000)) ∧ (I / 2 ^ b % 2 = 0 → ArgAt R I b ((2 * q + 2 * r / 86400000) % 1000000000000000) (2 * r % 86400000)) := by
  have e := arg_next I b
  have hq := h.q_
  have hr := h.r_
  generalize hPb : I / 2 ^ b = P at *
  generalize hP : I / 2 ^ (b + 1) = P' at *
  constructor
  · intro h1
    have s := arg_step (R * P') R 86400000 1000000000000000 (by omega)
    have e2 : 2 * (R * P') + R = R * P := by rw [e, h1]; grind
    rw [e2, ← hq, ← hr] at s
    exact ⟨by rw [s.1, hPb], by rw [s.2, hPb]⟩
  · intro h1
    have s := arg_step (R * P') 0 86400000 1000000000000000 (by omega)
    have e2 : 2 * (R * P') + 0 = R * P := by rw [e, h1]; grind
    rw [e2, ← hq, ← hr, Int.add_zero] at s
    exact ⟨by rw [s.1, hPb], by rw [s.2, hPb]⟩
theorem neg_floor (X d : Int) (hd : 0 < d) : -X / d = -(X / d) - (if 0 < X % d then 1 else 0) := by
  have h1 := Int.emod_add_mul_ediv X d
  have h2 := Int.emod_nonneg X (show d ≠ 0 by omega)
  have h3 := Int.emod_lt_of_pos X hd
  split
  · have e : -X = (d - X % d) + d * (-(X / d) - 1) := by
      generalize X / d = Q at *
      generalize X % d = r at *
      subst h1; grind
    rw [e, Int.add_mul_ediv_left _ _ (by omega : d ≠ 0), Int.ediv_eq_zero_of_lt (by omega) (by omega)]
    omega
  · have e : -X = d * (-(X / d)) := by
      have : X % d = 0 := by omega
      generalize X / d = Q at *
      rw [this] at h1
      subst h1; grind
    rw [e, Int.mul_ediv_cancel_left _ (by omega)]
    omega
theorem mod_neg (Q t W : Int) : (-(Q % W) - t) % W = (-Q - t) % W := by
  have h := Int.emod_add_mul_ediv Q W
  have e : -(Q % W) - t = -Q - t + W * (Q / W) := by
    generalize Q / W = u at *
    generalize Q % W = v at *
    subst h; grind
  rw [e, Int.add_mul_emod_self_left]
theorem arg_end {rate inst R I q r : Int} (hR : (rate < 0 ∧ R = -rate) ∨ (0 ≤ rate ∧ R = rate)) (hI : (inst < 0 ∧ I = -inst) ∨ (0 ≤ inst ∧ I = inst)) (h : ArgAt R I 0 q r) :
    ((decide (rate < 0) = decide (inst < 0)) → q % 1000000000000000 = argV rate inst) ∧ (¬ (decide (rate < 0) = decide (inst < 0)) → (0 < r → (-q - 1) % 1000000000000000 = argV rate inst) ∧ (¬ 0 < r → -q % 1000000000000000 = argV rate inst)) := by
  have hq := h.q_
  have hr := h.r_
  rw [Int.pow_zero, Int.ediv_one] at hq hr
  have hX : rate * inst = if decide (rate < 0) = decide (inst < 0) then R * I else -(R * I) := by
    rcases hR with ⟨h1, rfl⟩ | ⟨h1, rfl⟩ <;> rcases hI with ⟨h2, rfl⟩ | ⟨h2, rfl⟩
    · rw [if_pos (by simp [h1, h2])]; grind
    · rw [if_neg (by simp [h1]; omega)]; grind
    · rw [if_neg (by simp [h2]; omega)]; grind
    · rw [if_pos (by simp; omega)]
  unfold argV
  rw [hX]
  generalize R * I = X at *
  subst hq hr
  refine ⟨fun hd => ?_, fun hd => ⟨fun h0 => ?_, fun h0 => ?_⟩⟩
  · rw [if_pos hd, Int.emod_emod_of_dvd _ (Int.dvd_refl _)]
  · rw [if_neg hd, neg_floor X 86400000 (by omega), if_pos h0, mod_neg]
  · rw [if_neg hd, neg_floor X 86400000 (by omega), if_neg h0]
    have := mod_neg (X / 86400000) 0 1000000000000000
    simpa using this
end
section
def grQ (rate inst : Int) : Int := rate * inst / 86400000000000
def grR (rate inst : Int) : Int := rate * inst % 86400000000000
theorem gr_end {rate inst R I : Int} (hR : (rate < 0 ∧ R = -rate) ∨ (0 ≤ rate ∧ R = rate)) (hI : (inst < 0 ∧ I = -inst) ∨ (0 ≤ inst ∧ I = inst)) :
    ((decide (rate < 0) = decide (inst < 0)) → R * I / 86400000000000 = grQ rate inst ∧ R * I % 86400000000000 = grR rate inst) ∧
    (¬ (decide (rate < 0) = decide (inst < 0)) → (0 < R * I % 86400000000000 → -(R * I / 86400000000000) - 1 = grQ rate inst ∧ -(R * I % 86400000000000) + 86400000000000 = grR rate inst) ∧ (¬ 0 < R * I % 86400000000000 → -(R * I / 86400000000000) = grQ rate inst ∧ -(R * I % 86400000000000) = grR rate inst)) := by
  have hX : rate * inst = if decide (rate < 0) = decide (inst < 0) then R * I else -(R * I) := by
    rcases hR with ⟨h1, rfl⟩ | ⟨h1, rfl⟩ <;> rcases hI with ⟨h2, rfl⟩ | ⟨h2, rfl⟩
    · rw [if_pos (by simp [h1, h2])]; grind
    · rw [if_neg (by simp [h1]; omega)]; grind
    · rw [if_neg (by simp [h2]; omega)]; grind
    · rw [if_pos (by simp; omega)]
  unfold grQ grR
  rw [hX]
  generalize R * I = X at *
  refine ⟨fun hd => by rw [if_pos hd]; exact ⟨rfl, rfl⟩, fun hd => ⟨fun h0 => ?_, fun h0 => ?_⟩⟩
  · rw [if_neg hd]; omega
  · rw [if_neg hd]; omega
theorem prod_mags {R I : Int} (r0 : 0 ≤ R) (r1 : R ≤ 4000000000000000) (i0 : 0 ≤ I) (i1 : I ≤ 400000000000000) :
    0 ≤ R * I ∧ R * I ≤ 1600000000000000000000000000000 := by
  refine ⟨Int.mul_nonneg r0 i0, ?_⟩
  have := Int.mul_le_mul_of_nonneg_right r1 i0
  have := Int.mul_le_mul_of_nonneg_left i1 (show (0 : Int) ≤ 4000000000000000 by omega)
  omega
end
section
def tmOne (t : Tm) : Int := if t.amp < -1000000000 ∨ 1000000000 < t.amp ∨ t.ph < 0 ∨ 999999999 < t.ph ∨ t.rt < -4000000000000000 ∨ 4000000000000000 < t.rt then 3 else 0
def hdOne (m r s : Int) : Int := if m < -1000000000 ∨ 1000000000 < m ∨ r < -4000000000000000 ∨ 4000000000000000 < r ∨ s < 0 ∨ 100000000 < s then 3 else 0
/-- The error of a sum. -/
def sumE (m r : Int) (l : List Tm) (s : Int) : Int := if 40 < l.length then 2 else if hdOne m r s ≠ 0 then hdOne m r s else fe tmOne l
structure TmOk (t : Tm) : Prop where
  a1 : -1000000000 ≤ t.amp
  a2 : t.amp ≤ 1000000000
  p1 : 0 ≤ t.ph
  p2 : t.ph ≤ 999999999
  r1 : -4000000000000000 ≤ t.rt
  r2 : t.rt ≤ 4000000000000000
theorem tmOk_of {t : Tm} (h : tmOne t = 0) : TmOk t := by
  unfold tmOne at h
  by_cases q : t.amp < -1000000000 ∨ 1000000000 < t.amp ∨ t.ph < 0 ∨ 999999999 < t.ph ∨ t.rt < -4000000000000000 ∨ 4000000000000000 < t.rt
  · rw [if_pos q] at h; omega
  · constructor <;> omega
theorem fe_all {α : Type} (f : α → Int) : ∀ (l : List α), fe f l = 0 → ∀ x ∈ l, f x = 0 := by
  have key : ∀ (l : List α) (e : Int), l.foldl (fun e x => if e = 0 then f x else e) e = 0 → e = 0 ∧ ∀ x ∈ l, f x = 0 := by
    intro l
    induction l with
    | nil => intro e h; exact ⟨h, by simp⟩
    | cons y l ih =>
      intro e h
      rw [List.foldl_cons] at h
      obtain ⟨h1, h2⟩ := ih _ h
      by_cases he : e = 0
      · rw [if_pos he] at h1
        refine ⟨he, fun x hx => ?_⟩
        rcases List.mem_cons.1 hx with rfl | hx
        · exact h1
        · exact h2 x hx
      · rw [if_neg he] at h1; exact absurd h1 he
  exact fun l h => (key l 0 h).2
/-- A sum without an error. -/
structure SumOk (m r : Int) (l : List Tm) (s : Int) : Prop where
  len : l.length ≤ 40
  m1 : -1000000000 ≤ m
  m2 : m ≤ 1000000000
  r1 : -4000000000000000 ≤ r
  r2 : r ≤ 4000000000000000
  s1 : 0 ≤ s
  s2 : s ≤ 100000000
  tm : ∀ t ∈ l, TmOk t
theorem sumOk_of {m r : Int} {l : List Tm} {s : Int} (h : sumE m r l s = 0) : SumOk m r l s := by
  unfold sumE at h
  by_cases h1 : 40 < l.length
  · rw [if_pos h1] at h; omega
  · rw [if_neg h1] at h
    by_cases h2 : hdOne m r s = 0
    · rw [if_neg (by omega)] at h
      unfold hdOne at h2
      by_cases q : m < -1000000000 ∨ 1000000000 < m ∨ r < -4000000000000000 ∨ 4000000000000000 < r ∨ s < 0 ∨ 100000000 < s
      · rw [if_pos q] at h2; omega
      · exact ⟨by omega, by omega, by omega, by omega, by omega, by omega, by omega, fun t ht => tmOk_of (fe_all tmOne l h t ht)⟩
    · rw [if_pos h2] at h; exact absurd h h2
def absT (n : Int) : Int := if n < 0 then -n else n
/-- The greatest width of a value. -/
def bndAt (s : Int) (l : List Tm) : Int := l.foldl (fun n t => n + (2 + absT t.amp / 100000000)) (2 * s)
theorem bnd_snoc (s : Int) (l : List Tm) (k : Nat) (h : k < l.length) : bndAt s (l.take (k + 1)) = bndAt s (l.take k) + (2 + absT l[k].amp / 100000000) := by
  unfold bndAt; rw [fe_take l k h, List.foldl_append]; rfl
theorem bnd_bd {s : Int} {l : List Tm} (s1 : 0 ≤ s) (s2 : s ≤ 100000000) (h : ∀ t ∈ l, TmOk t) (k : Nat) : 0 ≤ bndAt s (l.take k) ∧ bndAt s (l.take k) ≤ 200000000 + 12 * k := by
  induction k with
  | zero => unfold bndAt; simp; omega
  | succ k ih =>
    by_cases hk : k < l.length
    · rw [bnd_snoc s l k hk]
      have := h l[k] (List.getElem_mem hk)
      have a1 := this.a1
      have a2 := this.a2
      have : 0 ≤ absT l[k].amp ∧ absT l[k].amp ≤ 1000000000 := by unfold absT; split <;> omega
      omega
    · rw [List.take_of_length_le (by omega)] at ih ⊢
      omega
end
section
open Ieee
/-- How far the values of a polynomial can be apart. -/
def lipB (R : Rat) : List Rat → Rat
  | [] => 0
  | _ :: p => pbd p R + R * lipB R p
theorem pv_lip {R x y : Rat} (hx : rabs x ≤ R) (hy : rabs y ≤ R) : ∀ p : List Rat, 0 ≤ lipB R p ∧ rabs (pv p x - pv p y) ≤ rabs (x - y) * lipB R p
  | [] => ⟨Rat.le_refl, by
    show rabs (0 - 0) ≤ rabs (x - y) * 0
    have : rabs (0 - 0) = 0 := by decide +kernel
    rw [this]; grind⟩
  | a :: p => by
    obtain ⟨h0, h1⟩ := pv_lip hx hy p
    have r0 := rabs_nonneg x
    have r1 := rabs_nonneg y
    have r2 := rabs_nonneg (x - y)
    have b := pv_bd hx p
    have b0 := rabs_nonneg (pv p x)
    have e : pv (a :: p) x - pv (a :: p) y = (x - y) * pv p x + y * (pv p x - pv p y) := by rw [pv_cons, pv_cons]; grind
    have t := rabs_add ((x - y) * pv p x) (y * (pv p x - pv p y))
    rw [rabs_mul, rabs_mul] at t
    have m1 := Rat.mul_le_mul_of_nonneg_left b r2
    have m2 := Rat.mul_le_mul_of_nonneg_left h1 r1
    have m3 := Rat.mul_nonneg r2 h0
    have m4 := Rat.mul_le_mul_of_nonneg_right hy m3
    have R0 : 0 ≤ R := by grind
    refine ⟨?_, ?_⟩
    · have := Rat.mul_nonneg R0 h0
      show 0 ≤ pbd p R + R * lipB R p
      grind
    · rw [e]
      show _ ≤ rabs (x - y) * (pbd p R + R * lipB R p)
      grind
theorem lip_s : lipB (393/500) sT ≤ 2 := by decide +kernel
theorem lip_c : lipB (393/500) cT ≤ 2 := by decide +kernel
/-- The sine is no steeper than 2 (up to a tiny error), from 0 to 7. -/
theorem sin_lip {X Y : Rat} (h0 : 0 ≤ X) (h7 : X ≤ 7) (hd : rabs (X - Y) ≤ 1 / 10000) : S X ≤ S Y + 2 * rabs (X - Y) + 2 / 10 ^ 18 ∧ S Y ≤ S X + 2 * rabs (X - Y) + 2 / 10 ^ 18 := by
  have pb : piQ ≤ 314159266 / 100000000 ∧ 314159265 / 100000000 ≤ piQ := by decide +kernel
  obtain ⟨d1, d2⟩ := rabs_le.1 hd
  have dn := rabs_nonneg (X - Y)
  have t18 : (2 : Rat) / 10 ^ 18 = 1 / 10 ^ 18 + 1 / 10 ^ 18 := by decide +kernel
  have key : ∀ o : Rat, rabs (X - o) ≤ 78542 / 100000 → (o = 0 ∨ o = piQ / 2 ∨ o = piQ ∨ o = 3 * piQ / 2 ∨ o = 2 * piQ) → S X ≤ S Y + 2 * rabs (X - Y) + 2 / 10 ^ 18 ∧ S Y ≤ S X + 2 * rabs (X - Y) + 2 / 10 ^ 18 := by
    intro o ho hc
    obtain ⟨o1, o2⟩ := rabs_le.1 ho
    have zx : rabs (X - o) ≤ 393/500 := by grind
    have zy : rabs (Y - o) ≤ 393/500 := rabs_le.2 (by constructor <;> grind)
    obtain ⟨⟨q11, q12⟩, ⟨q21, q22⟩, ⟨q31, q32⟩, q41, q42⟩ := quart zx
    obtain ⟨⟨p11, p12⟩, ⟨p21, p22⟩, ⟨p31, p32⟩, p41, p42⟩ := quart zy
    have ls := (pv_lip zx zy sT).2
    have lc := (pv_lip zx zy cT).2
    have e : X - o - (Y - o) = X - Y := by grind
    rw [e] at ls lc
    have ms := Rat.mul_le_mul_of_nonneg_left lip_s dn
    have mc := Rat.mul_le_mul_of_nonneg_left lip_c dn
    obtain ⟨s1, s2⟩ := rabs_le.1 (show rabs (S (X - o) - S (Y - o)) ≤ 2 * rabs (X - Y) by unfold S; grind)
    obtain ⟨c1, c2⟩ := rabs_le.1 (show rabs (C (X - o) - C (Y - o)) ≤ 2 * rabs (X - Y) by unfold C; grind)
    have ex : X - o + o = X := by grind
    have ey : Y - o + o = Y := by grind
    rw [t18]
    generalize (1 : Rat) / 10 ^ 18 = d at *
    have d0 : 0 ≤ d := by grind
    rcases hc with rfl | rfl | rfl | rfl | rfl
    · have e0 : X - 0 = X := by grind
      have e1 : Y - 0 = Y := by grind
      rw [e0, e1] at s1 s2
      constructor <;> grind
    · rw [ex] at q11 q12
      rw [ey] at p11 p12
      constructor <;> grind
    · rw [ex] at q21 q22
      rw [ey] at p21 p22
      constructor <;> grind
    · rw [ex] at q31 q32
      rw [ey] at p31 p32
      constructor <;> grind
    · rw [ex] at q41 q42
      rw [ey] at p41 p42
      constructor <;> grind
  rcases (show X ≤ 7854/10000 ∨ (7854/10000 ≤ X ∧ X ≤ 235620/100000) ∨ (235620/100000 ≤ X ∧ X ≤ 392700/100000) ∨ (392700/100000 ≤ X ∧ X ≤ 549779/100000) ∨ 549779/100000 ≤ X by grind) with h | h | h | h | h
  · exact key 0 (rabs_le.2 (by constructor <;> grind)) (.inl rfl)
  · exact key (piQ / 2) (rabs_le.2 (by constructor <;> grind)) (.inr (.inl rfl))
  · exact key piQ (rabs_le.2 (by constructor <;> grind)) (.inr (.inr (.inl rfl)))
  · exact key (3 * piQ / 2) (rabs_le.2 (by constructor <;> grind)) (.inr (.inr (.inr (.inl rfl))))
  · exact key (2 * piQ) (rabs_le.2 (by constructor <;> grind)) (.inr (.inr (.inr (.inr rfl))))
theorem add_lt63 {x y r : Nat} {X Y : Rat} (hx : x < 9223372036854775808) (hy : y < 9223372036854775808) (nx : Num x X) (ny : Num y Y) (h : double.add x y = some r) : r < 9223372036854775808 := by
  obtain ⟨s, m, i, h1, _⟩ := nx
  obtain ⟨t, n, j, g1, _⟩ := ny
  obtain rfl := sign_of hx h1
  obtain rfl := sign_of hy g1
  unfold Reads at h1 g1
  unfold Format.add at h
  rw [h1, g1] at h
  have := Option.some.inj h
  rw [← this]
  have e : ∀ a b : Nat, (if signed false a 0 + signed false b 0 = 0 then false && false else decide (signed false a 0 + signed false b 0 < 0)) = false := by
    intro a b
    unfold signed
    simp only [Bool.false_eq_true, if_false, Nat.shiftLeft_zero]
    split
    · rfl
    · exact decide_eq_false (by omega)
  have e2 : ∀ (a k : Nat), signed false a k = signed false (a <<< k) 0 := by
    intro a k
    unfold signed
    simp only [Bool.false_eq_true, if_false, Nat.shiftLeft_zero]
  unfold Format.write
  dsimp only
  rw [e2 m, e2 n, e]
  exact nearest_lt63 _ _
def wUnit : Nat := 4815374002031689728
/-- The angle of a term in units, in floating point; the term. -/
def partX (t : Tm) (inst : Int) : Nat := fadd (fofI ((t.ph + grQ t.rt inst) % 1000000000)) (fdiv (fofI (grR t.rt inst)) wUnit)
def partW (t : Tm) (inst : Int) : Nat := fmul (fofI t.amp) (sinW (radW (partX t inst)))
/-- The exact angle of a term in units. -/
def partA (t : Tm) (inst : Int) : Rat := (((t.ph + grQ t.rt inst) % 1000000000 : Int) : Rat) + ((grR t.rt inst : Int) : Rat) / 86400000000000
theorem part_run {t : Tm} {inst : Int} (ht : TmOk t) :
    ∃ xr x q Y sq p, double.div (fofI (grR t.rt inst)) wUnit = some xr ∧ double.add (fofI ((t.ph + grQ t.rt inst) % 1000000000)) xr = some x ∧ RadP x q ∧ q < 9223372036854775808 ∧ Num q Y ∧ (q = 0 ∨ 0 < Y) ∧
      0 ≤ 2 * piQ * partA t inst / 1000000000 ∧ 2 * piQ * partA t inst / 1000000000 ≤ 7 ∧ Ap q (2 * piQ * partA t inst / 1000000000) (7 / 1000000000000000) ∧ sinW q = sq ∧ double.mul (fofI t.amp) sq = some p ∧ p = partW t inst ∧
      Ap p (t.amp * S (2 * piQ * partA t inst / 1000000000)) (26 / 1000000) := by
  have m0 := Int.emod_nonneg (t.ph + grQ t.rt inst) (show (1000000000 : Int) ≠ 0 by omega)
  have m1 := Int.emod_lt_of_pos (t.ph + grQ t.rt inst) (show (0 : Int) < 1000000000 by omega)
  have r0 : 0 ≤ grR t.rt inst := Int.emod_nonneg _ (by omega)
  have r1 : grR t.rt inst < 86400000000000 := Int.emod_lt_of_pos _ (by omega)
  unfold partA
  obtain ⟨a1, a2, -, -, -, -⟩ := ht
  have eW : partW t inst = fmul (fofI t.amp) (sinW (radW (fadd (fofI ((t.ph + grQ t.rt inst) % 1000000000)) (fdiv (fofI (grR t.rt inst)) wUnit)))) := rfl
  rw [eW]
  generalize (t.ph + grQ t.rt inst) % 1000000000 = n at *
  generalize grR t.rt inst = r at *
  have hn := fofI_num n (by omega) (by omega)
  have hr := fofI_num r (by omega) (by omega)
  have n63 := fofI_lt63 n m0
  have r63 := fofI_lt63 r r0
  have hu : Reads wUnit false 5529600000000000 (-6) := by unfold Reads; decide +kernel
  have uv : rv false 5529600000000000 (-6) = 86400000000000 := by decide +kernel
  have nu : Num wUnit 86400000000000 := ⟨_, _, _, hu, uv⟩
  have rr0 : (0 : Rat) ≤ (r : Rat) := by exact_mod_cast r0
  have rr1 : (r : Rat) ≤ 86399999999999 := by
    have := Rat.intCast_le_intCast.2 (show r ≤ 86399999999999 by omega)
    exact this
  have nn0 : (0 : Rat) ≤ (n : Rat) := by exact_mod_cast m0
  have nn1 : (n : Rat) ≤ 999999999 := by
    have := Rat.intCast_le_intCast.2 (show n ≤ 999999999 by omega)
    exact this
  have p0 : p2 ((0 : Nat) : Int) = 1 := by decide +kernel
  have u54 : p2 (((0 : Nat) : Int) - 54) ≤ 6 / 100000000000000000 := by decide +kernel
  have u53 : p2 (((0 : Nat) : Int) - 53) ≤ 12 / 100000000000000000 := by decide +kernel
  have n54 := Rat.le_of_lt (p2_pos (((0 : Nat) : Int) - 54))
  have n53 := Rat.le_of_lt (p2_pos (((0 : Nat) : Int) - 53))
  have p30 : p2 ((30 : Nat) : Int) = 1073741824 := by decide +kernel
  have u30 : p2 (((30 : Nat) : Int) - 53) ≤ 12 / 100000000 := by decide +kernel
  have p31 : p2 ((31 : Nat) : Int) = 2147483648 := by decide +kernel
  have u31 : p2 (((31 : Nat) : Int) - 53) ≤ 3 / 10000000 := by decide +kernel
  have dv : (r : Rat) / 86400000000000 = (r : Rat) * (1 / 86400000000000) := by rw [Rat.div_def, Rat.div_def]; grind
  obtain ⟨s, m, i, q1, q2⟩ := hr
  obtain ⟨xr, x1, x2⟩ := div_val 0 (by omega) q1 hu (by decide) (by rw [uv, q2, dv, p0]; grind) (by rw [uv, q2, dv, p0]; grind)
  rw [uv, q2, dv] at x2
  have xr63 := div_lt63 r63 (by decide +kernel) ⟨s, m, i, q1, q2⟩ nu (by decide +kernel) x1
  rw [dv]
  have rb : 0 ≤ (r : Rat) * (1 / 86400000000000) ∧ (r : Rat) * (1 / 86400000000000) ≤ 86399999999999 / 86400000000000 := by constructor <;> grind
  generalize (r : Rat) * (1 / 86400000000000) = R at *
  obtain ⟨X0, x3, x4, x5⟩ := x2.num
  obtain ⟨x, y1, y2⟩ := add_ap 30 (by omega) hn.ap x2 (by rw [p30]; grind) (by rw [p30]; grind)
  have x63 := add_lt63 n63 xr63 hn x3 y1
  have y3 := y2.mono (e' := 13 / 100000000) (by grind)
  obtain ⟨q, Y, z1, z2, z3, z4, z5, z6, z7, z8⟩ := sinU_run y3 x63 (by grind) (by grind) (by grind)
  have ha := fofI_num t.amp (by omega) (by omega)
  have aa1 : (t.amp : Rat) ≤ 1000000000 := Rat.intCast_le_intCast.2 a2
  have aa0 : -1000000000 ≤ (t.amp : Rat) := Rat.intCast_le_intCast.2 a1
  have sb := sin_bd z5 z6
  have t17 : (1 : Rat) / 10 ^ 17 ≤ 1 / 100 := by decide +kernel
  obtain ⟨p, k1, k2⟩ := mul_ap 1000000000 (101/100) 31 (by omega) ha.ap z8 aa1 (by grind) (by grind) (by grind) (by rw [p31]; grind)
  refine ⟨xr, x, q, Y, _, p, x1, y1, z1, z2, z3, z4, z5, z6, z7, rfl, k1, ?_, k2.mono (by grind)⟩
  rw [fdiv_of x1, fadd_of y1, radW_of z1, fmul_of k1]
end
section
open Ieee
/-- The sum of the first terms, in floating point and exactly. -/
def vAt (l : List Tm) (inst : Int) (k : Nat) : Nat := (l.take k).foldl (fun v t => fadd v (partW t inst)) 0
def termX (inst : Int) (t : Tm) : Rat := t.amp * S (2 * piQ * partA t inst / 1000000000)
def xAt (l : List Tm) (inst : Int) (k : Nat) : Rat := (l.take k).foldl (fun v t => v + termX inst t) 0
theorem vAt_snoc (l : List Tm) (inst : Int) (k : Nat) (h : k < l.length) : vAt l inst (k + 1) = fadd (vAt l inst k) (partW l[k] inst) := by
  unfold vAt; rw [fe_take l k h, List.foldl_append]; rfl
theorem xAt_snoc (l : List Tm) (inst : Int) (k : Nat) (h : k < l.length) : xAt l inst (k + 1) = xAt l inst k + termX inst l[k] := by
  unfold xAt; rw [fe_take l k h, List.foldl_append]; rfl
theorem termX_bd {t : Tm} {inst : Int} (h : TmOk t) : termX inst t ≤ 1010000000 ∧ -1010000000 ≤ termX inst t := by
  obtain ⟨xr, x, q, Y, sq, p, -, -, -, -, -, -, e7, e8, -, -, -, -, -⟩ := part_run (inst := inst) h
  have sb := sin_bd e7 e8
  have t17 : (1 : Rat) / 10 ^ 17 ≤ 1 / 1000 := by decide +kernel
  have a2 : (t.amp : Rat) ≤ 1000000000 := Rat.intCast_le_intCast.2 h.a2
  have a1 : -1000000000 ≤ (t.amp : Rat) := Rat.intCast_le_intCast.2 h.a1
  unfold termX
  have b := bil2 (u := (t.amp : Rat)) (v := S (2 * piQ * partA t inst / 1000000000)) (c := 1000000000) (d := 101/100) a1 a2 (by grind) (by grind)
  constructor <;> grind
/-- The sums stay near, and every addition has an answer. -/
theorem val_run {l : List Tm} {inst : Int} (h40 : l.length ≤ 40) (h : ∀ t ∈ l, TmOk t) : ∀ k, k ≤ l.length →
    Ap (vAt l inst k) (xAt l inst k) ((k : Rat) * (34 / 1000000)) ∧ xAt l inst k ≤ 1010000000 * (k : Rat) ∧ -(1010000000 * (k : Rat)) ≤ xAt l inst k ∧ (∀ hk : k < l.length, double.add (vAt l inst k) (partW l[k] inst) = some (vAt l inst (k + 1)))
  | 0, _ => by
    have e0 : ((0 : Nat) : Rat) = 0 := rfl
    have z : Ap (vAt l inst 0) (xAt l inst 0) 0 := num_zero.ap
    have x0 : xAt l inst 0 = 0 := rfl
    refine ⟨by rw [e0]; exact z.mono (by grind), by rw [x0, e0]; grind, by rw [x0, e0]; grind, fun hk => ?_⟩
    obtain ⟨xr, x, q, Y, sq, p, -, -, -, -, -, -, -, -, -, -, -, e12, e13⟩ := part_run (inst := inst) (h l[0] (List.getElem_mem hk))
    have tb := termX_bd (inst := inst) (h l[0] (List.getElem_mem hk))
    have p36 : p2 ((36 : Nat) : Int) = 68719476736 := by decide +kernel
    rw [← e12]
    obtain ⟨r, r1, r2⟩ := add_ap 36 (by omega) z e13 (by rw [p36, x0]; unfold termX at tb; grind) (by rw [p36, x0]; unfold termX at tb; grind)
    rw [r1, vAt_snoc l inst 0 hk, ← e12, fadd_of r1]
  | k + 1, hk1 => by
    have hk : k < l.length := by omega
    obtain ⟨i1, i2, i3, i4⟩ := val_run h40 h k (by omega)
    obtain ⟨xr, x, q, Y, sq, p, -, -, -, -, -, -, -, -, -, -, -, e12, e13⟩ := part_run (inst := inst) (h l[k] (List.getElem_mem hk))
    have tb := termX_bd (inst := inst) (h l[k] (List.getElem_mem hk))
    have p36 : p2 ((36 : Nat) : Int) = 68719476736 := by decide +kernel
    have u36 : p2 (((36 : Nat) : Int) - 53) ≤ 8 / 1000000 := by decide +kernel
    have k40 : (k : Rat) ≤ 39 := by
      have : (k : Rat) ≤ ((39 : Nat) : Rat) := cast_le (by omega)
      exact this
    have k0 : (0 : Rat) ≤ (k : Rat) := by exact_mod_cast Nat.zero_le k
    have ck : ((k + 1 : Nat) : Rat) = (k : Rat) + 1 := by push_cast; rfl
    have a4 := i4 hk
    rw [← e12] at a4
    have e13' : Ap p (termX inst l[k]) (26 / 1000000) := e13
    obtain ⟨r, r1, r2⟩ := add_ap 36 (by omega) i1 e13' (by rw [p36]; grind) (by rw [p36]; grind)
    rw [a4] at r1
    obtain rfl := Option.some.inj r1
    rw [xAt_snoc l inst k hk]
    have j1 : Ap (vAt l inst (k + 1)) (xAt l inst k + termX inst l[k]) (((k + 1 : Nat) : Rat) * (34 / 1000000)) := r2.mono (by rw [ck]; grind)
    have j2 : xAt l inst k + termX inst l[k] ≤ 1010000000 * ((k + 1 : Nat) : Rat) := by rw [ck]; grind
    have j3 : -(1010000000 * ((k + 1 : Nat) : Rat)) ≤ xAt l inst k + termX inst l[k] := by rw [ck]; grind
    refine ⟨j1, j2, j3, fun hkk => ?_⟩
    obtain ⟨xr', x', q', Y', sq', p', -, -, -, -, -, -, -, -, -, -, -, f12, f13⟩ := part_run (inst := inst) (h l[k + 1] (List.getElem_mem hkk))
    have tb' := termX_bd (inst := inst) (h l[k + 1] (List.getElem_mem hkk))
    have f13' : Ap p' (termX inst l[k + 1]) (26 / 1000000) := f13
    rw [← f12]
    obtain ⟨r', s1, s2⟩ := add_ap 36 (by omega) j1 f13' (by rw [p36]; grind) (by rw [p36]; grind)
    rw [s1, vAt_snoc l inst (k + 1) hkk, ← f12, fadd_of s1]
def valLo (m : Int) (l : List Tm) (s inst : Int) : Int := (if l.length = 0 then m else m + arLo (vAt l inst l.length)) - s
def valHi (m : Int) (l : List Tm) (s inst : Int) : Int := (if l.length = 0 then m else m + arHi (vAt l inst l.length)) + s
/-- The interval around the sum of all terms. -/
theorem val_around {l : List Tm} {inst : Int} (h40 : l.length ≤ 40) (h : ∀ t ∈ l, TmOk t) :
    ∃ s1 s2 X1 X2, double.sub (vAt l inst l.length) wSl = some s1 ∧ double.add (vAt l inst l.length) wSl = some s2 ∧ Num s1 X1 ∧ Num s2 X2 ∧ (double.read (fflr s1)).toInt .zero = some (arLo (vAt l inst l.length)) ∧ (double.read (fcei s2)).toInt .zero = some (arHi (vAt l inst l.length)) ∧
      -50000000000 ≤ arLo (vAt l inst l.length) ∧ arLo (vAt l inst l.length) ≤ 50000000000 ∧ -50000000000 ≤ arHi (vAt l inst l.length) ∧ arHi (vAt l inst l.length) ≤ 50000000000 ∧
      (arLo (vAt l inst l.length) : Rat) ≤ xAt l inst l.length - 1/1000 + 138 / 100000 ∧ xAt l inst l.length - 1/1000 - 138 / 100000 < (arLo (vAt l inst l.length) : Rat) + 1 ∧
      xAt l inst l.length + 1/1000 ≤ (arHi (vAt l inst l.length) : Rat) + 138 / 100000 ∧ (arHi (vAt l inst l.length) : Rat) < xAt l inst l.length + 1/1000 + 138 / 100000 + 1 := by
  obtain ⟨i1, i2, i3, -⟩ := val_run (inst := inst) h40 h l.length (Nat.le_refl _)
  have p36 : p2 ((36 : Nat) : Int) = 68719476736 := by decide +kernel
  have u36 : p2 (((36 : Nat) : Int) - 53) ≤ 8 / 1000000 := by decide +kernel
  have k40 : (l.length : Rat) ≤ 40 := by
    have : (l.length : Rat) ≤ ((40 : Nat) : Rat) := cast_le h40
    exact this
  have k0 : (0 : Rat) ≤ (l.length : Rat) := by exact_mod_cast Nat.zero_le _
  have t18 : (1 : Rat) / 10 ^ 18 ≤ 1 / 1000000000 := by decide +kernel
  have i1' := i1.mono (e' := 136 / 100000) (by grind)
  obtain ⟨s1, s2, X1, X2, g1, g2, g3, g4, g5, g6, g7, g8, g9, g10, g11, g12, g13, g14⟩ := around_run 36 (by omega) i1' (by rw [p36]; grind) (by rw [p36]; grind)
  have cancel : ∀ {a b : Int}, (a : Rat) ≤ (b : Rat) → a ≤ b := fun h => Rat.intCast_le_intCast.1 h
  have w1 : ((50000000000 : Int) : Rat) = 50000000000 := rfl
  have w2 : ((-50000000000 : Int) : Rat) = -50000000000 := rfl
  generalize (1 : Rat) / 10 ^ 18 = d at *
  exact ⟨s1, s2, X1, X2, g1, g2, g3, g4, g5, g6, cancel (by rw [w2]; grind), cancel (by rw [w1]; grind), cancel (by rw [w2]; grind), cancel (by rw [w1]; grind), by grind, by grind, by grind, by grind⟩
end
end Go.Proofs.YtcgnhnmigmdalaaGreatDoor
