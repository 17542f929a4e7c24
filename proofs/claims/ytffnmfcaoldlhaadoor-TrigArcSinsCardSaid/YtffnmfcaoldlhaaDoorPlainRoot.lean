/- The square root in floating point is near the root. No program in sight. -/
import Derived.Test.YtffnmfcaoldlhaaDoorPlainAt6
set_option linter.unusedVariables false
set_option linter.unusedSimpArgs false
namespace Go.Proofs.YtffnmfcaoldlhaaDoor
open Ieee
theorem rootFrom_gt (n : Nat) : ∀ todo root, n < (root + 2 ^ todo) * (root + 2 ^ todo) → n < (Datum.rootFrom n todo root + 1) * (Datum.rootFrom n todo root + 1)
  | 0, root, h => by unfold Datum.rootFrom; simpa using h
  | todo + 1, root, h => by
    unfold Datum.rootFrom
    dsimp only
    rw [Nat.one_shiftLeft]
    refine rootFrom_gt n todo _ ?_
    by_cases q : (root + 2 ^ todo) * (root + 2 ^ todo) ≤ n
    · rw [if_pos q]
      have e : root + 2 ^ todo + 2 ^ todo = root + 2 ^ (todo + 1) := by rw [Nat.pow_succ]; omega
      rw [e]; exact h
    · rw [if_neg q]; omega
theorem root_bits (n : Nat) (hn : n ≠ 0) : Datum.rootFrom n (n.log2 / 2 + 1) 0 * Datum.rootFrom n (n.log2 / 2 + 1) 0 ≤ n ∧ n < (Datum.rootFrom n (n.log2 / 2 + 1) 0 + 1) * (Datum.rootFrom n (n.log2 / 2 + 1) 0 + 1) := by
  refine ⟨rootFrom_le n _ 0 (by simp), rootFrom_gt n _ 0 ?_⟩
  have h := lt_two_log2 n
  rw [Nat.zero_add, ← Nat.pow_add]
  exact Nat.lt_of_lt_of_le h (Nat.pow_le_pow_right (by omega) (by omega))
theorem root_lo {T V : Rat} (T0 : 0 ≤ T) (h : V - 1 / 1000000000000000 * V ≤ T * T) (h0 : 1 ≤ V) : 9/10 ≤ T := by
  by_cases q : 9/10 ≤ T
  · exact q
  · have m1 := Rat.mul_nonneg T0 (show 0 ≤ 9/10 - T by grind)
    grind
theorem root_hi {T V : Rat} (T0 : 0 ≤ T) (h : T * T ≤ V + 1 / 1000000000000000 * V) (h0 : 1 ≤ V) (h1 : V ≤ 4611686018427387904) : T ≤ 4611686018427387905 := by
  by_cases q : T ≤ 4611686018427387905
  · exact q
  · have m1 := Rat.mul_nonneg (show 0 ≤ T - 2 by grind) T0
    grind
theorem sqrt_near {x : Nat} {V : Rat} (hx : Num x V) (h0 : 1 ≤ V) (h1 : V ≤ p2 62) : ∃ r R, double.sqrt x = some r ∧ r < 9223372036854775808 ∧ Num r R ∧ 0 ≤ R ∧ rabs (R * R - V) ≤ 5 / 1000000000000000 * V := by
  obtain ⟨s, m, i, hr, hv⟩ := hx
  have hs : s = false := by
    cases s
    · rfl
    · have := mp_nonneg m i
      unfold rv at hv
      simp at hv
      grind
  subst hs
  have hm : m ≠ 0 := by
    rintro rfl
    unfold rv at hv
    simp at hv
    grind
  unfold Reads at hr
  have hfb : double.fractionBits + 2 = 54 := rfl
  unfold Format.sqrt
  rw [hr, hfb]
  unfold Datum.root
  dsimp only
  rw [if_neg hm]
  simp only [Bool.false_eq_true, if_false]
  generalize hm1 : 2 * 54 - m.log2 = more1
  generalize hmore : more1 + ((i - (more1 : Int)) % 2).toNat = more
  have hev : 2 * ((i - (more : Int)) / 2) = i - more := by omega
  generalize hE : (i - (more : Int)) / 2 = E at *
  have hn0 : m <<< more ≠ 0 := by rw [Nat.shiftLeft_eq]; exact Nat.mul_ne_zero hm (by have := Nat.two_pow_pos more; omega)
  obtain ⟨w1, w2⟩ := root_bits (m <<< more) hn0
  have hbig : 2 ^ 108 ≤ m <<< more := by
    rw [Nat.shiftLeft_eq]
    have l1 := two_log2_le hm
    refine Nat.le_trans ?_ (Nat.mul_le_mul_right _ l1)
    rw [← Nat.pow_add]
    exact Nat.pow_le_pow_right (by omega) (by omega)
  generalize Datum.rootFrom (m <<< more) ((m <<< more).log2 / 2 + 1) 0 = w at *
  have hw : 18014398509481983 ≤ w := by
    by_cases q : 18014398509481983 ≤ w
    · exact q
    · exfalso
      have : (w + 1) * (w + 1) ≤ 18014398509481984 * 18014398509481984 := Nat.mul_le_mul (by omega) (by omega)
      have e : (2 : Nat) ^ 108 = 18014398509481984 * 18014398509481984 := by decide
      omega
  obtain ⟨b, hb, hb1⟩ : ∃ b : Nat, (w * w != m <<< more).toNat = b ∧ b ≤ 1 := ⟨_, rfl, by cases (w * w != m <<< more) <;> simp⟩
  rw [hb]
  obtain ⟨n, hn⟩ : ∃ n, m <<< more = n := ⟨_, rfl⟩
  have hnv : V = (n : Rat) * (p2 E * p2 E) := by
    rw [← hv, ← hn, Nat.shiftLeft_eq]
    unfold rv
    simp only [Bool.false_eq_true, if_false]
    have hpi : p2 i = ((2 ^ more : Nat) : Rat) * (p2 E * p2 E) := by
      rw [← p2_nat, ← p2_add, ← p2_add]
      congr 1
      omega
    rw [hpi]
    push_cast
    grind
  rw [hn] at w1 w2
  clear hn hn0 hbig hb hm hr hv
  have W1 := cast_le w1
  have W2 := cast_le (show n + 1 ≤ (w + 1) * (w + 1) by omega)
  have W3 := cast_le hw
  have B1 : (b : Rat) ≤ 1 := by exact_mod_cast hb1
  have B0 : (0 : Rat) ≤ (b : Rat) := by exact_mod_cast Nat.zero_le b
  have pE := p2_pos E
  have half := p2_half E
  push_cast at W1 W2
  have c3 : ((18014398509481983 : Nat) : Rat) = 18014398509481983 := rfl
  rw [c3] at W3
  -- the written number
  obtain ⟨T, hT⟩ : ∃ T, ((2 * w + b : Nat) : Rat) * p2 (E - 1) = T := ⟨_, rfl⟩
  have hT2 : T = ((w : Rat) + (b : Rat) / 2) * p2 E := by
    rw [← hT]; push_cast; rw [← half]; grind
  have w0 : (0 : Rat) ≤ (w : Rat) := by grind
  have k1 : (w : Rat) * 18014398509481983 ≤ (w : Rat) * w := Rat.mul_le_mul_of_nonneg_left W3 w0
  have tt : rabs (((w : Rat) + (b : Rat) / 2) * ((w : Rat) + (b : Rat) / 2) - n) ≤ 1 / 1000000000000000 * (n : Rat) := by
    have bw := Rat.mul_le_mul_of_nonneg_left B1 w0
    have bw0 := Rat.mul_nonneg w0 B0
    have bb := Rat.mul_le_mul_of_nonneg_left B1 B0
    have bb0 := Rat.mul_nonneg B0 B0
    rw [rabs_le]
    constructor <;> grind
  have q0 : 0 ≤ p2 E * p2 E := Rat.le_of_lt (Rat.mul_pos pE pE)
  have TV : rabs (T * T - V) ≤ 1 / 1000000000000000 * V := by
    have e : T * T - V = (((w : Rat) + (b : Rat) / 2) * ((w : Rat) + (b : Rat) / 2) - n) * (p2 E * p2 E) := by rw [hT2, hnv]; grind
    rw [e, rabs_mul, rabs_pos q0, hnv]
    have := Rat.mul_le_mul_of_nonneg_right tt q0
    grind
  have T0 : 0 ≤ T := by
    rw [hT2]
    exact Rat.mul_nonneg (by grind) (Rat.le_of_lt pE)
  have tv := rabs_le.1 TV
  have p62 : p2 62 = 4611686018427387904 := by decide +kernel
  rw [p62] at h1
  have Tlo : 9/10 ≤ T := root_lo T0 (by clear hnv hT2 tt; grind) h0
  have Thi : T ≤ 4611686018427387905 := root_hi T0 (by clear hnv hT2 tt; grind) h0 h1
  have p65 : (2 : Rat) * 4611686018427387905 ≤ p2 ((65 : Nat) : Int) := by decide +kernel
  obtain ⟨K, kk1, kk2, kk3⟩ := pow_near T T0 65 (by grind)
  obtain ⟨e1, e2⟩ := p2_err K
  obtain ⟨m', p', n1, n2, n3⟩ := nearest_near false (2 * w + b) (E - 1) K (by omega) (by rw [hT]; grind)
  rw [hT] at n2 n3
  refine ⟨double.write (.number false (2 * w + b) (E - 1)), (m' : Rat) * p2 p', rfl, nearest_lt63 _ _, ⟨false, m', p', n1, by unfold rv; simp⟩, mp_nonneg m' p', ?_⟩
  generalize (m' : Rat) * p2 p' = R at *
  have d : rabs (R - T) ≤ 8 / 10000000000000000 * T := rabs_le.2 ⟨by grind, by grind⟩
  have dd := rabs_le.1 d
  have sR : rabs (R + T) ≤ 3 * T := rabs_le.2 ⟨by grind, by grind⟩
  have m2 := rabs_le.1 (mul_rabs d sR)
  have e : R * R - V = (R - T) * (R + T) + (T * T - V) := by grind
  rw [e, rabs_le]
  constructor <;> grind
end Go.Proofs.YtffnmfcaoldlhaaDoor
