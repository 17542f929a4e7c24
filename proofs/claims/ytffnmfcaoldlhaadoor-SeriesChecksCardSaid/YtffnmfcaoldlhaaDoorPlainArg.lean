/- The reference's Arg and Part in plain terms. No program in sight. -/
import Derived.Test.YtffnmfcaoldlhaaDoorPlainRef
set_option linter.unusedVariables false
set_option linter.unusedSimpArgs false
namespace Go.Proofs.YtffnmfcaoldlhaaDoor
/-- Part: an amount times a fine number, in the unit 1 / 2^20. -/
def prt (a v : Int) : Int := if v < 0 then -(a * -v / 1099511627776) else a * v / 1099511627776
theorem prt_parts {a v : Int} (a1 : -1000000000 ≤ a) (a2 : a ≤ 1000000000) (v0 : 0 ≤ v) (v1 : v ≤ 1200000000000000000) :
    (0 ≤ v / 1073741824 ∧ v / 1073741824 ≤ 1200000000 ∧ 0 ≤ v % 1073741824 ∧ v % 1073741824 ≤ 1073741823) ∧ (-1200000000000000000 ≤ a * (v / 1073741824) ∧ a * (v / 1073741824) ≤ 1200000000000000000) ∧ (-1200000000000000000 ≤ a * (v % 1073741824) ∧ a * (v % 1073741824) ≤ 1200000000000000000) ∧
    (a * (v / 1073741824) + a * (v % 1073741824) / 1073741824) / 1024 = a * v / 1099511627776 ∧ -1200000000000000 ≤ a * v / 1099511627776 ∧ a * v / 1099511627776 ≤ 1200000000000000 := by
  have h1 := Int.emod_add_mul_ediv v 1073741824
  have A0 : 0 ≤ v / 1073741824 := by omega
  have A1 : v / 1073741824 ≤ 1200000000 := by omega
  have B0 : 0 ≤ v % 1073741824 := by omega
  have B1 : v % 1073741824 ≤ 1073741823 := by omega
  have q : ∀ {x y p r : Int}, -p ≤ x → x ≤ p → 0 ≤ y → y ≤ r → -(p * r) ≤ x * y ∧ x * y ≤ p * r := by
    intro x y p r x0 x1 y0 y1
    have p0 : 0 ≤ p := by omega
    have m1 := Int.mul_le_mul_of_nonneg_right x1 y0
    have m2 := Int.mul_le_mul_of_nonneg_right x0 y0
    have m3 := Int.mul_le_mul_of_nonneg_left y1 p0
    rw [Int.neg_mul] at m2
    constructor <;> omega
  have p1 := q a1 a2 A0 A1
  have p2 := q a1 a2 B0 B1
  have e : a * v = a * (v / 1073741824) * 1073741824 + a * (v % 1073741824) := by
    generalize v / 1073741824 = A at *
    generalize v % 1073741824 = B at *
    subst h1
    grind
  refine ⟨⟨A0, A1, B0, B1⟩, ⟨by omega, by omega⟩, ⟨by omega, by omega⟩, ?_⟩
  rw [e]
  generalize a * (v / 1073741824) = P at *
  generalize a * (v % 1073741824) = Q at *
  refine ⟨?_, ?_, ?_⟩ <;> omega
/-- The argument of a rate at an instant. -/
def argV (rate inst : Int) : Int := rate * inst / 86400000 % 1000000000000000
theorem arg_step (X B d W : Int) (hd : 0 < d) : (2 * (X / d % W) + (2 * (X % d) + B) / d) % W = (2 * X + B) / d % W ∧ (2 * (X % d) + B) % d = (2 * X + B) % d := by
  have h1 := Int.emod_add_mul_ediv X d
  have e : 2 * X + B = 2 * (X % d) + B + d * (2 * (X / d)) := by
    generalize X / d = Q at *
    generalize X % d = r at *
    subst h1
    grind
  constructor
  · rw [e, Int.add_mul_ediv_left _ _ (by omega : d ≠ 0)]
    generalize X / d = Q at *
    generalize (2 * (X % d) + B) / d = c at *
    have h2 := Int.emod_add_mul_ediv Q W
    have e2 : c + 2 * Q = 2 * (Q % W) + c + W * (2 * (Q / W)) := by
      generalize Q / W = u at *
      generalize hz : Q % W = z at *
      have : 2 * Q = 2 * z + 2 * (W * u) := by omega
      rw [this]; grind
    rw [e2, Int.add_mul_emod_self_left]
  · rw [e, Int.add_mul_emod_self_left]
/-- What the bit by bit product holds behind the bits from 50 down to b. -/
theorem arg_next (I : Int) (b : Nat) :
    I / 2 ^ b = 2 * (I / 2 ^ (b + 1)) + I / 2 ^ b % 2 := by
  have : I / 2 ^ (b + 1) = I / 2 ^ b / 2 := by
    rw [Int.pow_succ, Int.ediv_ediv_of_nonneg (Int.pow_nonneg (by omega))]
  rw [this]
  omega
/-- The state of Arg's loop, m bits to go. -/
structure ArgAt (R I : Int) (m : Nat) (q r : Int) : Prop where
  q_ : q = R * (I / 2 ^ m) / 86400000 % 1000000000000000
  r_ : r = R * (I / 2 ^ m) % 86400000
theorem ArgAt.bd {R I : Int} {m : Nat} {q r : Int} (h : ArgAt R I m q r) : 0 ≤ q ∧ q < 1000000000000000 ∧ 0 ≤ r ∧ r < 86400000 := by
  rw [h.q_, h.r_]
  omega
theorem arg_start {R I : Int} (i0 : 0 ≤ I) (i1 : I < 2251799813685248) : ArgAt R I 51 0 0 := by
  have e : I / 2 ^ 51 = 0 := Int.ediv_eq_zero_of_lt i0 (by omega)
  constructor <;> rw [e] <;> simp
theorem ArgAt.step {R I : Int} {b : Nat} {q r : Int} (h : ArgAt R I (b + 1) q r) : (I / 2 ^ b % 2 = 1 → ArgAt R I b ((2 * q + (2 * r + R) / 86400000) % 1000000000000000) ((2 * r + R) % 86400000)) ∧ (I / 2 ^ b % 2 = 0 → ArgAt R I b ((2 * q + 2 * r / 86400000) % 1000000000000000) (2 * r % 86400000)) := by
  have e := arg_next I b
  have hq := h.q_
  have hr := h.r_
  generalize hPb : I / 2 ^ b = P at *
  generalize hP : I / 2 ^ (b + 1) = P' at *
  constructor
  · intro h1
    have s := arg_step (R * P') R 86400000 1000000000000000 (by omega)
    have e2 : 2 * (R * P') + R = R * P := by rw [e, h1]; grind
    rw [e2, ← hq, ← hr] at s
    exact ⟨by rw [s.1, hPb], by rw [s.2, hPb]⟩
  · intro h1
    have s := arg_step (R * P') 0 86400000 1000000000000000 (by omega)
    have e2 : 2 * (R * P') + 0 = R * P := by rw [e, h1]; grind
    rw [e2, ← hq, ← hr, Int.add_zero] at s
    exact ⟨by rw [s.1, hPb], by rw [s.2, hPb]⟩
theorem neg_floor (X d : Int) (hd : 0 < d) : -X / d = -(X / d) - (if 0 < X % d then 1 else 0) := by
  have h1 := Int.emod_add_mul_ediv X d
  have h2 := Int.emod_nonneg X (show d ≠ 0 by omega)
  have h3 := Int.emod_lt_of_pos X hd
  split
  · have e : -X = (d - X % d) + d * (-(X / d) - 1) := by
      generalize X / d = Q at *
      generalize X % d = r at *
      subst h1; grind
    rw [e, Int.add_mul_ediv_left _ _ (by omega : d ≠ 0), Int.ediv_eq_zero_of_lt (by omega) (by omega)]
    omega
  · have e : -X = d * (-(X / d)) := by
      have : X % d = 0 := by omega
      generalize X / d = Q at *
      rw [this] at h1
      subst h1; grind
    rw [e, Int.mul_ediv_cancel_left _ (by omega)]
    omega
theorem mod_neg (Q t W : Int) : (-(Q % W) - t) % W = (-Q - t) % W := by
  have h := Int.emod_add_mul_ediv Q W
  have e : -(Q % W) - t = -Q - t + W * (Q / W) := by
    generalize Q / W = u at *
    generalize Q % W = v at *
    subst h; grind
  rw [e, Int.add_mul_emod_self_left]
theorem arg_end {rate inst R I q r : Int} (hR : (rate < 0 ∧ R = -rate) ∨ (0 ≤ rate ∧ R = rate)) (hI : (inst < 0 ∧ I = -inst) ∨ (0 ≤ inst ∧ I = inst)) (h : ArgAt R I 0 q r) :
    ((decide (rate < 0) = decide (inst < 0)) → q % 1000000000000000 = argV rate inst) ∧ (¬ (decide (rate < 0) = decide (inst < 0)) → (0 < r → (-q - 1) % 1000000000000000 = argV rate inst) ∧ (¬ 0 < r → -q % 1000000000000000 = argV rate inst)) := by
  have hq := h.q_
  have hr := h.r_
  rw [Int.pow_zero, Int.ediv_one] at hq hr
  have hX : rate * inst = if decide (rate < 0) = decide (inst < 0) then R * I else -(R * I) := by
    rcases hR with ⟨h1, rfl⟩ | ⟨h1, rfl⟩ <;> rcases hI with ⟨h2, rfl⟩ | ⟨h2, rfl⟩
    · rw [if_pos (by simp [h1, h2])]; grind
    · rw [if_neg (by simp [h1]; omega)]; grind
    · rw [if_neg (by simp [h2]; omega)]; grind
    · rw [if_pos (by simp; omega)]
  unfold argV
  rw [hX]
  generalize R * I = X at *
  subst hq hr
  refine ⟨fun hd => ?_, fun hd => ⟨fun h0 => ?_, fun h0 => ?_⟩⟩
  · rw [if_pos hd, Int.emod_emod_of_dvd _ (Int.dvd_refl _)]
  · rw [if_neg hd, neg_floor X 86400000 (by omega), if_pos h0, mod_neg]
  · rw [if_neg hd, neg_floor X 86400000 (by omega), if_neg h0]
    have := mod_neg (X / 86400000) 0 1000000000000000
    simpa using this
end Go.Proofs.YtffnmfcaoldlhaaDoor
