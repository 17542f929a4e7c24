/- The intervals of trig.SinOver and CosOver hold the sines of all angles of an interval, and are narrow. No program in sight. -/
import Derived.Test.YtffnmfcaoldlhaaDoorPlainSins
set_option linter.unusedVariables false
set_option linter.unusedSimpArgs false
namespace Go.Proofs.YtffnmfcaoldlhaaDoor
open Ieee
/-- The sine of an angle of whole units. -/
def siU (n : Int) : Rat := S (angU (n % 1000000000))
def cT' (n : Int) : Rat := C (angU (n % 1000000000))
theorem siU_turn (n k : Int) : siU (n + 1000000000 * k) = siU n := by unfold siU; rw [Int.add_mul_emod_self_left]
theorem emod_bd (n : Int) : 0 ≤ n % 1000000000 ∧ n % 1000000000 < 1000000000 := ⟨Int.emod_nonneg n (by omega), Int.emod_lt_of_pos n (by omega)⟩
theorem siU_bd (n : Int) : siU n ≤ 1 + 1 / 1000000000000000 ∧ -(1 + 1 / 1000000000000000) ≤ siU n := by
  obtain ⟨m0, m1⟩ := emod_bd n
  obtain ⟨r0, r1, -⟩ := ang_range m0 m1
  have hp := pi_num
  have h := sin_bd r0 (by grind)
  have t17 : (1 : Rat) / 10 ^ 17 ≤ 1 / 10000000000000000 := by decide +kernel
  unfold siU
  constructor <;> grind
/-- Half a turn more changes the sign. -/
theorem siU_half (n : Int) : rabs (siU (n + 500000000) + siU n) ≤ 2 / 10000000000000 := by
  obtain ⟨b0, b1⟩ := emod_bd n
  unfold siU
  have e0 : (n + 500000000) % 1000000000 = (n % 1000000000 + 500000000) % 1000000000 := by omega
  rw [e0]
  generalize n % 1000000000 = b at *
  obtain ⟨r0, r1, r2⟩ := ang_range b0 b1
  have hp := pi_num
  obtain ⟨p1, p2, -⟩ := at_pi
  have hb := SC_bd r2
  have hpp : rabs piQ ≤ 16/5 := rabs_le.2 ⟨by grind, by grind⟩
  have q2 : tq * 500000000 = piQ := by decide +kernel
  have m1 := rabs_le.1 (mul_rabs hb.2 p1)
  have m2 := rabs_le.1 (mul_rabs hb.1 p2)
  by_cases h : b < 500000000
  · have e : (b + 500000000) % 1000000000 = b + 500000000 := by omega
    have e2 : angU (b + 500000000) = angU b + piQ := by
      rw [angU_tq, angU_tq]; push_cast; grind
    rw [e, e2]
    have a := rabs_le.1 (sin_add r2 hpp)
    rw [rabs_le]
    constructor <;> grind
  · have e : (b + 500000000) % 1000000000 = b - 500000000 := by omega
    have e2 : angU (b - 500000000) = angU b - piQ := by
      rw [angU_tq, angU_tq]; push_cast; grind
    rw [e, e2]
    have a := rabs_le.1 (sin_sub r2 hpp)
    rw [rabs_le]
    constructor <;> grind
theorem siU_cos {b : Int} (b0 : 0 ≤ b) (b1 : b < 1000000000) : rabs (siU (b + 250000000) - C (angU b)) ≤ 3 / 10000000000000 := cos_shift b0 b1
theorem S_up2 {x : Rat} (x0 : 0 ≤ x) (x1 : x ≤ piQ) : -(2 / 10000000000000) ≤ S x := by
  have hp := pi_num
  by_cases h : x ≤ 8/5
  · have := (S_lin x0 h).1
    grind
  · obtain ⟨a1, a2, -⟩ := at_pi
    have hx : rabs x ≤ 16/5 := rabs_le.2 ⟨by grind, by grind⟩
    have h1 := rabs_le.1 (sin_sub (x := piQ) (y := x) (rabs_le.2 ⟨by grind, by grind⟩) hx)
    have hb := SC_bd (y := x) (by grind)
    have m1 := rabs_le.1 (mul_rabs a1 hb.2)
    have m2 := rabs_le.1 (mul_rabs a2 hb.1)
    have hS := (S_lin (x := piQ - x) (by grind) (by grind)).1
    generalize S piQ = sp at *
    generalize C piQ = cp at *
    grind
/-- The cosine goes down, then up. -/
theorem cos_valley {x y z : Rat} (x0 : 0 ≤ x) (xy : x ≤ y) (yz : y ≤ z) (z1 : z ≤ 2 * piQ) : C y ≤ C x + 12 / 10000000000000 ∨ C y ≤ C z + 12 / 10000000000000 := by
  have hp := pi_num
  have small : ∀ {a b : Rat}, -(4 / 10000000000000) ≤ a → 0 ≤ b → b ≤ 101/100 → -(41 / 100000000000000 : Rat) ≤ a * b := by
    intro a b a0 b0 b1
    have m1 := Rat.mul_nonneg (show 0 ≤ a + 4 / 10000000000000 by grind) b0
    grind
  by_cases h : y ≤ piQ
  · left
    have hm : rabs ((y + x) / 2) ≤ 32/5 := rabs_le.2 ⟨by grind, by grind⟩
    have hd : rabs ((y - x) / 2) ≤ 16/5 := rabs_le.2 ⟨by grind, by grind⟩
    have d := (sin_diff hm hd).2
    have e1 : (y + x) / 2 + (y - x) / 2 = y := by grind
    have e2 : (y + x) / 2 - (y - x) / 2 = x := by grind
    rw [e1, e2] at d
    have d := rabs_le.1 d
    have s1 := S_up2 (x := (y + x) / 2) (by grind) (by grind)
    have s2 := (S_lin (x := (y - x) / 2) (by grind) (by grind)).1
    have b2 := rabs_le.1 (SC_bd (y := (y - x) / 2) (by grind)).1
    have k := small (a := S ((y + x) / 2)) (b := S ((y - x) / 2)) (by grind) (by grind) (by grind)
    generalize S ((y + x) / 2) * S ((y - x) / 2) = u at *
    grind
  · right
    have hm : rabs ((z + y) / 2) ≤ 32/5 := rabs_le.2 ⟨by grind, by grind⟩
    have hd : rabs ((z - y) / 2) ≤ 16/5 := rabs_le.2 ⟨by grind, by grind⟩
    have d := (sin_diff hm hd).2
    have e1 : (z + y) / 2 + (z - y) / 2 = z := by grind
    have e2 : (z + y) / 2 - (z - y) / 2 = y := by grind
    rw [e1, e2] at d
    have d := rabs_le.1 d
    have hpp : rabs piQ ≤ 16/5 := rabs_le.2 ⟨by grind, by grind⟩
    have t := rabs_le.1 (sin_sub hm hpp)
    obtain ⟨p1, p2, -⟩ := at_pi
    have hb := SC_bd hm
    have m1 := rabs_le.1 (mul_rabs hb.2 p1)
    have m2 := rabs_le.1 (mul_rabs hb.1 p2)
    have s1 := S_up2 (x := (z + y) / 2 - piQ) (by grind) (by grind)
    have s2 := (S_lin (x := (z - y) / 2) (by grind) (by grind)).1
    have b2 := rabs_le.1 (SC_bd (y := (z - y) / 2) (by grind)).1
    have k := small (a := -S ((z + y) / 2)) (b := S ((z - y) / 2)) (by grind) (by grind) (by grind)
    have e3 : (-S ((z + y) / 2)) * S ((z - y) / 2) = -(S ((z + y) / 2) * S ((z - y) / 2)) := by grind
    rw [e3] at k
    generalize S ((z + y) / 2) * S ((z - y) / 2) = u at *
    grind
/-- Between two angles that do not have the lowest one between them no sine is below both. -/
theorem siU_low {lo hi n : Int} (h1 : lo ≤ n) (h2 : n ≤ hi) (hg : hi - lo < (750000000 - lo) % 1000000000) : siU lo ≤ siU n + 24 / 10000000000000 ∨ siU hi ≤ siU n + 24 / 10000000000000 := by
  obtain ⟨g0, g1⟩ := emod_bd (750000000 - lo)
  generalize hG : (750000000 - lo) % 1000000000 = g at *
  -- from the lowest angle on
  have key : ∀ m : Int, lo ≤ m → m ≤ hi → ∃ b : Int, b = 1000000000 - g + (m - lo) ∧ 0 ≤ b ∧ b < 1000000000 ∧ rabs (siU m + C (angU b)) ≤ 6 / 10000000000000 := by
    intro m m1 m2
    refine ⟨_, rfl, by omega, by omega, ?_⟩
    generalize hb : 1000000000 - g + (m - lo) = b at *
    have c := rabs_le.1 (siU_cos (b := b) (by omega) (by omega))
    have h := rabs_le.1 (siU_half (b + 250000000))
    have e : siU (b + 250000000 + 500000000) = siU m := by
      unfold siU
      have : (b + 250000000 + 500000000) % 1000000000 = m % 1000000000 := by omega
      rw [this]
    rw [e] at h
    exact rabs_le.2 ⟨by grind, by grind⟩
  obtain ⟨b1, e1, p1, q1, r1⟩ := key lo (by omega) (by omega)
  obtain ⟨b2, e2, p2, q2, r2⟩ := key n h1 h2
  obtain ⟨b3, e3, p3, q3, r3⟩ := key hi (by omega) (by omega)
  have r1 := rabs_le.1 r1
  have r2 := rabs_le.1 r2
  have r3 := rabs_le.1 r3
  have l1 : angU b1 ≤ angU b2 := by rw [angU_tq, angU_tq]; exact tq_le (icast (by omega))
  have l2 : angU b2 ≤ angU b3 := by rw [angU_tq, angU_tq]; exact tq_le (icast (by omega))
  rcases cos_valley (ang_range p1 q1).1 l1 l2 (ang_range p3 q3).2.1 with h | h
  · left; grind
  · right; grind
theorem siU_high {lo hi n : Int} (h1 : lo ≤ n) (h2 : n ≤ hi) (hg : hi - lo < (250000000 - lo) % 1000000000) : siU n ≤ siU lo + 3 / 1000000000000 ∨ siU n ≤ siU hi + 3 / 1000000000000 := by
  have e : (750000000 - (lo + 500000000)) % 1000000000 = (250000000 - lo) % 1000000000 := by omega
  have h := siU_low (lo := lo + 500000000) (hi := hi + 500000000) (n := n + 500000000) (by omega) (by omega) (by rw [e]; omega)
  have a := rabs_le.1 (siU_half lo)
  have b := rabs_le.1 (siU_half hi)
  have c := rabs_le.1 (siU_half n)
  rcases h with h | h
  · left; grind
  · right; grind
/-- Sines of angles near each other. -/
theorem siU_lip0 {m n : Int} (h : m ≤ n) (hd : n - m ≤ 400000000) : rabs (siU n - siU m) ≤ (628320 / 100000000000000) * ((n - m : Int) : Rat) + 1 / 100000000000 := by
  obtain ⟨m0, m1⟩ := emod_bd m
  obtain ⟨n0, n1⟩ := emod_bd n
  obtain ⟨t1, t2, -⟩ := tq_num
  have hp := pi_num
  have d0 : (0 : Rat) ≤ ((n - m : Int) : Rat) := by exact_mod_cast (show 0 ≤ n - m by omega)
  have d1 : ((n - m : Int) : Rat) ≤ 400000000 := by
    have := icast hd
    have e : ((400000000 : Int) : Rat) = 400000000 := rfl
    rw [e] at this; exact this
  have rm := ang_range m0 m1
  have rn := ang_range n0 n1
  have td := Rat.mul_le_mul_of_nonneg_right t2 d0
  have td0 := Rat.mul_nonneg (show 0 ≤ tq by grind) d0
  have tt := tq_le d1
  have lim : tq * 400000000 ≤ 2514/1000 := by decide +kernel
  have fin : ∀ x : Rat, rabs (x - angU (m % 1000000000)) ≤ tq * ((n - m : Int) : Rat) → rabs x ≤ 32/5 → rabs (S x - S (angU (m % 1000000000))) ≤ (628320 / 100000000000000) * ((n - m : Int) : Rat) + 5 / 1000000000000 := by
    intro x hx hx2
    have hx' := rabs_le.1 hx
    have hx2' := rabs_le.1 hx2
    have rm2 := rabs_le.1 rm.2.2
    have l := (sin_lipQ (x := x) (y := angU (m % 1000000000)) (rabs_le.2 ⟨by grind, by grind⟩) (rabs_le.2 ⟨by grind, by grind⟩)).1
    grind
  unfold siU
  rcases (show n % 1000000000 - m % 1000000000 = n - m ∨ n % 1000000000 - m % 1000000000 = n - m - 1000000000 by omega) with e | e
  · have e2 : angU (n % 1000000000) = angU (m % 1000000000) + tq * ((n - m : Int) : Rat) := by
      rw [angU_tq, angU_tq, ← e]; push_cast; grind
    have := fin (angU (n % 1000000000)) (by rw [e2]; have q : angU (m % 1000000000) + tq * ((n - m : Int) : Rat) - angU (m % 1000000000) = tq * ((n - m : Int) : Rat) := by grind
                                            rw [q, rabs_pos td0]; exact Rat.le_refl) rn.2.2
    grind
  · have e2 : angU (n % 1000000000) = angU (m % 1000000000) + tq * ((n - m : Int) : Rat) - 2 * piQ := by
      have : ((n - m : Int) : Rat) = (((n % 1000000000) - (m % 1000000000) + 1000000000 : Int) : Rat) := by rw [e]; congr 1; omega
      rw [this, angU_tq, angU_tq, ← tq_turn]; push_cast; grind
    -- one turn back
    have tb := sc_shift (a := m % 1000000000) m0 m1 (θ := angU (m % 1000000000) - 2 * piQ) (.inr (by rw [angU_tq]))
    have sm : S (tq * ((m % 1000000000 : Int) : Rat)) = S (angU (m % 1000000000)) := by rw [angU_tq]
    rw [sm] at tb
    have hx' := rabs_le.1 rn.2.2
    have l := (sin_lipQ (x := angU (n % 1000000000)) (y := angU (m % 1000000000) - 2 * piQ) (rabs_le.2 ⟨by grind, by grind⟩) (rabs_le.2 ⟨by grind, by grind⟩)).1
    have q : angU (n % 1000000000) - (angU (m % 1000000000) - 2 * piQ) = tq * ((n - m : Int) : Rat) := by grind
    rw [q, rabs_pos td0] at l
    have tb1 := rabs_le.1 tb.1
    have l1 := rabs_le.1 l
    rw [rabs_le]
    constructor <;> grind
theorem siU_lip {m n : Int} (h : m ≤ n) : rabs (siU n - siU m) ≤ (628320 / 100000000000000) * ((n - m : Int) : Rat) + 1 / 100000000000 := by
  by_cases hd : n - m ≤ 400000000
  · exact siU_lip0 h hd
  · have b1 := siU_bd n
    have b2 := siU_bd m
    have d1 : (400000000 : Rat) ≤ ((n - m : Int) : Rat) := by
      have := icast (show 400000000 ≤ n - m by omega)
      have e : ((400000000 : Int) : Rat) = 400000000 := rfl
      rw [e] at this; exact this
    rw [rabs_le]
    constructor <;> grind
def ctB (lo hi g : Int) : Bool := decide (1000000000 ≤ hi - lo) || decide ((g - lo) % 1000000000 ≤ hi - lo)
def sovLo (lo hi : Int) : Int := if ctB lo hi 750000000 then -1000000000 else min (sineLo lo) (sineLo hi)
def sovHi (lo hi : Int) : Int := if ctB lo hi 250000000 then 1000000000 else max (sineHi lo) (sineHi hi)
/-- What an interval of sines is worth. -/
structure OverOk (lo hi L H : Int) : Prop where
  c1 : ∀ n, lo ≤ n → n ≤ hi → (L : Rat) ≤ 1000000000 * siU n + 4 / 1000
  c2 : ∀ n, lo ≤ n → n ≤ hi → 1000000000 * siU n ≤ (H : Rat) + 4 / 1000
  b0 : -1000000000 ≤ L
  b1 : H ≤ 1000000000
  o : L ≤ H
  w : ((H - L : Int) : Rat) ≤ 62832 / 10000 * ((hi - lo : Int) : Rat) + 225 / 100
theorem siU_q : rabs (siU 750000000 + 1) ≤ 1 / 10000000000000 ∧ rabs (siU 250000000 - 1) ≤ 1 / 10000000000000 := by decide +kernel
theorem siU_eq {m n k : Int} (h : m = n + 1000000000 * k) : siU m = siU n := by rw [h]; exact siU_turn n k
theorem over_ok (lo hi : Int) (h : lo ≤ hi) : OverOk lo hi (sovLo lo hi) (sovHi lo hi) := by
  have s1 := sine_bd lo
  have s2 := sine_bd hi
  obtain ⟨q3, q1⟩ := siU_q
  have q3 := rabs_le.1 q3
  have q1 := rabs_le.1 q1
  have eL : S (angU (lo % 1000000000)) = siU lo := rfl
  have eH : S (angU (hi % 1000000000)) = siU hi := rfl
  rw [eL] at s1
  rw [eH] at s2
  have c3 : ((-1000000000 : Int) : Rat) = -1000000000 := rfl
  have c1 : ((1000000000 : Int) : Rat) = 1000000000 := rfl
  -- the least one
  have low : (∀ n, lo ≤ n → n ≤ hi → (sovLo lo hi : Rat) ≤ 1000000000 * siU n + 4 / 1000) ∧ -1000000000 ≤ sovLo lo hi ∧ sovLo lo hi ≤ sineLo lo ∧ ∃ x, lo ≤ x ∧ x ≤ hi ∧ 1000000000 * siU x - 11 / 10 ≤ (sovLo lo hi : Rat) := by
    unfold sovLo
    cases hc : ctB lo hi 750000000 with
    | true =>
      rw [if_pos rfl]
      refine ⟨fun n _ _ => ?_, by omega, s1.b0, ?_⟩
      · have := siU_bd n; rw [c3]; grind
      · have hx : (750000000 - lo) % 1000000000 ≤ hi - lo := by
          unfold ctB at hc
          simp at hc
          have := emod_bd (750000000 - lo)
          omega
        refine ⟨lo + (750000000 - lo) % 1000000000, by have := emod_bd (750000000 - lo); omega, by omega, ?_⟩
        have e : siU (lo + (750000000 - lo) % 1000000000) = siU 750000000 := siU_eq (k := -((750000000 - lo) / 1000000000)) (by omega)
        rw [e, c3]; grind
    | false =>
      rw [if_neg (by simp)]
      have hg : hi - lo < (750000000 - lo) % 1000000000 := by
        unfold ctB at hc
        simp at hc
        omega
      refine ⟨fun n n1 n2 => ?_, by have := s1.b0; have := s2.b0; omega, by omega, ?_⟩
      · have m1 := icast (show min (sineLo lo) (sineLo hi) ≤ sineLo lo by omega)
        have m2 := icast (show min (sineLo lo) (sineLo hi) ≤ sineLo hi by omega)
        have a1 := s1.l1
        have a2 := s2.l1
        rcases siU_low n1 n2 hg with k | k <;> grind
      · rcases (show min (sineLo lo) (sineLo hi) = sineLo lo ∨ min (sineLo lo) (sineLo hi) = sineLo hi by omega) with k | k
        · exact ⟨lo, by omega, h, by rw [k]; exact s1.l2⟩
        · exact ⟨hi, h, by omega, by rw [k]; exact s2.l2⟩
  have high : (∀ n, lo ≤ n → n ≤ hi → 1000000000 * siU n ≤ (sovHi lo hi : Rat) + 4 / 1000) ∧ sovHi lo hi ≤ 1000000000 ∧ sineHi lo ≤ sovHi lo hi ∧ ∃ x, lo ≤ x ∧ x ≤ hi ∧ (sovHi lo hi : Rat) ≤ 1000000000 * siU x + 11 / 10 := by
    unfold sovHi
    cases hc : ctB lo hi 250000000 with
    | true =>
      rw [if_pos rfl]
      refine ⟨fun n _ _ => ?_, by omega, s1.b1, ?_⟩
      · have := siU_bd n; rw [c1]; grind
      · have hx : (250000000 - lo) % 1000000000 ≤ hi - lo := by
          unfold ctB at hc
          simp at hc
          have := emod_bd (250000000 - lo)
          omega
        refine ⟨lo + (250000000 - lo) % 1000000000, by have := emod_bd (250000000 - lo); omega, by omega, ?_⟩
        have e : siU (lo + (250000000 - lo) % 1000000000) = siU 250000000 := siU_eq (k := -((250000000 - lo) / 1000000000)) (by omega)
        rw [e, c1]; grind
    | false =>
      rw [if_neg (by simp)]
      have hg : hi - lo < (250000000 - lo) % 1000000000 := by
        unfold ctB at hc
        simp at hc
        omega
      refine ⟨fun n n1 n2 => ?_, by have := s1.b1; have := s2.b1; omega, by omega, ?_⟩
      · have m1 := icast (show sineHi lo ≤ max (sineHi lo) (sineHi hi) by omega)
        have m2 := icast (show sineHi hi ≤ max (sineHi lo) (sineHi hi) by omega)
        have a1 := s1.h1
        have a2 := s2.h1
        rcases siU_high n1 n2 hg with k | k <;> grind
      · rcases (show max (sineHi lo) (sineHi hi) = sineHi lo ∨ max (sineHi lo) (sineHi hi) = sineHi hi by omega) with k | k
        · exact ⟨lo, by omega, h, by rw [k]; exact s1.h2⟩
        · exact ⟨hi, h, by omega, by rw [k]; exact s2.h2⟩
  obtain ⟨l1, l2, l3, x, x1, x2, x3⟩ := low
  obtain ⟨h1, h2, h3, y, y1, y2, y3⟩ := high
  refine ⟨l1, h1, l2, h2, by have := s1.o; omega, ?_⟩
  have lip : rabs (siU y - siU x) ≤ (628320 / 100000000000000) * ((hi - lo : Int) : Rat) + 1 / 100000000000 := by
    rcases (show x ≤ y ∨ y ≤ x by omega) with k | k
    · have a := siU_lip k
      have b := icast (show y - x ≤ hi - lo by omega)
      grind
    · have a := siU_lip k
      have b := icast (show x - y ≤ hi - lo by omega)
      have e : rabs (siU y - siU x) = rabs (siU x - siU y) := by
        have : siU y - siU x = -(siU x - siU y) := by grind
        rw [this, rabs_neg]
      rw [e]
      grind
  have lip := rabs_le.1 lip
  push_cast at lip ⊢
  grind
end Go.Proofs.YtffnmfcaoldlhaaDoor
