/- A point of a circle lies between the bounds of an interval that holds its angle. No program in sight. The stars: what the reference tests. No program in sight. -/
import Derived.Test.YtcgnhnmigmdalaaDoorEqB
import Derived.Test.YtcgnhnmigmdalaaDoorWalkSt2
import Derived.Test.YtcgnhnmigmdalaaDoorSmA
set_option linter.unusedVariables false
set_option linter.unusedSimpArgs false
namespace Go.Proofs.YtcgnhnmigmdalaaDoor
section
open Ieee
/-- The sine and the cosine a little further, up to whole turns. -/
theorem sc_further {a z δ : Rat} {k : Int} (a0 : 0 ≤ a) (a1 : a ≤ 1000000000) (z0 : 0 ≤ z) (z1 : z ≤ 1000000000) (h : z + (k : Rat) * 1000000000 = a + δ) (d0 : -(1/100) ≤ δ) (d1 : δ ≤ 400000000) :
    rabs (S (tq * z) - (S (tq * a) * C (tq * δ) + C (tq * a) * S (tq * δ))) ≤ 2 / 1000000000000 ∧ rabs (C (tq * z) - (C (tq * a) * C (tq * δ) - S (tq * a) * S (tq * δ))) ≤ 2 / 1000000000000 := by
  have hp := pi_num
  obtain ⟨t1, t2, -⟩ := tq_num
  have lim : tq * 400000000 ≤ 2514/1000 := by decide +kernel
  have limn : -(1/100000) ≤ tq * -(1/100) := by decide +kernel
  have A0 := tq_le a0
  have A1 := tq_le a1
  have Z0 := tq_le z0
  have Z1 := tq_le z1
  have D0 := tq_le d0
  have D1 := tq_le d1
  rw [tq_turn] at A1 Z1
  have hA : rabs (tq * a) ≤ 32/5 := rabs_le.2 ⟨by grind, by grind⟩
  have hD : rabs (tq * δ) ≤ 16/5 := rabs_le.2 ⟨by grind, by grind⟩
  have s := sin_add hA hD
  have c := cos_add hA hD
  have e : tq * a + tq * δ = tq * z + (k : Rat) * (2 * piQ) := by rw [← tq_turn]; grind
  rw [e] at s c
  have hk : k = 0 ∨ k = 1 ∨ k = -1 := by
    have c2 : ((2 : Int) : Rat) = 2 := rfl
    have cm : ((-2 : Int) : Rat) = -2 := rfl
    have a1 : k < 2 := by
      by_cases q : k < 2
      · exact q
      · exfalso
        have := icast (show 2 ≤ k by omega)
        rw [c2] at this; grind
    have a2 : -2 < k := by
      by_cases q : -2 < k
      · exact q
      · exfalso
        have := icast (show k ≤ -2 by omega)
        rw [cm] at this; grind
    omega
  rcases hk with rfl | rfl | rfl
  · have c0 : ((0 : Int) : Rat) = 0 := rfl
    rw [c0, show tq * z + 0 * (2 * piQ) = tq * z by grind] at s c
    exact ⟨by grind, by grind⟩
  · have c1 : ((1 : Int) : Rat) = 1 := rfl
    rw [c1] at s c h
    rw [show tq * z + 1 * (2 * piQ) = tq * z + 2 * piQ by grind] at s c
    have zs := tq_le (show z ≤ 400000000 by grind)
    obtain ⟨k1, k2⟩ := sin_turn (x := tq * z) (rabs_le.2 ⟨by grind, by grind⟩)
    have s := rabs_le.1 s
    have c := rabs_le.1 c
    have k1 := rabs_le.1 k1
    have k2 := rabs_le.1 k2
    clear hA hD e
    constructor <;> rw [rabs_le] <;> constructor <;> grind
  · have c1 : ((-1 : Int) : Rat) = -1 := rfl
    rw [c1] at s c h
    rw [show tq * z + -1 * (2 * piQ) = tq * z - 2 * piQ by grind] at s c
    have zs := tq_le (show 999999999 ≤ z by grind)
    have lim2 : tq * 999999999 ≥ 62/10 := by decide +kernel
    obtain ⟨k1, k2⟩ := sin_turn (x := tq * z - 2 * piQ) (rabs_le.2 ⟨by grind, by grind⟩)
    rw [show tq * z - 2 * piQ + 2 * piQ = tq * z by grind] at k1 k2
    have s := rabs_le.1 s
    have c := rabs_le.1 c
    have k1 := rabs_le.1 k1
    have k2 := rabs_le.1 k2
    clear hA hD e
    constructor <;> rw [rabs_le] <;> constructor <;> grind
/-- Two directions of length 1, one a little behind the other: the parts across and along. -/
theorem across {sa ca sz cz s c : Rat} (h1 : rabs (sz - (sa * c + ca * s)) ≤ 2 / 1000000000000) (h2 : rabs (cz - (ca * c - sa * s)) ≤ 2 / 1000000000000) (ha : rabs (sa * sa + ca * ca - 1) ≤ 1 / 100000000000) (b1 : rabs sa ≤ 101/100) (b2 : rabs ca ≤ 101/100) (b3 : rabs s ≤ 101/100) (b4 : rabs c ≤ 101/100) :
    rabs (ca * sz - sa * cz - s) ≤ 2 / 100000000000 ∧ rabs (ca * cz + sa * sz - c) ≤ 2 / 100000000000 := by
  have m1 := rabs_le.1 (mul_rabs b2 h1)
  have m2 := rabs_le.1 (mul_rabs b1 h2)
  have m3 := rabs_le.1 (mul_rabs b2 h2)
  have m4 := rabs_le.1 (mul_rabs b1 h1)
  have m5 := rabs_le.1 (mul_rabs ha b3)
  have m6 := rabs_le.1 (mul_rabs ha b4)
  constructor
  · have e : ca * sz - sa * cz - s = ca * (sz - (sa * c + ca * s)) - sa * (cz - (ca * c - sa * s)) + (sa * sa + ca * ca - 1) * s := by grind
    rw [e, rabs_le]
    clear e h1 h2 ha b1 b2 b3 b4 m3 m4 m6
    generalize ca * (sz - (sa * c + ca * s)) = p at *
    generalize sa * (cz - (ca * c - sa * s)) = q at *
    generalize (sa * sa + ca * ca - 1) * s = r at *
    constructor <;> grind
  · have e : ca * cz + sa * sz - c = ca * (cz - (ca * c - sa * s)) + sa * (sz - (sa * c + ca * s)) + (sa * sa + ca * ca - 1) * c := by grind
    rw [e, rabs_le]
    clear e h1 h2 ha b1 b2 b3 b4 m1 m2 m5
    generalize ca * (cz - (ca * c - sa * s)) = p at *
    generalize sa * (sz - (sa * c + ca * s)) = q at *
    generalize (sa * sa + ca * ca - 1) * c = r at *
    constructor <;> grind
theorem near_point {lo hi k : Int} {z r : Rat} (l0 : 0 ≤ lo) (l1 : lo < 1000000000) (hh : lo ≤ hi) (hw : hi - lo ≤ 100000000) (z0 : 0 ≤ z) (z1 : z ≤ 1000000000) (h1 : (lo : Rat) - 1/500 ≤ z + (k : Rat) * 1000000000) (h2 : z + (k : Rat) * 1000000000 ≤ (hi : Rat) + 1/500) (r0 : 0 ≤ r) (r1 : r ≤ 1100000000) :
    Near lo (hi % 1000000000) (r * C (tq * z)) (r * S (tq * z)) := by
  have hp := pi_num
  obtain ⟨t1, t2, -⟩ := tq_num
  obtain ⟨e0, e1⟩ := emod_bd hi
  have es := turn_split hi
  have L0 := icast l0
  have L1 := icast (show lo ≤ 1000000000 by omega)
  have E0 := icast e0
  have E1 := icast (show hi % 1000000000 ≤ 1000000000 by omega)
  have W := icast hw
  have c0 : ((0 : Int) : Rat) = 0 := rfl
  have c1 : ((1000000000 : Int) : Rat) = 1000000000 := rfl
  have c2 : ((100000000 : Int) : Rat) = 100000000 := rfl
  rw [c0] at L0 E0
  rw [c1] at L1 E1
  rw [c2] at W
  push_cast at W
  generalize hi % 1000000000 = h at *
  generalize hi / 1000000000 = q at *
  obtain ⟨δ, hδ⟩ : ∃ δ, z + (k : Rat) * 1000000000 - (lo : Rat) = δ := ⟨_, rfl⟩
  obtain ⟨ε, hε⟩ : ∃ ε, (hi : Rat) - (z + (k : Rat) * 1000000000) = ε := ⟨_, rfl⟩
  obtain ⟨p1, p2⟩ := sc_further (a := (lo : Rat)) (z := z) (δ := δ) (k := k) L0 L1 z0 z1 (by grind) (by grind) (by grind)
  obtain ⟨p3, p4⟩ := sc_further (a := z) (z := (h : Rat)) (δ := ε) (k := q - k) z0 z1 E0 E1 (by push_cast; grind) (by grind) (by grind)
  have lim : tq * (100000000 + 1/100) ≤ 63/100 := by decide +kernel
  have limn : -(13 / 1000000000000) ≤ tq * -(1/500) := by decide +kernel
  have D0 := tq_le (show -(1/500) ≤ δ by grind)
  have D1 := tq_le (show δ ≤ 100000000 + 1/100 by grind)
  have F0 := tq_le (show -(1/500) ≤ ε by grind)
  have F1 := tq_le (show ε ≤ 100000000 + 1/100 by grind)
  have ba := sc_one L0 L1
  have bz := sc_one z0 z1
  have bd := SC_bd (y := tq * δ) (rabs_le.2 ⟨by grind, by grind⟩)
  have be := SC_bd (y := tq * ε) (rabs_le.2 ⟨by grind, by grind⟩)
  have sd := S_up (d := 13 / 1000000000000) (x := tq * δ) (by grind) (by grind) (by grind) (by grind)
  have se := S_up (d := 13 / 1000000000000) (x := tq * ε) (by grind) (by grind) (by grind) (by grind)
  have cd := C_up (d := 13 / 1000000000000) (x := tq * δ) (by grind) (by grind) (by grind) (by grind)
  have ce := C_up (d := 13 / 1000000000000) (x := tq * ε) (by grind) (by grind) (by grind) (by grind)
  obtain ⟨g1, g2⟩ := across p1 p2 (circT L0 L1) (by grind) (by grind) (by grind) (by grind)
  obtain ⟨g3, g4⟩ := across p3 p4 (circT z0 z1) (by grind) (by grind) (by grind) (by grind)
  have g1 := rabs_le.1 g1
  have g2 := rabs_le.1 g2
  have g3 := rabs_le.1 g3
  have g4 := rabs_le.1 g4
  clear p1 p2 p3 p4 ba bz bd be D0 D1 F0 F1 hδ hε
  refine ⟨?_, ?_, ?_⟩
  all_goals generalize S (tq * (lo : Rat)) = sa at *
  all_goals generalize C (tq * (lo : Rat)) = ca at *
  all_goals generalize S (tq * (h : Rat)) = sh at *
  all_goals generalize C (tq * (h : Rat)) = ch at *
  all_goals generalize S (tq * z) = sz at *
  all_goals generalize C (tq * z) = cz at *
  · have m := Rat.mul_le_mul_of_nonneg_left (show -(1 / 10000000000) ≤ ca * sz - sa * cz by grind) r0
    grind
  · have m := Rat.mul_le_mul_of_nonneg_left (show -(1 / 10000000000) ≤ cz * sh - sz * ch by grind) r0
    grind
  · have m := Rat.mul_le_mul_of_nonneg_left (show -(1 / 10000000000) ≤ ca * cz + sa * sz by grind) r0
    have m2 := Rat.mul_le_mul_of_nonneg_left (show -(1 / 10000000000) ≤ cz * ch + sz * sh by grind) r0
    grind
end
section
open Ieee
theorem star_whole {m r t : Int} (m0 : 0 ≤ m) (m1 : m < 1000000000) : wholeV m r [] t = (argV r t + m * 1000000) % 1000000000000000 / 1000000 * 1048576 + (argV r t + m * 1000000) % 1000000000000000 % 1000000 * 1048576 / 1000000 := by
  obtain ⟨a0, a1⟩ := argV_bd r t
  have e : refAt m [] t ([] : List Tm).length = m * 1048576 := rfl
  unfold wholeV
  rw [e]
  generalize argV r t = a at *
  have e1 : (a + m * 1000000) % 1000000000000000 = 1000000 * ((a / 1000000 + m) % 1000000000) + a % 1000000 := by omega
  have q0 : 0 ≤ a / 1000000 := by omega
  have q1 : a / 1000000 < 1000000000 := by omega
  have r0 : 0 ≤ a % 1000000 := by omega
  have r1 : a % 1000000 < 1000000 := by omega
  rw [e1]
  generalize a / 1000000 = q at *
  generalize a % 1000000 = ρ at *
  clear e1 a0 a1 e
  have e2 : (1000000 * ((q + m) % 1000000000) + ρ) / 1000000 = (q + m) % 1000000000 := by omega
  have e3 : (1000000 * ((q + m) % 1000000000) + ρ) % 1000000 = ρ := by omega
  rw [e2, e3]
  have f0 : 0 ≤ ρ * 1048576 / 1000000 := by omega
  have f1 : ρ * 1048576 / 1000000 < 1048576 := by omega
  generalize ρ * 1048576 / 1000000 = f at *
  clear e2 e3 r0 r1
  by_cases h : q + m < 1000000000
  · have e4 : (q + m) % 1000000000 = q + m := Int.emod_eq_of_lt (by omega) h
    have e5 : (m * 1048576 + q * 1048576 + f) % 1048576000000000 = m * 1048576 + q * 1048576 + f := Int.emod_eq_of_lt (by omega) (by omega)
    rw [e4, e5]; omega
  · have e4 : (q + m) % 1000000000 = q + m - 1000000000 := by omega
    have e5 : (m * 1048576 + q * 1048576 + f) % 1048576000000000 = m * 1048576 + q * 1048576 + f - 1048576000000000 := by omega
    rw [e4, e5]; omega
/-- The angle of an argument is held by an interval that holds its whole sum. -/
theorem kl_arg {a lo hi : Int} (a0 : 0 ≤ a) (a1 : a < 1000000000000000) (hn : hi - lo ≤ 100000000) (h : (a / 1000000 * 1048576 + a % 1000000 * 1048576 / 1000000 - lo * 1048576 + 2000) % 1048576000000000 ≤ (hi - lo) * 1048576 + 4000) : ∃ k : Int, (lo : Rat) - 1/500 ≤ zA a + (k : Rat) * 1000000000 ∧ zA a + (k : Rat) * 1000000000 ≤ (hi : Rat) + 1/500 := by
  generalize hm : a / 1000000 * 1048576 + a % 1000000 * 1048576 / 1000000 = m at *
  have b1 : m * 1000000 ≤ a * 1048576 := by omega
  have b2 : a * 1048576 < m * 1000000 + 1000000 := by omega
  refine ⟨-((m - lo * 1048576 + 2000) / 1048576000000000), ?_⟩
  have e := Int.emod_add_mul_ediv (m - lo * 1048576 + 2000) 1048576000000000
  have r0 := Int.emod_nonneg (m - lo * 1048576 + 2000) (show (1048576000000000 : Int) ≠ 0 by decide)
  generalize (m - lo * 1048576 + 2000) / 1048576000000000 = q at *
  generalize (m - lo * 1048576 + 2000) % 1048576000000000 = r at *
  have c1 := icast (show lo * 1048576 - 2000 ≤ m - 1048576000000000 * q by omega)
  have c2 := icast (show m - 1048576000000000 * q ≤ hi * 1048576 + 2000 by omega)
  have c3 := icast b1
  have c4 := icast (show a * 1048576 ≤ m * 1000000 + 1000000 by omega)
  push_cast at c1 c2 c3 c4
  push_cast
  unfold zA
  constructor <;> grind
/-- A star's cosine of the declination. -/
theorem st_cos : ∀ k < 8, 0 ≤ C (tq * zA (stArgD k)) := by decide +kernel
theorem star_facts (K : Nat) (hK : K < 8) (t : Int) : 0 ≤ angLo (stRa K) 97300000 [] 100 t ∧ angLo (stRa K) 97300000 [] 100 t < 1000000000 ∧ angLo (stRa K) 97300000 [] 100 t ≤ angHi (stRa K) 97300000 [] 100 t ∧ angHi (stRa K) 97300000 [] 100 t - angLo (stRa K) 97300000 [] 100 t ≤ 201 ∧
    InArcOk (angLo (stRa K) 97300000 [] 100 t) (angHi (stRa K) 97300000 [] 100 t % 1000000000) (fm (sc (stArgD K)).2 (sc (stArg (argV 97300000 t) K)).1) (fm (sc (stArgD K)).2 (sc (stArg (argV 97300000 t) K)).2) ∧
    InAsin (stDec K - 100) (stDec K + 100) (sc (stArgD K)).1 ∧
    (-1160000000000000000 ≤ fm (sc (stArgD K)).2 (sc (stArg (argV 97300000 t) K)).2 ∧ fm (sc (stArgD K)).2 (sc (stArg (argV 97300000 t) K)).2 ≤ 1160000000000000000) ∧ (-1160000000000000000 ≤ fm (sc (stArgD K)).2 (sc (stArg (argV 97300000 t) K)).1 ∧ fm (sc (stArgD K)).2 (sc (stArg (argV 97300000 t) K)).1 ≤ 1160000000000000000) ∧ (-1160000000000000000 ≤ (sc (stArgD K)).1 ∧ (sc (stArgD K)).1 ≤ 1160000000000000000) := by
  obtain ⟨g1, g2, g3, g4⟩ := st_rng K hK
  have hs := sumOk_of (st_sum K hK)
  obtain ⟨v1, v2, v3, v4, v5⟩ := ang_contains (inst := t) hs
  have v6 := ang_contains2 (inst := t) hs (by decide)
  have hb : bndAt 100 [] = 200 := by decide +kernel
  rw [hb] at v4
  rw [star_whole g1 g2] at v6
  have eA : (argV 97300000 t + stRa K * 1000000) % 1000000000000000 = stArg (argV 97300000 t) K := rfl
  rw [eA] at v6
  have A0 : 0 ≤ stArg (argV 97300000 t) K := Int.emod_nonneg _ (by decide)
  have A1 : stArg (argV 97300000 t) K < 1000000000000000 := Int.emod_lt_of_pos _ (by decide)
  have D0 : 0 ≤ stArgD K := Int.emod_nonneg _ (by decide)
  have D1 : stArgD K < 1000000000000000 := Int.emod_lt_of_pos _ (by decide)
  have cp := st_cos K hK
  generalize angLo (stRa K) 97300000 [] 100 t = lo at *
  generalize angHi (stRa K) 97300000 [] 100 t = hi at *
  generalize stArg (argV 97300000 t) K = a at *
  have hlh : lo ≤ hi := by omega
  obtain ⟨k, k1, k2⟩ := kl_arg (lo := lo) (hi := hi) A0 A1 (by omega) (by
    have e : (a / 1000000 * 1048576 + a % 1000000 * 1048576 / 1000000 - lo * 1048576 + 2000) % 1048576000000000 = ((a / 1000000 * 1048576 + a % 1000000 * 1048576 / 1000000 - 100 * 1048576 - lo * 1048576 + 2000) % 1048576000000000 + 100 * 1048576) % 1048576000000000 := by omega
    rw [e]
    have h0 : 0 ≤ (a / 1000000 * 1048576 + a % 1000000 * 1048576 / 1000000 - 100 * 1048576 - lo * 1048576 + 2000) % 1048576000000000 := Int.emod_nonneg _ (by decide)
    have v7 : (a / 1000000 * 1048576 + a % 1000000 * 1048576 / 1000000 - 100 * 1048576 - lo * 1048576 + 2000) % 1048576000000000 ≤ (hi - lo - 2 * 100) * 1048576 + 4000 := v6
    generalize (a / 1000000 * 1048576 + a % 1000000 * 1048576 / 1000000 - 100 * 1048576 - lo * 1048576 + 2000) % 1048576000000000 = X at *
    have hX : X + 100 * 1048576 < 1048576000000000 := by omega
    rw [Int.emod_eq_of_lt (by omega) hX]
    omega)
  obtain ⟨z0, z1⟩ := zA_bd A0 A1
  obtain ⟨d0, d1⟩ := zA_bd D0 D1
  obtain ⟨s1, s2⟩ := sc_zA A0 A1
  obtain ⟨s3, s4⟩ := sc_zA D0 D1
  have n1 := sc_one z0 z1
  have n2 := sc_one d0 d1
  have w1 : rabs (S (tq * zA a)) ≤ 1 + 1 / 1000000 := by have := n1.1; grind
  have w2 : rabs (C (tq * zA a)) ≤ 1 + 1 / 1000000 := by have := n1.2; grind
  have w3 : rabs (C (tq * zA (stArgD K))) ≤ 1 + 1 / 1000000 := by have := n2.2; grind
  have w3' := rabs_le.1 w3
  have Y := fm_two s4 s1 (by grind) (by grind) w3 w1
  have X := fm_two s4 s2 (by grind) (by grind) w3 w2
  have bx : rabs (C (tq * zA (stArgD K)) * C (tq * zA a)) ≤ 1 + 1 / 1000000 := by have := mul_rabs n2.2 n1.2; grind
  have by' : rabs (C (tq * zA (stArgD K)) * S (tq * zA a)) ≤ 1 + 1 / 1000000 := by have := mul_rabs n2.2 n1.1; grind
  have FX := fine_bd (n := fm (sc (stArgD K)).2 (sc a).2) (by grind) bx
  have FY := fine_bd (n := fm (sc (stArgD K)).2 (sc a).1) (by grind) by'
  have FZ := fine_bd (n := (sc (stArgD K)).1) (x := S (tq * zA (stArgD K))) (by grind) (by have := n2.1; grind)
  have np := near_point (lo := lo) (hi := hi) (k := k) (z := zA a) (r := 1000000000 * C (tq * zA (stArgD K))) v1 v2 hlh (by omega) z0 z1 k1 k2 (by grind) (by grind)
  have hm := emod_bd hi
  refine ⟨v1, v2, hlh, by omega, ?_, ?_, FX.2, FY.2, FZ.2⟩
  · refine inArc_near v1 v2 hm.1 hm.2 np ?_ ?_ FY.1 FX.1
    · rw [show 1000000000 * C (tq * zA (stArgD K)) * S (tq * zA a) / 1000000000 = C (tq * zA (stArgD K)) * S (tq * zA a) by grind]; grind
    · rw [show 1000000000 * C (tq * zA (stArgD K)) * C (tq * zA a) / 1000000000 = C (tq * zA (stArgD K)) * C (tq * zA a) by grind]; grind
  · have dec : ∀ k < 8, siU (stDec k - 100) ≤ S (tq * zA (stArgD k)) + 3 / 1000000000 ∧ S (tq * zA (stArgD k)) ≤ siU (stDec k + 100) + 3 / 1000000000 := by decide +kernel
    obtain ⟨e1, e2⟩ := dec K hK
    exact inAsin_of (x := S (tq * zA (stArgD K))) (by grind) e1 e2
theorem vega_zero : angLo 775650000 97300000 [] 100 0 ≤ 775650000 ∧ 775650000 ≤ angHi 775650000 97300000 [] 100 0 ∧ angHi 775650000 97300000 [] 100 0 - angLo 775650000 97300000 [] 100 0 ≤ 201 := by decide +kernel
end
end Go.Proofs.YtcgnhnmigmdalaaDoor
