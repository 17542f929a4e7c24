/- The stars: what the reference tests. No program in sight. -/
import Derived.Test.YtcgnhnmigmdalaaDoorWalkSt2
import Derived.Test.YtcgnhnmigmdalaaDoorPlainPt
import Derived.Test.YtcgnhnmigmdalaaDoorSmA
set_option linter.unusedVariables false
set_option linter.unusedSimpArgs false
namespace Go.Proofs.YtcgnhnmigmdalaaDoor
open Ieee
theorem star_whole {m r t : Int} (m0 : 0 ≤ m) (m1 : m < 1000000000) : wholeV m r [] t = (argV r t + m * 1000000) % 1000000000000000 / 1000000 * 1048576 + (argV r t + m * 1000000) % 1000000000000000 % 1000000 * 1048576 / 1000000 := by
  obtain ⟨a0, a1⟩ := argV_bd r t
  have e : refAt m [] t ([] : List Tm).length = m * 1048576 := rfl
  unfold wholeV
  rw [e]
  generalize argV r t = a at *
  have e1 : (a + m * 1000000) % 1000000000000000 = 1000000 * ((a / 1000000 + m) % 1000000000) + a % 1000000 := by omega
  have q0 : 0 ≤ a / 1000000 := by omega
  have q1 : a / 1000000 < 1000000000 := by omega
  have r0 : 0 ≤ a % 1000000 := by omega
  have r1 : a % 1000000 < 1000000 := by omega
  rw [e1]
  generalize a / 1000000 = q at *
  generalize a % 1000000 = ρ at *
  clear e1 a0 a1 e
  have e2 : (1000000 * ((q + m) % 1000000000) + ρ) / 1000000 = (q + m) % 1000000000 := by omega
  have e3 : (1000000 * ((q + m) % 1000000000) + ρ) % 1000000 = ρ := by omega
  rw [e2, e3]
  have f0 : 0 ≤ ρ * 1048576 / 1000000 := by omega
  have f1 : ρ * 1048576 / 1000000 < 1048576 := by omega
  generalize ρ * 1048576 / 1000000 = f at *
  clear e2 e3 r0 r1
  by_cases h : q + m < 1000000000
  · have e4 : (q + m) % 1000000000 = q + m := Int.emod_eq_of_lt (by omega) h
    have e5 : (m * 1048576 + q * 1048576 + f) % 1048576000000000 = m * 1048576 + q * 1048576 + f := Int.emod_eq_of_lt (by omega) (by omega)
    rw [e4, e5]; omega
  · have e4 : (q + m) % 1000000000 = q + m - 1000000000 := by omega
    have e5 : (m * 1048576 + q * 1048576 + f) % 1048576000000000 = m * 1048576 + q * 1048576 + f - 1048576000000000 := by omega
    rw [e4, e5]; omega
/-- The angle of an argument is held by an interval that holds its whole sum. -/
theorem kl_arg {a lo hi : Int} (a0 : 0 ≤ a) (a1 : a < 1000000000000000) (hn : hi - lo ≤ 100000000) (h : (a / 1000000 * 1048576 + a % 1000000 * 1048576 / 1000000 - lo * 1048576 + 2000) % 1048576000000000 ≤ (hi - lo) * 1048576 + 4000) : ∃ k : Int, (lo : Rat) - 1/500 ≤ zA a + (k : Rat) * 1000000000 ∧ zA a + (k : Rat) * 1000000000 ≤ (hi : Rat) + 1/500 := by
  generalize hm : a / 1000000 * 1048576 + a % 1000000 * 1048576 / 1000000 = m at *
  have b1 : m * 1000000 ≤ a * 1048576 := by omega
  have b2 : a * 1048576 < m * 1000000 + 1000000 := by omega
  refine ⟨-((m - lo * 1048576 + 2000) / 1048576000000000), ?_⟩
  have e := Int.emod_add_mul_ediv (m - lo * 1048576 + 2000) 1048576000000000
  have r0 := Int.emod_nonneg (m - lo * 1048576 + 2000) (show (1048576000000000 : Int) ≠ 0 by decide)
  generalize (m - lo * 1048576 + 2000) / 1048576000000000 = q at *
  generalize (m - lo * 1048576 + 2000) % 1048576000000000 = r at *
  have c1 := icast (show lo * 1048576 - 2000 ≤ m - 1048576000000000 * q by omega)
  have c2 := icast (show m - 1048576000000000 * q ≤ hi * 1048576 + 2000 by omega)
  have c3 := icast b1
  have c4 := icast (show a * 1048576 ≤ m * 1000000 + 1000000 by omega)
  push_cast at c1 c2 c3 c4
  push_cast
  unfold zA
  constructor <;> grind
/-- A star's cosine of the declination. -/
theorem st_cos : ∀ k < 8, 0 ≤ C (tq * zA (stArgD k)) := by decide +kernel
theorem star_facts (K : Nat) (hK : K < 8) (t : Int) : 0 ≤ angLo (stRa K) 97300000 [] 100 t ∧ angLo (stRa K) 97300000 [] 100 t < 1000000000 ∧ angLo (stRa K) 97300000 [] 100 t ≤ angHi (stRa K) 97300000 [] 100 t ∧ angHi (stRa K) 97300000 [] 100 t - angLo (stRa K) 97300000 [] 100 t ≤ 201 ∧
    InArcOk (angLo (stRa K) 97300000 [] 100 t) (angHi (stRa K) 97300000 [] 100 t % 1000000000) (fm (sc (stArgD K)).2 (sc (stArg (argV 97300000 t) K)).1) (fm (sc (stArgD K)).2 (sc (stArg (argV 97300000 t) K)).2) ∧
    InAsin (stDec K - 100) (stDec K + 100) (sc (stArgD K)).1 ∧
    (-1160000000000000000 ≤ fm (sc (stArgD K)).2 (sc (stArg (argV 97300000 t) K)).2 ∧ fm (sc (stArgD K)).2 (sc (stArg (argV 97300000 t) K)).2 ≤ 1160000000000000000) ∧ (-1160000000000000000 ≤ fm (sc (stArgD K)).2 (sc (stArg (argV 97300000 t) K)).1 ∧ fm (sc (stArgD K)).2 (sc (stArg (argV 97300000 t) K)).1 ≤ 1160000000000000000) ∧ (-1160000000000000000 ≤ (sc (stArgD K)).1 ∧ (sc (stArgD K)).1 ≤ 1160000000000000000) := by
  obtain ⟨g1, g2, g3, g4⟩ := st_rng K hK
  have hs := sumOk_of (st_sum K hK)
  obtain ⟨v1, v2, v3, v4, v5⟩ := ang_contains (inst := t) hs
  have v6 := ang_contains2 (inst := t) hs (by decide)
  have hb : bndAt 100 [] = 200 := by decide +kernel
  rw [hb] at v4
  rw [star_whole g1 g2] at v6
  have eA : (argV 97300000 t + stRa K * 1000000) % 1000000000000000 = stArg (argV 97300000 t) K := rfl
  rw [eA] at v6
  have A0 : 0 ≤ stArg (argV 97300000 t) K := Int.emod_nonneg _ (by decide)
  have A1 : stArg (argV 97300000 t) K < 1000000000000000 := Int.emod_lt_of_pos _ (by decide)
  have D0 : 0 ≤ stArgD K := Int.emod_nonneg _ (by decide)
  have D1 : stArgD K < 1000000000000000 := Int.emod_lt_of_pos _ (by decide)
  have cp := st_cos K hK
  generalize angLo (stRa K) 97300000 [] 100 t = lo at *
  generalize angHi (stRa K) 97300000 [] 100 t = hi at *
  generalize stArg (argV 97300000 t) K = a at *
  have hlh : lo ≤ hi := by omega
  obtain ⟨k, k1, k2⟩ := kl_arg (lo := lo) (hi := hi) A0 A1 (by omega) (by
    have e : (a / 1000000 * 1048576 + a % 1000000 * 1048576 / 1000000 - lo * 1048576 + 2000) % 1048576000000000 = ((a / 1000000 * 1048576 + a % 1000000 * 1048576 / 1000000 - 100 * 1048576 - lo * 1048576 + 2000) % 1048576000000000 + 100 * 1048576) % 1048576000000000 := by omega
    rw [e]
    have h0 : 0 ≤ (a / 1000000 * 1048576 + a % 1000000 * 1048576 / 1000000 - 100 * 1048576 - lo * 1048576 + 2000) % 1048576000000000 := Int.emod_nonneg _ (by decide)
    have v7 : (a / 1000000 * 1048576 + a % 1000000 * 1048576 / 1000000 - 100 * 1048576 - lo * 1048576 + 2000) % 1048576000000000 ≤ (hi - lo - 2 * 100) * 1048576 + 4000 := v6
    generalize (a / 1000000 * 1048576 + a % 1000000 * 1048576 / 1000000 - 100 * 1048576 - lo * 1048576 + 2000) % 1048576000000000 = X at *
    have hX : X + 100 * 1048576 < 1048576000000000 := by omega
    rw [Int.emod_eq_of_lt (by omega) hX]
    omega)
  obtain ⟨z0, z1⟩ := zA_bd A0 A1
  obtain ⟨d0, d1⟩ := zA_bd D0 D1
  obtain ⟨s1, s2⟩ := sc_zA A0 A1
  obtain ⟨s3, s4⟩ := sc_zA D0 D1
  have n1 := sc_one z0 z1
  have n2 := sc_one d0 d1
  have w1 : rabs (S (tq * zA a)) ≤ 1 + 1 / 1000000 := by have := n1.1; grind
  have w2 : rabs (C (tq * zA a)) ≤ 1 + 1 / 1000000 := by have := n1.2; grind
  have w3 : rabs (C (tq * zA (stArgD K))) ≤ 1 + 1 / 1000000 := by have := n2.2; grind
  have w3' := rabs_le.1 w3
  have Y := fm_two s4 s1 (by grind) (by grind) w3 w1
  have X := fm_two s4 s2 (by grind) (by grind) w3 w2
  have bx : rabs (C (tq * zA (stArgD K)) * C (tq * zA a)) ≤ 1 + 1 / 1000000 := by have := mul_rabs n2.2 n1.2; grind
  have by' : rabs (C (tq * zA (stArgD K)) * S (tq * zA a)) ≤ 1 + 1 / 1000000 := by have := mul_rabs n2.2 n1.1; grind
  have FX := fine_bd (n := fm (sc (stArgD K)).2 (sc a).2) (by grind) bx
  have FY := fine_bd (n := fm (sc (stArgD K)).2 (sc a).1) (by grind) by'
  have FZ := fine_bd (n := (sc (stArgD K)).1) (x := S (tq * zA (stArgD K))) (by grind) (by have := n2.1; grind)
  have np := near_point (lo := lo) (hi := hi) (k := k) (z := zA a) (r := 1000000000 * C (tq * zA (stArgD K))) v1 v2 hlh (by omega) z0 z1 k1 k2 (by grind) (by grind)
  have hm := emod_bd hi
  refine ⟨v1, v2, hlh, by omega, ?_, ?_, FX.2, FY.2, FZ.2⟩
  · refine inArc_near v1 v2 hm.1 hm.2 np ?_ ?_ FY.1 FX.1
    · rw [show 1000000000 * C (tq * zA (stArgD K)) * S (tq * zA a) / 1000000000 = C (tq * zA (stArgD K)) * S (tq * zA a) by grind]; grind
    · rw [show 1000000000 * C (tq * zA (stArgD K)) * C (tq * zA a) / 1000000000 = C (tq * zA (stArgD K)) * C (tq * zA a) by grind]; grind
  · have dec : ∀ k < 8, siU (stDec k - 100) ≤ S (tq * zA (stArgD k)) + 3 / 1000000000 ∧ S (tq * zA (stArgD k)) ≤ siU (stDec k + 100) + 3 / 1000000000 := by decide +kernel
    obtain ⟨e1, e2⟩ := dec K hK
    exact inAsin_of (x := S (tq * zA (stArgD K))) (by grind) e1 e2
theorem vega_zero : angLo 775650000 97300000 [] 100 0 ≤ 775650000 ∧ 775650000 ≤ angHi 775650000 97300000 [] 100 0 ∧ angHi 775650000 97300000 [] 100 0 - angLo 775650000 97300000 [] 100 0 ≤ 201 := by decide +kernel
end Go.Proofs.YtcgnhnmigmdalaaDoor
