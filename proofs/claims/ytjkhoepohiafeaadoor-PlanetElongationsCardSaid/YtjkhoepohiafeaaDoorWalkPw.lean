/- The walk through planetWorks and the law PlanetHelios. -/
import Derived.Test.YtjkhoepohiafeaaDoorWalkPh
import Derived.Test.YtjkhoepohiafeaaDoorWalkNm
set_option linter.unusedVariables false
set_option linter.unusedSimpArgs false
set_option maxRecDepth 100000
namespace Go.Proofs.YtjkhoepohiafeaaDoor
open Go.RowKit
/-- The argument of the reference, in the unit of its sums, is the whole sum without terms. -/
theorem helio_whole {m r t : Int} (m0 : 0 ≤ m) (m1 : m < 1000000000) : wholeV m r [] t = (argV r t + m * 1000000) % 1000000000000000 / 1000000 * 1048576 + (argV r t + m * 1000000) % 1000000000000000 % 1000000 * 1048576 / 1000000 := by
  obtain ⟨a0, a1⟩ := argV_bd r t
  have e : refAt m [] t ([] : List Tm).length = m * 1048576 := rfl
  unfold wholeV
  rw [e]
  generalize argV r t = a at *
  have e1 : (a + m * 1000000) % 1000000000000000 = 1000000 * ((a / 1000000 + m) % 1000000000) + a % 1000000 := by omega
  have q0 : 0 ≤ a / 1000000 := by omega
  have q1 : a / 1000000 < 1000000000 := by omega
  have r0 : 0 ≤ a % 1000000 := by omega
  have r1 : a % 1000000 < 1000000 := by omega
  rw [e1]
  generalize a / 1000000 = q at *
  generalize a % 1000000 = ρ at *
  clear e1 a0 a1 e
  have e2 : (1000000 * ((q + m) % 1000000000) + ρ) / 1000000 = (q + m) % 1000000000 := by omega
  have e3 : (1000000 * ((q + m) % 1000000000) + ρ) % 1000000 = ρ := by omega
  rw [e2, e3]
  have f0 : 0 ≤ ρ * 1048576 / 1000000 := by omega
  have f1 : ρ * 1048576 / 1000000 < 1048576 := by omega
  generalize ρ * 1048576 / 1000000 = f at *
  clear e2 e3 r0 r1
  by_cases h : q + m < 1000000000
  · have e4 : (q + m) % 1000000000 = q + m := Int.emod_eq_of_lt (by omega) h
    have e5 : (m * 1048576 + q * 1048576 + f) % 1048576000000000 = m * 1048576 + q * 1048576 + f := Int.emod_eq_of_lt (by omega) (by omega)
    rw [e4, e5]; omega
  · have e4 : (q + m) % 1000000000 = q + m - 1000000000 := by omega
    have e5 : (m * 1048576 + q * 1048576 + f) % 1048576000000000 = m * 1048576 + q * 1048576 + f - 1048576000000000 := by omega
    rw [e4, e5]; omega
theorem helio_facts {m r t : Int} (m0 : 0 ≤ m) (m1 : m < 1000000000) (he : sumE m r [] 5000 = 0) : 0 ≤ angLo m r [] 5000 t ∧ angLo m r [] 5000 t < 1000000000 ∧
    ((argV r t + m * 1000000) % 1000000000000000 / 1000000 * 1048576 + (argV r t + m * 1000000) % 1000000000000000 % 1000000 * 1048576 / 1000000 - 5000 * 1048576 - angLo m r [] 5000 t * 1048576 + 8192) % 1048576000000000 ≤ (angHi m r [] 5000 t - angLo m r [] 5000 t - 2 * 5000) * 1048576 + 16384 ∧
    angHi m r [] 5000 t - angLo m r [] 5000 t ≤ 10001 ∧ 0 ≤ ((argV r t + m * 1000000) % 1000000000000000 / 1000000 * 1048576 + (argV r t + m * 1000000) % 1000000000000000 % 1000000 * 1048576 / 1000000 - 5000 * 1048576 - angLo m r [] 5000 t * 1048576 + 8192) % 1048576000000000 := by
  obtain ⟨v1, v2, v3, v4, v5⟩ := ang_contains (inst := t) (sumOk_of he)
  rw [helio_whole m0 m1] at v3
  have hb : bndAt 5000 [] = 10000 := by decide +kernel
  rw [hb] at v4
  exact ⟨v1, v2, v3, by omega, Int.emod_nonneg _ (by decide)⟩
theorem mars_zero : angLo 214414189 1455613000000 [] 5000 0 ≤ 214414189 ∧ 214414189 ≤ angHi 214414189 1455613000000 [] 5000 0 ∧ angHi 214414189 1455613000000 [] 5000 0 - angLo 214414189 1455613000000 [] 5000 0 ≤ 10001 := by
  obtain ⟨l0, l1, h, hw, h0⟩ := helio_facts (m := 214414189) (r := 1455613000000) (t := 0) (by decide) (by decide) (by decide +kernel)
  have e : argV 1455613000000 0 = 0 := by decide +kernel
  rw [e] at h h0
  generalize angLo 214414189 1455613000000 [] 5000 0 = lo at *
  generalize angHi 214414189 1455613000000 [] 5000 0 = hi at *
  omega
theorem c_planetWorks (w : World) (hT : Tab w) (hP : PTab w) : Calls Tryd.prog 20 #[] w fun e w' => e = .returned (.bool true) ∧ Below w.heap.size w w' := by
  obtain ⟨a1, a2, a3⟩ := mars_zero
  have HL := Lib.hid (fun w1 (h : Tab w1) (hp : PTab w1) => c_Helio2 ⟨#[109, 97, 114, 115]⟩ 0 w1 h hp (by decide +kernel) (by decide +kernel) (by decide +kernel) (by decide +kernel))
  have HR := Lib.hid (fun w1 (hp : PTab w1) => c_Radius2 ⟨#[109, 97, 114, 115]⟩ w1 hp (by decide +kernel) (by decide +kernel) (by decide +kernel))
  have HN := Lib.hid (fun w1 (hp : PTab w1) => c_Names w1 hp)
  have HT := Lib.hid hT
  have HP := Lib.hid hP
  clear hT hP
  generalize angLo 214414189 1455613000000 [] 5000 0 = lo at *
  generalize angHi 214414189 1455613000000 [] 5000 0 = hi at *
  have H1 := Lib.hid (fun w1 => c_has1 lo hi 214414189 10001 w1 a1 a2 a3 (by omega) (by omega))
  have hgen := sgen; have hgen2 := sgen2; have hgen3 := sgen3; go_enter Tryd.func20, Tryd.ntmps20
  go_wp2_with (first | (go_at_call 45; (refine (HL.out _ (HT.out.below (by exact belz)) (HP.out.below (by exact belz))).mono ?_); rintro e w1 ⟨rfl, hb⟩; have hz := hb.size; (try simp only [szA, szS, szD, szN] at hz); (try (refine bcB (n := w.heap.size) hb ?_; intro h_w_0 e_w_0 d_w_0 _ _))) | (go_at_call 46; (refine (HR.out _ (HP.out.below (by exact belz))).mono ?_); rintro e w2 ⟨rfl, hb⟩; have hz := hb.size; (try simp only [szA, szS, szD, szN] at hz); (try (refine bcB (n := w.heap.size) hb ?_; intro h_w_0 e_w_0 d_w_0 _ _)); (try (refine bcB (n := w1.heap.size) hb ?_; intro h_w1_0 e_w1_0 d_w1_0 _ _))) | (go_at_call 40; (refine (H1.out _).mono ?_); rintro e w3 ⟨rfl, hb⟩; have hz := hb.size; (try simp only [szA, szS, szD, szN] at hz); (try (refine bcB (n := w.heap.size) hb ?_; intro h_w_0 e_w_0 d_w_0 _ _)); (try (refine bcB (n := w1.heap.size) hb ?_; intro h_w1_0 e_w1_0 d_w1_0 _ _)); (try (refine bcB (n := w2.heap.size) hb ?_; intro h_w2_0 e_w2_0 d_w2_0 _ _))) | (go_at_call 47; (refine (HN.out _ (HP.out.below (by exact belz))).mono ?_); rintro e w4 ⟨a, cap, rfl, hb⟩; have hz := hb.size; (try simp only [szA, szS, szD, szN] at hz); (try (refine bcB (n := w.heap.size) hb ?_; intro h_w_0 e_w_0 d_w_0 _ _)); (try (refine bcB (n := w1.heap.size) hb ?_; intro h_w1_0 e_w1_0 d_w1_0 _ _)); (try (refine bcB (n := w2.heap.size) hb ?_; intro h_w2_0 e_w2_0 d_w2_0 _ _)); (try (refine bcB (n := w3.heap.size) hb ?_; intro h_w3_0 e_w3_0 d_w3_0 _ _))))
  go_ret
  refine ⟨rfl, ?_⟩
  exact belz
end Go.Proofs.YtjkhoepohiafeaaDoor
