/- The part of the moon that is lit. No program in sight. -/
import Derived.Test.YtplhegjgkmabiaaDoorPlainLun
set_option linter.unusedVariables false
set_option linter.unusedSimpArgs false
namespace Go.Proofs.YtplhegjgkmabiaaDoor
open Ieee
def litCl (t : Int) : Int := sovLo (elLo t + 250000000) (elLo t + 250000000 + (elHi t - elLo t))
def litCh (t : Int) : Int := sovHi (elLo t + 250000000) (elLo t + 250000000 + (elHi t - elLo t))
def litLo (t : Int) : Int := (1000000000 - litCh t) / 2
def litHi (t : Int) : Int := -(-(1000000000 - litCl t) / 2)
theorem el_bd (t : Int) : 0 ≤ elLo t ∧ elLo t < 1000000000 ∧ elLo t ≤ elHi t ∧ elHi t - elLo t ≤ 44006 := by
  obtain ⟨a, b⟩ := el_lift t
  have w := el_wd t
  omega
theorem lit_over (t : Int) : OverOk (elLo t + 250000000) (elLo t + 250000000 + (elHi t - elLo t)) (litCl t) (litCh t) := over_ok _ _ (by have := el_bd t; omega)
theorem lit_bd (t : Int) : -1000000000 ≤ litCl t ∧ litCl t ≤ litCh t ∧ litCh t ≤ 1000000000 ∧ 0 ≤ litLo t ∧ litLo t ≤ litHi t ∧ litHi t ≤ 1000000000 ∧ litHi t - litLo t ≤ 160000 := by
  have o := lit_over t
  have e := el_bd t
  have o1 := o.b0
  have o2 := o.b1
  have o3 := o.o
  have w := o.w
  have hw : litCh t - litCl t ≤ 280000 := by
    have d0 : ((elLo t + 250000000 + (elHi t - elLo t) - (elLo t + 250000000) : Int) : Rat) ≤ ((44006 : Int) : Rat) := icast (by omega)
    have c0 : ((44006 : Int) : Rat) = 44006 := rfl
    rw [c0] at d0
    refine Rat.intCast_le_intCast.1 ?_
    have c1 : ((280000 : Int) : Rat) = 280000 := rfl
    rw [c1]
    grind
  unfold litLo litHi
  omega
theorem lit_unit {t m1 m2 : Int} (h1 : MLon t m1) (h2 : SLon t m2) :
    ∃ n : Int, elLo t - 1 ≤ n ∧ n ≤ elHi t ∧ (m1 - m2) % 1048576000000000 / 1048576 = n % 1000000000 := by
  have e := el_bd t
  obtain ⟨n1, p1, p2, rfl⟩ := h1
  obtain ⟨n2, p3, p4, rfl⟩ := h2
  have c := el_contains t n1 n2 p1 p2 p3 p4
  generalize (moonW t + 2500 * n1 * 1048576) % 1048576000000000 = u at *
  generalize (sunW t + 250 * n2 * 1048576) % 1048576000000000 = v at *
  have k0 := Int.emod_nonneg ((u - v) % 1048576000000000 - 0 * 1048576 - elLo t * 1048576 + 8192) (show (1048576000000000 : Int) ≠ 0 by omega)
  obtain ⟨K, hK⟩ : ∃ K, K = ((u - v) % 1048576000000000 - 0 * 1048576 - elLo t * 1048576 + 8192) % 1048576000000000 := ⟨_, rfl⟩
  rw [← hK] at c k0
  exact ⟨(elLo t * 1048576 - 8192 + K) / 1048576, by omega, by omega, by omega⟩
theorem lit_ok {t m1 m2 : Int} (h1 : MLon t m1) (h2 : SLon t m2) :
    UnitOk (litLo t - 10) (litHi t + 10) (576460752303423488 - (sc ((m1 - m2) % 1048576000000000 / 1048576 * 1000000)).2.tdiv 2) := by
  have e := el_bd t
  obtain ⟨n, n0, n1, hn⟩ := lit_unit h1 h2
  rw [hn]
  obtain ⟨b0, b1⟩ := emod_bd n
  have sa := (sc_ang b0 b1).2
  have cs := rabs_le.1 (siU_cos b0 b1)
  have e1 : siU (n % 1000000000 + 250000000) = siU (n + 250000000) := by unfold siU; rw [show (n % 1000000000 + 250000000) % 1000000000 = (n + 250000000) % 1000000000 by omega]
  rw [e1] at cs
  have o := lit_over t
  have hb : (litCl t : Rat) ≤ 1000000000 * siU (n + 250000000) + 65 / 10 ∧ 1000000000 * siU (n + 250000000) ≤ (litCh t : Rat) + 65 / 10 := by
    by_cases c : elLo t ≤ n
    · have c1 := o.c1 (n + 250000000) (by omega) (by omega)
      have c2 := o.c2 (n + 250000000) (by omega) (by omega)
      constructor <;> grind
    · have en : n + 250000000 + 1 = elLo t + 250000000 := by omega
      have st := rabs_le.1 (siU_step (n + 250000000))
      rw [en] at st
      have c1 := o.c1 (elLo t + 250000000) (by omega) (by omega)
      have c2 := o.c2 (elLo t + 250000000) (by omega) (by omega)
      generalize siU (elLo t + 250000000) = a at *
      generalize siU (n + 250000000) = b at *
      constructor <;> grind
  have q1 : 2 * litLo t ≤ 1000000000 - litCh t := by unfold litLo; omega
  have q2 : 1000000000 - litCl t ≤ 2 * litHi t := by unfold litHi; omega
  have q1 : ((2 * litLo t : Int) : Rat) ≤ ((1000000000 - litCh t : Int) : Rat) := icast q1
  have q2 : ((1000000000 - litCl t : Int) : Rat) ≤ ((2 * litHi t : Int) : Rat) := icast q2
  obtain ⟨s, hs⟩ : ∃ s, s = (sc (n % 1000000000 * 1000000)).2 := ⟨_, rfl⟩
  rw [← hs] at sa ⊢
  have td : 2 * s.tdiv 2 ≤ s + 1 ∧ s ≤ 2 * s.tdiv 2 + 1 := by
    rcases Int.le_total 0 s with h | h
    · rw [Int.tdiv_eq_ediv_of_nonneg h]; omega
    · have e3 : s.tdiv 2 = -((-s).tdiv 2) := by rw [Int.neg_tdiv]; omega
      rw [e3, Int.tdiv_eq_ediv_of_nonneg (by omega)]; omega
  have t1 : ((2 * s.tdiv 2 : Int) : Rat) ≤ ((s + 1 : Int) : Rat) := icast td.1
  have t2 : ((s : Int) : Rat) ≤ ((2 * s.tdiv 2 + 1 : Int) : Rat) := icast td.2
  have hu : uQ = 1152921504606846976 := by decide +kernel
  have sa := rabs_le.1 sa
  push_cast at q1 q2 t1 t2
  generalize C (angU (n % 1000000000)) = x at *
  generalize siU (n + 250000000) = z at *
  refine unit_ok (x := 1 / 2 - x / 2) ?_ ?_ ?_
  · have e2 : ((576460752303423488 - s.tdiv 2 : Int) : Rat) = 576460752303423488 - ((s.tdiv 2 : Int) : Rat) := by push_cast; rfl
    rw [e2, hu, rabs_le]
    rw [hu] at sa
    constructor <;> grind
  · push_cast
    grind
  · push_cast
    grind
end Go.Proofs.YtplhegjgkmabiaaDoor
