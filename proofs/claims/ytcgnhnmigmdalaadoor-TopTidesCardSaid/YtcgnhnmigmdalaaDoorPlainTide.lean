/- The tide: its interval holds the reference's height and is narrow. No program in sight. -/
import Derived.Test.YtcgnhnmigmdalaaDoorTdA
import Derived.Test.YtcgnhnmigmdalaaDoorPlainPt
import Derived.Test.YtcgnhnmigmdalaaDoorSnA
set_option linter.unusedVariables false
set_option linter.unusedSimpArgs false
namespace Go.Proofs.YtcgnhnmigmdalaaDoor
open Ieee
/-- The reference's part of a constituent. -/
def tdRef (x : Tm) (t : Int) : Int := prt x.amp (sc (refArg x t % 1000000000000000)).2
def tdSum (l : List Tm) (t : Int) (k : Nat) : Int := (l.take k).foldl (fun n x => n + tdRef x t) 0
theorem tdSum_snoc (l : List Tm) (t : Int) (k : Nat) (h : k < l.length) : tdSum l t (k + 1) = tdSum l t k + tdRef l[k] t := by
  unfold tdSum
  rw [List.take_succ_eq_append_getElem h, List.foldl_append]
  rfl
theorem tdSum_zero (l : List Tm) (t : Int) : tdSum l t 0 = 0 := rfl
/-- A quarter of a turn ahead the sine is the cosine. -/
theorem quarter_ahead {z y : Rat} {j : Int} (z0 : 0 ≤ z) (z1 : z ≤ 1000000000) (y0 : 0 ≤ y) (y1 : y ≤ 1000000000) (h : y = z + 250000000 - (j : Rat) * 1000000000) : rabs (S (tq * y) - C (tq * z)) ≤ 3 / 1000000000000 := by
  have q := sc_further (a := z) (z := y) (δ := 250000000) (k := j) z0 z1 y0 y1 (by grind) (by grind) (by grind)
  have q2 := tq_quarter
  rw [q2] at q
  obtain ⟨-, -, p3, p4, -⟩ := at_pi
  have b := sc_one z0 z1
  have q := rabs_le.1 q.1
  have m1 := rabs_le.1 (mul_rabs b.1 p4)
  have m2 := rabs_le.1 (mul_rabs b.2 p3)
  generalize S (piQ / 2) = sp at *
  generalize C (piQ / 2) = cp at *
  rw [rabs_le]
  constructor <;> grind
theorem partA_rng (x : Tm) (t : Int) : 0 ≤ partA x t ∧ partA x t ≤ 1000000000 := by
  have m0 := Int.emod_nonneg (x.ph + grQ x.rt t) (show (1000000000 : Int) ≠ 0 by decide)
  have m1 := Int.emod_lt_of_pos (x.ph + grQ x.rt t) (show (0 : Int) < 1000000000 by decide)
  have r0 : 0 ≤ grR x.rt t := Int.emod_nonneg _ (by decide)
  have r1 : grR x.rt t < 86400000000000 := Int.emod_lt_of_pos _ (by decide)
  unfold partA
  generalize (x.ph + grQ x.rt t) % 1000000000 = m at *
  generalize grR x.rt t = r at *
  have a := icast m0
  have b := icast (show m ≤ 999999999 by omega)
  have c := icast r0
  have d := icast (show r ≤ 86400000000000 by omega)
  have c0 : ((0 : Int) : Rat) = 0 := rfl
  have c1 : ((999999999 : Int) : Rat) = 999999999 := rfl
  have c2 : ((86400000000000 : Int) : Rat) = 86400000000000 := rfl
  rw [c0] at a c
  rw [c1] at b
  rw [c2] at d
  constructor <;> grind
theorem partA_ahead (x : Tm) (t : Int) : ∃ j : Int, partA (tdS x) t = partA x t + 250000000 - (j : Rat) * 1000000000 := by
  have e1 : (tdS x).ph = (x.ph + 250000000) % 1000000000 := rfl
  have e2 : (tdS x).rt = x.rt := rfl
  unfold partA
  rw [e1, e2]
  generalize grQ x.rt t = q
  generalize ((grR x.rt t : Int) : Rat) / 86400000000000 = f
  obtain ⟨j, hj⟩ : ∃ j : Int, ((x.ph + 250000000) % 1000000000 + q) % 1000000000 = (x.ph + q) % 1000000000 + 250000000 - j * 1000000000 := by
    refine ⟨((x.ph + q) % 1000000000 + 250000000) / 1000000000, ?_⟩
    omega
  refine ⟨j, ?_⟩
  rw [hj]
  push_cast
  grind
theorem tdRef_near {x : Tm} {t : Int} (h : ¬ TdBad x) : rabs (((tdRef x t : Int) : Rat) - 1048576 * termX t (tdS x)) ≤ 2 := by
  obtain ⟨-, g0, g1⟩ := refArg_eq x t
  obtain ⟨n1, n2⟩ := arg_near x t
  obtain ⟨z0, z1⟩ := partA_rng x t
  obtain ⟨y0, y1⟩ := partA_rng (tdS x) t
  obtain ⟨j, hj⟩ := partA_ahead x t
  have qa := rabs_le.1 (quarter_ahead z0 z1 y0 y1 hj)
  have sz := (sc_zA g0 g1).2
  obtain ⟨b0, b1⟩ := zA_bd g0 g1
  have c0 : ((0 : Int) : Rat) = 0 := rfl
  have ez : zA (refArg x t % 1000000000000000) * 1000000 = ((refArg x t % 1000000000000000 : Int) : Rat) := by unfold zA; grind
  have tr := (sc_turns (z := partA x t) (b := zA (refArg x t % 1000000000000000)) (j := 0) (μ := 1/1000000) (by grind) (by grind) (by grind) (by grind) (by rw [c0, rabs_le]; constructor <;> grind) (by decide +kernel)).2
  have tr := rabs_le.1 tr
  obtain ⟨p1, p2⟩ := prt_near x.amp (sc (refArg x t % 1000000000000000)).2
  have ev : tdRef x t = prt x.amp (sc (refArg x t % 1000000000000000)).2 := rfl
  rw [← ev] at p1 p2
  have eT : termX t (tdS x) = (x.amp : Rat) * S (tq * partA (tdS x) t) := by
    have e1 : (tdS x).amp = x.amp := rfl
    unfold termX
    rw [e1]
    have e2 : 2 * piQ * partA (tdS x) t / 1000000000 = tq * partA (tdS x) t := by unfold tq; grind
    rw [e2]
  rw [eT]
  unfold TdBad at h
  have am := rabs_int (n := x.amp) (B := 20000) (by omega) (by omega)
  have ca : ((20000 : Int) : Rat) = 20000 := rfl
  rw [ca] at am
  have sz := rabs_le.1 sz
  have hu : uQ = 1152921504606846976 := rfl
  rw [hu] at sz
  clear hj ez n1 n2 h eT ev y0 y1 z0 z1 b0 b1
  generalize ((sc (refArg x t % 1000000000000000)).2 : Rat) = v at *
  generalize ((tdRef x t : Int) : Rat) = w at *
  generalize S (tq * partA (tdS x) t) = sy at *
  generalize C (tq * partA x t) = cz at *
  generalize C (tq * zA (refArg x t % 1000000000000000)) = ca at *
  generalize (x.amp : Rat) = a at *
  have hv : rabs (v - 1152921504606846976 * sy) ≤ 9000000 := rabs_le.2 ⟨by grind, by grind⟩
  have m := rabs_le.1 (mul_rabs am hv)
  rw [rabs_le]
  constructor <;> grind
theorem tdSum_near {l : List Tm} {t : Int} (h : ∀ x ∈ l, ¬ TdBad x) : ∀ k, k ≤ l.length → rabs (((tdSum l t k : Int) : Rat) - 1048576 * xAt (tdL l) t k) ≤ 2 * (k : Rat)
  | 0, _ => by
    have e0 : ((0 : Nat) : Rat) = 0 := rfl
    have e1 : ((tdSum l t 0 : Int) : Rat) = 0 := rfl
    have e2 : xAt (tdL l) t 0 = 0 := rfl
    rw [e0, e1, e2]; decide +kernel
  | k + 1, hk => by
    have ih := rabs_le.1 (tdSum_near (t := t) h k (by omega))
    have n := rabs_le.1 (tdRef_near (t := t) (h l[k] (List.getElem_mem hk)))
    have hl := tdL_len l
    rw [tdSum_snoc l t k hk, xAt_snoc (tdL l) t k (by omega)]
    have eg : (tdL l)[k]'(by omega) = tdS l[k] := List.getElem_map tdS
    rw [eg]
    rw [rabs_le]
    push_cast
    constructor <;> grind
/-- The tide's interval holds the reference's height. -/
theorem tide_holds {l : List Tm} (hv : tdE l = 0) (t : Int) : tdLo l t * 1048576 ≤ tdSum l t l.length + 8192 ∧ tdSum l t l.length ≤ tdHi l t * 1048576 + 8192 ∧ tdHi l t - tdLo l t ≤ 2 * l.length := by
  obtain ⟨h12, hb⟩ := td_of hv
  by_cases h0 : l.length = 0
  · have e1 : tdLo l t = 0 := by unfold tdLo; rw [if_pos h0]
    have e2 : tdHi l t = 0 := by unfold tdHi; rw [if_pos h0]
    rw [e1, e2, h0, tdSum_zero]; omega
  · have e1 : tdLo l t = arLo (vAt (tdL l) t l.length) := by unfold tdLo; rw [if_neg h0]
    have e2 : tdHi l t = arHi (vAt (tdL l) t l.length) := by unfold tdHi; rw [if_neg h0]
    have hl := tdL_len l
    obtain ⟨f1, f2, X1, X2, -, -, -, -, -, -, -, -, -, -, b1, b2, b3, b4⟩ := val_around (inst := t) (l := tdL l) (by rw [hl]; omega) (tdL_ok hb)
    rw [hl] at b1 b2 b3 b4
    rw [e1, e2]
    have n := rabs_le.1 (tdSum_near (t := t) hb l.length (Nat.le_refl _))
    have k12 : (l.length : Rat) ≤ 12 := by
      have : (l.length : Rat) ≤ ((12 : Nat) : Rat) := cast_le h12
      exact this
    have cancel : ∀ {a b : Int}, (a : Rat) ≤ (b : Rat) → a ≤ b := fun h => Rat.intCast_le_intCast.1 h
    refine ⟨cancel ?_, cancel ?_, ?_⟩
    · clear cancel; push_cast; grind
    · clear cancel; push_cast; grind
    · have : arHi (vAt (tdL l) t l.length) - arLo (vAt (tdL l) t l.length) ≤ 2 := by
        by_cases q : arHi (vAt (tdL l) t l.length) - arLo (vAt (tdL l) t l.length) ≤ 2
        · exact q
        · exfalso
          have := icast (show 3 ≤ arHi (vAt (tdL l) t l.length) - arLo (vAt (tdL l) t l.length) by omega)
          have c3 : ((3 : Int) : Rat) = 3 := rfl
          rw [c3] at this
          push_cast at this
          clear cancel
          grind
      omega
end Go.Proofs.YtcgnhnmigmdalaaDoor
