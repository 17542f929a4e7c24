/- The intervals of the astrolabe and the reference's test of quotients. No program in sight. -/
import Derived.Test.YtjkhoepohiafeaaDoorPlainAst
import Derived.Test.YtjkhoepohiafeaaDoorPlainLook2
set_option linter.unusedVariables false
set_option linter.unusedSimpArgs false
namespace Go.Proofs.YtjkhoepohiafeaaDoor
open Ieee
def wMio : Nat := 4696837146684686336
theorem wMio_num : cv wMio = 1000000 ∧ isNum wMio = true := by decide +kernel
/-- The sine and the cosine of an angle of either sign lie on the circle. -/
theorem ast_circ {a : Int} (h0 : -1000000000 ≤ a) (h1 : a ≤ 1000000000) : rabs (S (angU a) * S (angU a) + C (angU a) * C (angU a) - 1) ≤ 1 / 100000000000 ∧ rabs (S (angU a)) ≤ 1 + 1 / 100000000000 ∧ rabs (C (angU a)) ≤ 1 + 1 / 100000000000 := by
  have pos : ∀ b : Int, 0 ≤ b → b ≤ 1000000000 → rabs (S (angU b) * S (angU b) + C (angU b) * C (angU b) - 1) ≤ 1 / 100000000000 ∧ rabs (S (angU b)) ≤ 1 + 1 / 100000000000 ∧ rabs (C (angU b)) ≤ 1 + 1 / 100000000000 := by
    intro b b0 b1
    have z0 : ((0 : Int) : Rat) = 0 := rfl
    have z1 : ((1000000000 : Int) : Rat) = 1000000000 := rfl
    have B0 := icast b0
    have B1 := icast b1
    rw [z0] at B0
    rw [z1] at B1
    rw [angU_tq]
    exact ⟨circT B0 B1, (sc_one B0 B1).1, (sc_one B0 B1).2⟩
  by_cases h : 0 ≤ a
  · exact pos a h h1
  · have p := pos (-a) (by omega) (by omega)
    rw [angU_neg, S_neg, C_neg, rabs_neg] at p
    rw [show S (angU a) * S (angU a) = -S (angU a) * -S (angU a) by grind]
    exact p
theorem siU_195 : siU 195000000 ≤ 941 / 1000 ∧ siU 0 = 0 := by decide +kernel
theorem one_sin {a : Int} (h0 : -195000000 ≤ a) (h1 : a ≤ 250000000) : 588 / 10000 ≤ 1 + S (angU a) := by
  by_cases h : 0 ≤ a
  · have k := S_up2 (x := angU a) (by have := angU_le h; have e : angU 0 = 0 := by decide +kernel
                                      grind) (by have := angU_le h1; have e : angU 250000000 ≤ piQ := by decide +kernel
                                                 grind)
    grind
  · obtain ⟨q1, q2⟩ := siU_195
    have k := siU_high (lo := 0) (hi := 195000000) (n := -a) (by omega) (by omega) (by decide)
    have e : siU (-a) = S (angU (-a)) := by unfold siU; rw [Int.emod_eq_of_lt (by omega) (by omega)]
    rw [e, angU_neg, S_neg] at k
    rcases k with k | k <;> grind
theorem tan_bd {s c : Rat} (hc : rabs (s * s + c * c - 1) ≤ 1 / 100000000000) (h : 588 / 10000 ≤ 1 + s) (h2 : rabs s ≤ 1 + 1 / 100000000000) : rabs c ≤ 59/10 * (1 + s) := by
  have hc := rabs_le.1 hc
  have h2 := rabs_le.1 h2
  refine sq_rabs (by grind) ?_
  have m := Rat.mul_le_mul_of_nonneg_left h (show 0 ≤ 1 + s by grind)
  grind
/-- The word of the radius of a declination. -/
def radiusW (dec : Int) : Nat := fdiv (fmul wMio (cosA dec)) (fadd wOne (sinA dec))
def radV (dec : Int) : Rat := 1000000 * C (angU dec) / (1 + S (angU dec))
theorem radV_bd {dec : Int} (h0 : -195000000 ≤ dec) (h1 : dec ≤ 250000000) : rabs (radV dec) ≤ 5900000 ∧ radV dec * (1 + S (angU dec)) = 1000000 * C (angU dec) := by
  obtain ⟨cc, cs, -⟩ := ast_circ (a := dec) (by omega) (by omega)
  have os := one_sin h0 h1
  have t := tan_bd cc os cs
  have e : radV dec * (1 + S (angU dec)) = 1000000 * C (angU dec) := Rat.div_mul_cancel (by grind)
  have t := rabs_le.1 t
  refine ⟨?_, e⟩
  rw [rabs_le]
  constructor
  · refine Rat.le_of_mul_le_mul_right (c := 1 + S (angU dec)) ?_ (by grind)
    rw [e]; grind
  · refine Rat.le_of_mul_le_mul_right (c := 1 + S (angU dec)) ?_ (by grind)
    rw [e]; grind
structure RadiusP (dec : Int) : Prop where
  ex : ∃ n d, double.mul wMio (cosA dec) = some n ∧ double.add wOne (sinA dec) = some d ∧ double.div n d = some (radiusW dec)
  ap : Ap (radiusW dec) (radV dec) (15 / 1000000)
theorem radius_run {dec : Int} (h0 : -195000000 ≤ dec) (h1 : dec ≤ 250000000) : RadiusP dec := by
  obtain ⟨cc, cs, c1⟩ := ast_circ (a := dec) (by omega) (by omega)
  have os := one_sin h0 h1
  have t := tan_bd cc os cs
  have ac := cosA_ap (a := dec) (by omega) (by omega)
  have as' := sinA_ap (a := dec) (by omega) (by omega)
  have am := cv_ap wMio_num.2
  rw [wMio_num.1] at am
  have a1 := cv_ap (show isNum wOne = true by decide +kernel)
  have e1 : cv wOne = 1 := by decide +kernel
  rw [e1] at a1
  have c1 := rabs_le.1 c1
  have cs := rabs_le.1 cs
  have p21 : p2 ((21 : Nat) : Int) = 2097152 := by decide +kernel
  have n21 : p2 (((21 : Nat) : Int) - 53) ≤ 3 / 10000000000 := by decide +kernel
  obtain ⟨n, g1, g2⟩ := mul_ap 1000000 (101/100) 21 (by omega) am ac (by grind) (by grind) (by grind) (by grind) (by rw [p21]; grind)
  have g3 := g2.mono (e' := 61 / 100000000) (by grind)
  have p2' : p2 ((2 : Nat) : Int) = 4 := by decide +kernel
  have n2 : p2 (((2 : Nat) : Int) - 53) ≤ 1 / 1000000000000000 := by decide +kernel
  obtain ⟨d, k1, k2⟩ := add_ap 2 (by omega) a1 as' (by rw [p2']; grind) (by rw [p2']; grind)
  have k3 := k2.mono (e' := 27 / 1000000000000000) (by grind)
  have p23 : p2 ((23 : Nat) : Int) = 8388608 := by decide +kernel
  have n54 : p2 (((23 : Nat) : Int) - 54) ≤ 1 / 1000000000 := by decide +kernel
  have n53 : p2 (((23 : Nat) : Int) - 53) ≤ 1 / 1000000000 := by decide +kernel
  have hE : (61 / 100000000 + 5900000 * (27 / 1000000000000000)) / (587/10000) ≤ (14 : Rat) / 1000000 := by decide +kernel
  obtain ⟨r, r1, r2⟩ := quo_ap (M := 5900000) (d := 587/10000) 23 (by omega) g3 k3 (by decide +kernel) (by grind) (by
    have m : rabs (1000000 * C (angU dec)) = 1000000 * rabs (C (angU dec)) := rabs_tm (by decide +kernel)
    rw [m]; grind) (by decide +kernel) (by rw [p23]; grind)
  have er : radiusW dec = r := by unfold radiusW; rw [fmul_of g1, fadd_of k1, fdiv_of r1]
  refine ⟨⟨n, d, g1, k1, by rw [er]; exact r1⟩, ?_⟩
  rw [er]
  exact r2.mono (by grind)
/-- An interval around a number. -/
structure ArOk (v : Nat) (V : Rat) : Prop where
  ex : ∃ s1 s2 X1 X2, double.sub v wSl = some s1 ∧ double.add v wSl = some s2 ∧ Num s1 X1 ∧ Num s2 X2 ∧ (double.read (fflr s1)).toInt .zero = some (arLo v) ∧ (double.read (fcei s2)).toInt .zero = some (arHi v) ∧ -4000000000000000 ≤ arLo v ∧ arLo v ≤ 4000000000000000 ∧ -4000000000000000 ≤ arHi v ∧ arHi v ≤ 4000000000000000
  l : (arLo v : Rat) ≤ V - 9/10000
  h : V + 9/10000 ≤ (arHi v : Rat)
  o : arLo v ≤ arHi v
  w : arHi v - arLo v ≤ 2
  b0 : -20000000 ≤ arLo v
  b1 : arHi v ≤ 20000000
theorem ar_ok {v : Nat} {V e : Rat} (hv : Ap v V e) (he : e ≤ 9 / 100000) (hV : rabs V ≤ 17000000) : ArOk v V := by
  have p31 : p2 ((31 : Nat) : Int) = 2147483648 := by decide +kernel
  have u31 : p2 (((31 : Nat) : Int) - 53) ≤ 3 / 10000000 := by decide +kernel
  have n31 := Rat.le_of_lt (p2_pos (((31 : Nat) : Int) - 53))
  have t18 : (1 : Rat) / 10 ^ 18 ≤ 1 / 1000000000 := by decide +kernel
  have t0 : (0 : Rat) ≤ 1 / 10 ^ 18 := by decide +kernel
  have hV := rabs_le.1 hV
  have e0 := hv.pos
  obtain ⟨s1, s2, X1, X2, g1, g2, g3, g4, g5, g6, g7, g8, g9, g10, g11, g12, g13, g14⟩ := around_run 31 (by omega) hv (by rw [p31]; grind) (by rw [p31]; grind)
  generalize (1 : Rat) / 10 ^ 18 = d at *
  have l1 : (arLo v : Rat) ≤ V - 9/10000 := by grind
  have h1 : V + 9/10000 ≤ (arHi v : Rat) := by grind
  have w : ((arHi v - arLo v : Int) : Rat) < ((3 : Int) : Rat) := by
    have c : ((3 : Int) : Rat) = 3 := rfl
    rw [c]; push_cast; grind
  have o : ((arLo v : Int) : Rat) ≤ ((arHi v : Int) : Rat) := by grind
  have b0 : ((-20000000 : Int) : Rat) ≤ ((arLo v : Int) : Rat) := by
    have c : ((-20000000 : Int) : Rat) = -20000000 := rfl
    rw [c]; grind
  have b1 : ((arHi v : Int) : Rat) ≤ ((20000000 : Int) : Rat) := by
    have c : ((20000000 : Int) : Rat) = 20000000 := rfl
    rw [c]; grind
  refine ⟨⟨s1, s2, X1, X2, g1, g2, g3, g4, g5, g6, g7, g8, g9, g10⟩, l1, h1, Rat.intCast_le_intCast.1 o, ?_, Rat.intCast_le_intCast.1 b0, Rat.intCast_le_intCast.1 b1⟩
  have := Rat.intCast_lt_intCast.1 w
  omega
/-- The reference's test of a quotient. -/
structure RatioOk (lo hi a bb : Int) : Prop where
  o : lo ≤ hi
  w : hi - lo ≤ 10
  l : lo * bb ≤ 1000000 * (a + 1048576)
  h : 1000000 * (a - 1048576) ≤ hi * bb
theorem ratio_ok {v : Nat} {V A B δ : Rat} {a bb : Int} (h : ArOk v V) (hV : rabs V ≤ 17000000) (e : V * B = 1000000 * A) (ha : rabs ((a : Rat) - uQ * A) ≤ δ) (hb : rabs ((bb : Rat) - uQ * B) ≤ δ) (hB : 588/10000 ≤ B) (hδ : δ ≤ 3000000) (hm : 1000000 * δ + 17000001 * δ ≤ 9/10000 * (uQ * B)) : RatioOk (arLo v) (arHi v) a bb := by
  have hU : uQ = 1152921504606846976 := rfl
  have ha := rabs_le.1 ha
  have hb' := rabs_le.1 hb
  have d0 : 0 ≤ δ := by have := rabs_nonneg ((bb : Rat) - uQ * B); grind
  have b0 : 0 ≤ (bb : Rat) := by grind
  have m1 := Rat.mul_le_mul_of_nonneg_right h.l b0
  have m2 := Rat.mul_le_mul_of_nonneg_right h.h b0
  have vb := rabs_le.1 (mul_rabs hV hb)
  have e2 : uQ * (V * B) = V * (uQ * B) := by grind
  rw [e] at e2
  have l := h.o
  have w := h.w
  generalize arLo v = lo at *
  generalize arHi v = hi at *
  refine ⟨l, by omega, ?_, ?_⟩
  · refine Rat.intCast_le_intCast.1 ?_
    push_cast
    generalize uQ * B = ub at *
    clear hU m2 hV hb
    grind
  · refine Rat.intCast_le_intCast.1 ?_
    push_cast
    generalize uQ * B = ub at *
    clear hU m1 hV hb
    grind
/-- The reference's sine and cosine at an angle of either sign. -/
theorem sc_sgn {a : Int} (h0 : -1000000000 ≤ a) (h1 : a < 1000000000) : rabs (((sc (a % 1000000000 * 1000000)).1 : Rat) - uQ * S (angU a)) ≤ 1400000 ∧ rabs (((sc (a % 1000000000 * 1000000)).2 : Rat) - uQ * C (angU a)) ≤ 1400000 := by
  have m0 := emod_bd a
  obtain ⟨g1, g2⟩ := sc_ang m0.1 m0.2
  have hU : uQ = 1152921504606846976 := rfl
  by_cases h : 0 ≤ a
  · rw [Int.emod_eq_of_lt h h1] at g1 g2 ⊢
    constructor <;> grind
  · have e : (a + 1000000000) % 1000000000 = a % 1000000000 := by omega
    by_cases hz : a = -1000000000
    · subst hz
      have c1 : rabs (uQ * S (angU ((-1000000000 : Int) % 1000000000)) - uQ * S (angU (-1000000000))) ≤ 1000000 ∧ rabs (uQ * C (angU ((-1000000000 : Int) % 1000000000)) - uQ * C (angU (-1000000000))) ≤ 1000000 := by decide +kernel
      have k1 := rabs_le.1 c1.1
      have k2 := rabs_le.1 c1.2
      have g1 := rabs_le.1 g1
      have g2 := rabs_le.1 g2
      constructor
      · rw [rabs_le]; constructor <;> grind
      · rw [rabs_le]; constructor <;> grind
    · have e2 : a % 1000000000 = a + 1000000000 := by omega
      have z0 : ((-1000000000 : Int) : Rat) = -1000000000 := rfl
      have z1 : ((0 : Int) : Rat) = 0 := rfl
      have A0 := icast h0
      have A1 := icast (show a ≤ 0 by omega)
      rw [z0] at A0
      rw [z1] at A1
      obtain ⟨k1, k2⟩ := sc_neg_turn A0 A1
      rw [e2] at g1 g2 ⊢
      rw [angU_tq] at g1 g2
      rw [angU_tq]
      have e3 : ((a + 1000000000 : Int) : Rat) = (a : Rat) + 1000000000 := by push_cast; rfl
      rw [e3] at g1 g2
      have k1 := rabs_le.1 k1
      have k2 := rabs_le.1 k2
      have g1 := rabs_le.1 g1
      have g2 := rabs_le.1 g2
      rw [hU] at *
      constructor
      · rw [rabs_le]; constructor <;> grind
      · rw [rabs_le]; constructor <;> grind
end Go.Proofs.YtjkhoepohiafeaaDoor
