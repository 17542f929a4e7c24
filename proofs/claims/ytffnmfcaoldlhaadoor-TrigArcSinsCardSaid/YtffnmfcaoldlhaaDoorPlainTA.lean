/- The reference's test of a direction; TrigArcs' statement. No program in sight. -/
import Derived.Test.YtffnmfcaoldlhaaDoorPlainArc2
import Derived.Test.YtffnmfcaoldlhaaDoorPlainSins
set_option linter.unusedVariables false
set_option linter.unusedSimpArgs false
namespace Go.Proofs.YtffnmfcaoldlhaaDoor
open Ieee
/-- What InArc asks of an interval from a to h (both from 0 on, below a turn) and a direction. -/
structure InArcOk (a h y x : Int) : Prop where
  c1 : -2147483648 ≤ fm (sc (a * 1000000)).2 y - fm (sc (a * 1000000)).1 x
  c2 : -2147483648 ≤ fm (sc (h * 1000000)).1 x - fm (sc (h * 1000000)).2 y
  c3 : -2147483648 < fm (sc (a * 1000000)).2 x + fm (sc (a * 1000000)).1 y + fm (sc (h * 1000000)).2 x + fm (sc (h * 1000000)).1 y
/-- A product with a number that is near to a sine or a cosine. -/
theorem fm_sc {s u : Int} {σ B : Rat} (hs : rabs ((s : Rat) - uQ * σ) ≤ 180000) (hu : rabs (u : Rat) ≤ B) (hB : B ≤ 1160000000000000000) : rabs ((fm s u : Rat) - σ * u) ≤ 182000 := by
  obtain ⟨f1, f2⟩ := fm_near s u
  have u0 : (0 : Rat) < uQ := by decide +kernel
  have hU : uQ = 1152921504606846976 := rfl
  have m := rabs_le.1 (mul_rabs hs hu)
  have B0 : 0 ≤ B := by have := rabs_nonneg (u : Rat); grind
  have e : (s : Rat) * u = uQ * (σ * u) + ((s : Rat) - uQ * σ) * u := by grind
  rw [e] at f1 f2
  generalize ((s : Rat) - uQ * σ) * u = d at *
  generalize σ * (u : Rat) = z at *
  generalize (fm s u : Rat) = F at *
  have k1 : (F - z) * uQ ≤ 182000 * uQ := by rw [hU] at *; grind
  have k2 : -182000 * uQ ≤ (F - z) * uQ := by rw [hU] at *; grind
  exact rabs_le.2 ⟨Rat.le_of_mul_le_mul_right k1 u0, Rat.le_of_mul_le_mul_right k2 u0⟩
theorem inArc_of {a h u v : Int} (a0 : 0 ≤ a) (a1 : a < 1000000000) (h0 : 0 ≤ h) (h1 : h < 1000000000) (hb : Between a h (v : Rat) (u : Rat)) (u1 : -1160000000000000000 ≤ u) (u2 : u ≤ 1160000000000000000) (v1 : -1160000000000000000 ≤ v) (v2 : v ≤ 1160000000000000000) : InArcOk a h u v := by
  obtain ⟨s1, s2⟩ := sc_ang a0 a1
  obtain ⟨s3, s4⟩ := sc_ang h0 h1
  rw [angU_tq] at s1 s2 s3 s4
  have c1 : ((1160000000000000000 : Int) : Rat) = 1160000000000000000 := rfl
  have c2 : ((-1160000000000000000 : Int) : Rat) = -1160000000000000000 := rfl
  have U1 := icast u1
  have U2 := icast u2
  have V1 := icast v1
  have V2 := icast v2
  rw [c2] at U1 V1
  rw [c1] at U2 V2
  have hu : rabs (u : Rat) ≤ 1160000000000000000 := rabs_le.2 ⟨U2, U1⟩
  have hv : rabs (v : Rat) ≤ 1160000000000000000 := rabs_le.2 ⟨V2, V1⟩
  obtain ⟨b1, b2, b3⟩ := hb
  have g1 := rabs_le.1 (fm_sc s2 hu Rat.le_refl)
  have g2 := rabs_le.1 (fm_sc s1 hv Rat.le_refl)
  have g3 := rabs_le.1 (fm_sc s3 hv Rat.le_refl)
  have g4 := rabs_le.1 (fm_sc s4 hu Rat.le_refl)
  have g5 := rabs_le.1 (fm_sc s2 hv Rat.le_refl)
  have g6 := rabs_le.1 (fm_sc s1 hu Rat.le_refl)
  have g7 := rabs_le.1 (fm_sc s4 hv Rat.le_refl)
  have g8 := rabs_le.1 (fm_sc s3 hu Rat.le_refl)
  clear s1 s2 s3 s4
  generalize S (tq * a) = sa at *
  generalize C (tq * a) = ca at *
  generalize S (tq * h) = sh at *
  generalize C (tq * h) = ch at *
  have r : ∀ {p q : Int}, (p : Rat) ≤ (q : Rat) → p ≤ q := fun h => Rat.intCast_le_intCast.1 h
  have r' : ∀ {p q : Int}, (p : Rat) < (q : Rat) → p < q := fun h => by exact_mod_cast h
  have d1 : ((-2147483648 : Int) : Rat) = -2147483648 := rfl
  refine ⟨r ?_, r ?_, r' ?_⟩
  · rw [d1]; push_cast; grind
  · rw [d1]; push_cast; grind
  · rw [d1]; push_cast; grind
/-- Greater directions of the same kind. -/
theorem Between.scale {a h : Int} {x y : Rat} (hb : Between a h x y) {k : Rat} (hk : 0 ≤ k) : Between a h (k * x) (k * y) := by
  obtain ⟨b1, b2, b3⟩ := hb
  have e1 : rabs (k * x) + rabs (k * y) = k * (rabs x + rabs y) := by rw [rabs_mul, rabs_mul, rabs_pos hk]; grind
  have m1 := Rat.mul_le_mul_of_nonneg_left b1 hk
  have m2 := Rat.mul_le_mul_of_nonneg_left b2 hk
  have m3 := Rat.mul_nonneg hk b3
  refine ⟨?_, ?_, ?_⟩
  · rw [e1]; grind
  · rw [e1]; grind
  · grind
/-- Each corner lies between the bounds of Arc's interval. -/
theorem arc_corners {yl yh xl xh : Int} {D0 L H : Rat} {E : Nat → Rat} (hv : ArcV yl yh xl xh D0 E L H) (hw : arcHi yl yh xl xh - arcLo yl yh xl xh ≤ 400000000) {y x : Int} (hy : y = yl ∨ y = yh) (hx : x = xl ∨ x = xh) :
    Between (arcLo yl yh xl xh % 1000000000) (arcHi yl yh xl xh % 1000000000) (x : Rat) (y : Rat) := by
  obtain ⟨h0, hk, -, l0, lk, -, g0, gk, -, lo1, lo2, hi1, hi2⟩ := hv
  have key : ∀ {y x : Int} {D φ : Rat} {k : Int}, HeadI x y D → rabs (φ - (D + (k : Rat) * 1000000000)) ≤ 1 / 1000000 → (arcLo yl yh xl xh : Rat) ≤ φ → φ ≤ (arcHi yl yh xl xh : Rat) → Between (arcLo yl yh xl xh % 1000000000) (arcHi yl yh xl xh % 1000000000) (x : Rat) (y : Rat) := by
    intro y x D φ k hd hφ f1 f2
    have m0 := Int.emod_nonneg (arcLo yl yh xl xh) (show (1000000000 : Int) ≠ 0 by omega)
    have m1 := Int.emod_lt_of_pos (arcLo yl yh xl xh) (show (0 : Int) < 1000000000 by omega)
    have m2 := Int.emod_nonneg (arcHi yl yh xl xh) (show (1000000000 : Int) ≠ 0 by omega)
    have m3 := Int.emod_lt_of_pos (arcHi yl yh xl xh) (show (0 : Int) < 1000000000 by omega)
    exact between (m := arcLo yl yh xl xh / 1000000000) (m2 := arcHi yl yh xl xh / 1000000000) hd hφ f1 f2 hw (by omega) m0 m1 (by omega) m2 m3
  have ck : ∀ k, k < 3 → Between (arcLo yl yh xl xh % 1000000000) (arcHi yl yh xl xh % 1000000000) ((arcC yl yh xl xh k).2 : Rat) ((arcC yl yh xl xh k).1 : Rat) := by
    intro k hk3
    obtain ⟨D, j, d1, d2⟩ := hk k hk3
    have a1 := lk k hk3
    have a2 := gk k hk3
    exact key d1 (φ := D0 + E k) (k := j) (by grind) (by grind) (by grind)
  rcases hy with rfl | rfl <;> rcases hx with rfl | rfl
  · have z : rabs (D0 - (D0 + ((0 : Int) : Rat) * 1000000000)) ≤ 1 / 1000000 := by
      have e : D0 - (D0 + ((0 : Int) : Rat) * 1000000000) = 0 := by have : ((0 : Int) : Rat) = 0 := rfl
                                                                    rw [this]; grind
      rw [e]; decide +kernel
    exact key h0 (φ := D0) (k := 0) z (by grind) (by grind)
  · exact ck 0 (by omega)
  · exact ck 1 (by omega)
  · exact ck 2 (by omega)
/-- The interval of one direction is narrow. -/
theorem arc_narrow (y x : Int) (b1 : -2000000000000000000 ≤ y) (b2 : y ≤ 2000000000000000000) (b5 : -2000000000000000000 ≤ x) (b6 : x ≤ 2000000000000000000) (h0 : y ≠ 0 ∨ x ≠ 0) : arcHi y y x x - arcLo y y x x ≤ 3 := by
  obtain ⟨-, D0, n0, hd0⟩ := dirI_run y x b1 b2 b5 b6 h0
  obtain ⟨-, E, j, e1, e2, e3⟩ := adj_run n0 n0 hd0.b hd0.b
  have hj : j = 0 := by
    have a := rabs_le.1 e2
    have b := rabs_le.1 e3
    have u1 : (j : Rat) < ((1 : Int) : Rat) := by have e : ((1 : Int) : Rat) = 1 := rfl
                                                  rw [e]; grind
    have u2 : ((-1 : Int) : Rat) < (j : Rat) := by have e : ((-1 : Int) : Rat) = -1 := rfl
                                                   rw [e]; grind
    have v1 : j < 1 := by exact_mod_cast u1
    have v2 : -1 < j := by exact_mod_cast u2
    omega
  have hE : rabs E ≤ 4 / 10000000 := by
    have e : D0 + E - (D0 + (j : Rat) * 1000000000) = E := by rw [hj]; have : ((0 : Int) : Rat) = 0 := rfl
                                                              rw [this]; grind
    rw [e] at e2; exact e2
  have hE := rabs_le.1 hE
  have eD : ∀ k, arcD y y x x k = fsub (dirW y x) (dirW y x) := by
    intro k
    unfold arcD
    have : arcC y y x x k = (y, x) := by unfold arcC; split <;> rfl
    rw [this]
  have low : ∀ k, ∃ L, Num (arcLow y y x x k) L ∧ -(4 / 10000000) ≤ L ∧ L ≤ 0 := by
    intro k
    induction k with
    | zero => exact ⟨0, num_zero, by grind, by grind⟩
    | succ k ih =>
      obtain ⟨L, l1, l2, l3⟩ := ih
      have h := (fminW_num l1 e1).1
      refine ⟨if L ≤ E then L else E, ?_, ?_, ?_⟩
      · have ee : arcLow y y x x (k + 1) = fminW (arcLow y y x x k) (adjW (arcD y y x x k)) := rfl
        rw [ee, eD]; exact h
      · split <;> grind
      · split <;> grind
  have high : ∀ k, ∃ H, Num (arcHigh y y x x k) H ∧ 0 ≤ H ∧ H ≤ 4 / 10000000 := by
    intro k
    induction k with
    | zero => exact ⟨0, num_zero, by grind, by grind⟩
    | succ k ih =>
      obtain ⟨L, l1, l2, l3⟩ := ih
      have h := (fmaxW_num l1 e1).1
      refine ⟨if L ≤ E then E else L, ?_, ?_, ?_⟩
      · have ee : arcHigh y y x x (k + 1) = fmaxW (arcHigh y y x x k) (adjW (arcD y y x x k)) := rfl
        rw [ee, eD]; exact h
      · split <;> grind
      · split <;> grind
  obtain ⟨L, l1, l2, l3⟩ := low 3
  obtain ⟨H, g1, g2, g3⟩ := high 3
  clear low high e1 e2 e3
  have D0b := rabs_le.1 hd0.b
  have q30 : p2 ((30 : Nat) : Int) = 1073741824 := by decide +kernel
  have n30 : p2 (((30 : Nat) : Int) - 53) ≤ 12 / 100000000 := by decide +kernel
  have t18 : (1 : Rat) / 10 ^ 18 ≤ 1 / 1000000000 := by decide +kernel
  obtain ⟨rl, a1, a2⟩ := add_ap 30 (by omega) n0.ap l1.ap (by rw [q30]; grind) (by rw [q30]; grind)
  obtain ⟨rh, c1, c2⟩ := add_ap 30 (by omega) n0.ap g1.ap (by rw [q30]; grind) (by rw [q30]; grind)
  obtain ⟨s1, s2, X1, X2, -, -, -, -, -, -, -, -, -, -, -, w12, -, -⟩ := around_run 30 (by omega) a2 (by rw [q30]; grind) (by rw [q30]; grind)
  obtain ⟨s1', s2', X1', X2', -, -, -, -, -, -, -, -, -, -, -, -, -, v14⟩ := around_run 30 (by omega) c2 (by rw [q30]; grind) (by rw [q30]; grind)
  have eL : arcLo y y x x = arLo rl := by unfold arcLo; rw [fadd_of a1]
  have eH : arcHi y y x x = arHi rh := by unfold arcHi; rw [fadd_of c1]
  rw [eL, eH]
  have : ((arHi rh - arLo rl : Int) : Rat) ≤ ((3 : Int) : Rat) := by
    have e : ((3 : Int) : Rat) = 3 := rfl
    rw [e]; push_cast; grind
  exact Rat.intCast_le_intCast.1 this
end Go.Proofs.YtffnmfcaoldlhaaDoor
