/- The answers of the astrolabe and the reference's tests. No program in sight. -/
import Derived.Test.YtjkhoepohiafeaaDoorPlainAst2
import Derived.Test.YtjkhoepohiafeaaDoorEqB
set_option linter.unusedVariables false
set_option linter.unusedSimpArgs false
namespace Go.Proofs.YtjkhoepohiafeaaDoor
open Ieee
theorem half_near (s : Int) : rabs (((2 * s.tdiv 2 : Int) : Rat) - s) ≤ 1 := by
  have h : 2 * s.tdiv 2 ≤ s + 1 ∧ s - 1 ≤ 2 * s.tdiv 2 := by
    have a := Int.mul_tdiv_add_tmod s 2
    rcases Int.tmod_two_eq s with b | b | b <;> omega
  have a := icast h.1
  have b := icast h.2
  push_cast at a b ⊢
  rw [rabs_le]
  constructor <;> grind
def ascS (a : Int) : Int := (sc (a % 1000000000 * 1000000)).1
def ascC (a : Int) : Int := (sc (a % 1000000000 * 1000000)).2
def ringB (dec : Int) : Int := 576460752303423488 + (ascS dec).tdiv 2
def almB (lat alt : Int) : Int := (ascS lat).tdiv 2 + (ascS alt).tdiv 2
theorem asc_near {a : Int} (h0 : -1000000000 ≤ a) (h1 : a < 1000000000) : rabs ((ascS a : Rat) - uQ * S (angU a)) ≤ 1400000 ∧ rabs ((ascC a : Rat) - uQ * C (angU a)) ≤ 1400000 := sc_sgn h0 h1
theorem ringB_near {dec : Int} (h0 : -1000000000 ≤ dec) (h1 : dec < 1000000000) : rabs (((2 * ringB dec : Int) : Rat) - uQ * (1 + S (angU dec))) ≤ 1400002 := by
  have a := rabs_le.1 (asc_near h0 h1).1
  have b := rabs_le.1 (half_near (ascS dec))
  have e : (2 * ringB dec : Int) = 1152921504606846976 + 2 * (ascS dec).tdiv 2 := by unfold ringB; omega
  rw [e]
  have hU : uQ = 1152921504606846976 := rfl
  generalize 2 * (ascS dec).tdiv 2 = k at *
  push_cast at *
  rw [rabs_le]
  constructor <;> grind
theorem ring_ar {dec : Int} (h0 : -195000000 ≤ dec) (h1 : dec ≤ 250000000) : ArOk (radiusW dec) (radV dec) := by
  have h := radius_run h0 h1
  have b := rabs_le.1 (radV_bd h0 h1).1
  exact ar_ok h.ap (by decide +kernel) (rabs_le.2 ⟨by grind, by grind⟩)
theorem ring_law {dec : Int} (h0 : -195000000 ≤ dec) (h1 : dec ≤ 250000000) : RatioOk (arLo (radiusW dec)) (arHi (radiusW dec)) (ascC dec) (2 * ringB dec) := by
  have b := rabs_le.1 (radV_bd h0 h1).1
  have o := one_sin h0 h1
  have c := rabs_le.1 (asc_near (a := dec) (by omega) (by omega)).2
  have d := rabs_le.1 (ringB_near (dec := dec) (by omega) (by omega))
  have hU : uQ = 1152921504606846976 := rfl
  refine ratio_ok (δ := 1400002) (ring_ar h0 h1) (rabs_le.2 ⟨by grind, by grind⟩) (radV_bd h0 h1).2 (rabs_le.2 ⟨by grind, by grind⟩) (rabs_le.2 ⟨by grind, by grind⟩) o (by decide +kernel) ?_
  rw [hU]; grind
/-- The coordinates of a star. -/
def stX (ra dec : Int) : Nat := fmul (radiusW dec) (cosA ra)
def stY (ra dec : Int) : Nat := fmul (radiusW dec) (sinA ra)
structure StarP (v w r : Nat) (V : Rat) : Prop where
  ex : double.mul r w = some v
  ar : ArOk v V
theorem part_ok {r w : Nat} {R W a : Rat} (hr : Ap r R (15 / 1000000)) (hR : rabs R ≤ 5900000) (hw : Ap w W a) (ha : a ≤ 6 / 10000000000000) (hW : rabs W ≤ 1 + 1 / 100000000000) : double.mul r w = some (fmul r w) ∧ ArOk (fmul r w) (R * W) := by
  have R' := rabs_le.1 hR
  have W' := rabs_le.1 hW
  have a0 := hw.pos
  have p23 : p2 ((23 : Nat) : Int) = 8388608 := by decide +kernel
  have n23 : p2 (((23 : Nat) : Int) - 53) ≤ 1 / 100000000 := by decide +kernel
  obtain ⟨q, g1, g2⟩ := mul_ap 5900000 (1 + 1 / 100000000000) 23 (by omega) hr hw R'.1 R'.2 W'.1 W'.2 (by rw [p23]; grind)
  have e : fmul r w = q := fmul_of g1
  rw [e]
  refine ⟨g1, ar_ok g2 (by grind) ?_⟩
  have := rabs_le.1 (mul_rabs hR hW)
  exact rabs_le.2 ⟨by grind, by grind⟩
theorem star_fmul {dec ra : Int} (h0 : -195000000 ≤ dec) (h1 : dec ≤ 250000000) (r0 : 0 ≤ ra) (r1 : ra ≤ 999999999) : (double.mul (radiusW dec) (cosA ra) = some (stX ra dec) ∧ ArOk (stX ra dec) (radV dec * C (angU ra))) ∧ double.mul (radiusW dec) (sinA ra) = some (stY ra dec) ∧ ArOk (stY ra dec) (radV dec * S (angU ra)) := by
  have h := radius_run h0 h1
  obtain ⟨-, c2, c3⟩ := ast_circ (a := ra) (by omega) (by omega)
  exact ⟨part_ok h.ap (radV_bd h0 h1).1 (cosA_ap (by omega) (by omega)) Rat.le_refl c3, part_ok h.ap (radV_bd h0 h1).1 (sinA_ap (by omega) (by omega)) (by decide +kernel) c2⟩
theorem part_law {dec s : Int} {v : Nat} {σ : Rat} (h0 : -195000000 ≤ dec) (h1 : dec ≤ 250000000) (hv : ArOk v (radV dec * σ)) (hs : rabs ((s : Rat) - uQ * σ) ≤ 1400000) (hσ : rabs σ ≤ 1 + 1 / 100000000000) : RatioOk (arLo v) (arHi v) (fm (ascC dec) s) (2 * ringB dec) := by
  obtain ⟨b1, b2⟩ := radV_bd h0 h1
  have o := one_sin h0 h1
  have c := (asc_near (a := dec) (by omega) (by omega)).2
  have d := rabs_le.1 (ringB_near (dec := dec) (by omega) (by omega))
  have hU : uQ = 1152921504606846976 := rfl
  obtain ⟨-, -, c3⟩ := ast_circ (a := dec) (by omega) (by omega)
  have c3' := rabs_le.1 c3
  have hσ' := rabs_le.1 hσ
  have f := rabs_le.1 (fm_two c hs (by decide +kernel) (by decide +kernel) (rabs_le.2 ⟨by grind, by grind⟩) (rabs_le.2 ⟨by grind, by grind⟩))
  have m := rabs_le.1 (mul_rabs b1 hσ)
  refine ratio_ok (δ := 2900000) (A := C (angU dec) * σ) (B := 1 + S (angU dec)) hv (rabs_le.2 ⟨by grind, by grind⟩) ?_ (rabs_le.2 ⟨by grind, by grind⟩) (rabs_le.2 ⟨by grind, by grind⟩) o (by decide +kernel) ?_
  · clear f m c3' hσ' d c3 o c hv hs hσ b1
    grind
  · rw [hU]; grind
theorem star_law {dec ra : Int} (h0 : -195000000 ≤ dec) (h1 : dec ≤ 250000000) (r0 : 0 ≤ ra) (r1 : ra ≤ 999999999) : RatioOk (arLo (stX ra dec)) (arHi (stX ra dec)) (fm (ascC dec) (ascC ra)) (2 * ringB dec) ∧ RatioOk (arLo (stY ra dec)) (arHi (stY ra dec)) (fm (ascC dec) (ascS ra)) (2 * ringB dec) := by
  obtain ⟨⟨-, k1⟩, -, k2⟩ := star_fmul h0 h1 r0 r1
  obtain ⟨-, c2, c3⟩ := ast_circ (a := ra) (by omega) (by omega)
  obtain ⟨n1, n2⟩ := asc_near (a := ra) (by omega) (by omega)
  exact ⟨part_law h0 h1 k1 n2 c3, part_law h0 h1 k2 n1 c2⟩
/-- The circle of an altitude. -/
def belowW (lat alt : Int) : Nat := fadd (sinA lat) (sinA alt)
def almW (a lat alt : Int) : Nat := fdiv (fmul wMio (cosA a)) (belowW lat alt)
def almV (a lat alt : Int) : Rat := 1000000 * C (angU a) / (S (angU lat) + S (angU alt))
theorem siU_alm : 627 / 10000 ≤ siU 10000000 ∧ 627 / 10000 ≤ siU 220000000 := by decide +kernel
theorem below_big {lat alt : Int} (l0 : 10000000 ≤ lat) (l1 : lat ≤ 220000000) (a0 : 0 ≤ alt) (a1 : alt ≤ 220000000) : 6269 / 100000 ≤ S (angU lat) + S (angU alt) := by
  obtain ⟨q1, q2⟩ := siU_alm
  have e : siU lat = S (angU lat) := by unfold siU; rw [Int.emod_eq_of_lt (by omega) (by omega)]
  have k := siU_low (lo := 10000000) (hi := 220000000) (n := lat) l0 l1 (by decide)
  rw [e] at k
  have u := S_up2 (x := angU alt) (by have := angU_le a0; have e : angU 0 = 0 := by decide +kernel
                                      grind) (by have := angU_le a1; have e : angU 220000000 ≤ piQ := by decide +kernel
                                                 grind)
  rcases k with k | k <;> grind
theorem almV_bd {a lat alt : Int} (l0 : 10000000 ≤ lat) (l1 : lat ≤ 220000000) (a0 : 0 ≤ alt) (a1 : alt ≤ 220000000) (b0 : 0 ≤ a) (b1 : a ≤ 220000000) : rabs (almV a lat alt) ≤ 16500000 ∧ almV a lat alt * (S (angU lat) + S (angU alt)) = 1000000 * C (angU a) := by
  obtain ⟨-, -, cs⟩ := ast_circ (a := a) (by omega) (by omega)
  have os := below_big l0 l1 a0 a1
  have e : almV a lat alt * (S (angU lat) + S (angU alt)) = 1000000 * C (angU a) := Rat.div_mul_cancel (by grind)
  have t := rabs_le.1 cs
  refine ⟨?_, e⟩
  rw [rabs_le]
  constructor
  · refine Rat.le_of_mul_le_mul_right (c := S (angU lat) + S (angU alt)) ?_ (by grind)
    rw [e]; grind
  · refine Rat.le_of_mul_le_mul_right (c := S (angU lat) + S (angU alt)) ?_ (by grind)
    rw [e]; grind
structure AlmP (a lat alt : Int) : Prop where
  ex : ∃ n, double.mul wMio (cosA a) = some n ∧ double.add (sinA lat) (sinA alt) = some (belowW lat alt) ∧ double.div n (belowW lat alt) = some (almW a lat alt)
  ar : ArOk (almW a lat alt) (almV a lat alt)
theorem alm_run {a lat alt : Int} (l0 : 10000000 ≤ lat) (l1 : lat ≤ 220000000) (a0 : 0 ≤ alt) (a1 : alt ≤ 220000000) (b0 : 0 ≤ a) (b1 : a ≤ 220000000) : AlmP a lat alt := by
  obtain ⟨-, -, cs⟩ := ast_circ (a := a) (by omega) (by omega)
  obtain ⟨-, sl, -⟩ := ast_circ (a := lat) (by omega) (by omega)
  obtain ⟨-, sa, -⟩ := ast_circ (a := alt) (by omega) (by omega)
  have os := below_big l0 l1 a0 a1
  have ac := cosA_ap (a := a) (by omega) (by omega)
  have s1 := sinA_ap (a := lat) (by omega) (by omega)
  have s2 := sinA_ap (a := alt) (by omega) (by omega)
  have am := cv_ap wMio_num.2
  rw [wMio_num.1] at am
  have cs' := rabs_le.1 cs
  have sl := rabs_le.1 sl
  have sa := rabs_le.1 sa
  have p21 : p2 ((21 : Nat) : Int) = 2097152 := by decide +kernel
  have n21 : p2 (((21 : Nat) : Int) - 53) ≤ 3 / 10000000000 := by decide +kernel
  obtain ⟨n, g1, g2⟩ := mul_ap 1000000 (101/100) 21 (by omega) am ac (by grind) (by grind) (by grind) (by grind) (by rw [p21]; grind)
  have g3 := g2.mono (e' := 61 / 100000000) (by grind)
  have p2' : p2 ((2 : Nat) : Int) = 4 := by decide +kernel
  have n2 : p2 (((2 : Nat) : Int) - 53) ≤ 1 / 1000000000000000 := by decide +kernel
  obtain ⟨d, k1, k2⟩ := add_ap 2 (by omega) s1 s2 (by rw [p2']; grind) (by rw [p2']; grind)
  have k3 := k2.mono (e' := 52 / 1000000000000000) (by grind)
  have p24 : p2 ((25 : Nat) : Int) = 33554432 := by decide +kernel
  have n54 : p2 (((25 : Nat) : Int) - 54) ≤ 1 / 100000000 := by decide +kernel
  have n53 : p2 (((25 : Nat) : Int) - 53) ≤ 1 / 100000000 := by decide +kernel
  have hE : (61 / 100000000 + 16500000 * (52 / 1000000000000000)) / (626/10000) ≤ (25 : Rat) / 1000000 := by decide +kernel
  obtain ⟨r, r1, r2⟩ := quo_ap (M := 16500000) (d := 626/10000) 25 (by omega) g3 k3 (by decide +kernel) (by grind) (by
    have m : rabs (1000000 * C (angU a)) = 1000000 * rabs (C (angU a)) := rabs_tm (by decide +kernel)
    rw [m]; grind) (by decide +kernel) (by rw [p24]; grind)
  have eb : belowW lat alt = d := fadd_of k1
  have er : almW a lat alt = r := by unfold almW; rw [eb, fmul_of g1, fdiv_of r1]
  refine ⟨⟨n, g1, by rw [eb]; exact k1, by rw [er, eb]; exact r1⟩, ?_⟩
  rw [er]
  have b := rabs_le.1 (almV_bd l0 l1 a0 a1 b0 b1).1
  exact ar_ok r2 (by grind) (rabs_le.2 ⟨by grind, by grind⟩)
theorem almB_near {lat alt : Int} (h0 : 0 ≤ lat) (h1 : lat < 1000000000) (g0 : 0 ≤ alt) (g1 : alt < 1000000000) : rabs (((2 * almB lat alt : Int) : Rat) - uQ * (S (angU lat) + S (angU alt))) ≤ 2800002 := by
  have a := rabs_le.1 (asc_near (a := lat) (by omega) h1).1
  have b := rabs_le.1 (half_near (ascS lat))
  have a' := rabs_le.1 (asc_near (a := alt) (by omega) g1).1
  have b' := rabs_le.1 (half_near (ascS alt))
  have e : (2 * almB lat alt : Int) = 2 * (ascS lat).tdiv 2 + 2 * (ascS alt).tdiv 2 := by unfold almB; omega
  rw [e]
  generalize 2 * (ascS lat).tdiv 2 = k at *
  generalize 2 * (ascS alt).tdiv 2 = k' at *
  push_cast at *
  rw [rabs_le]
  constructor <;> grind
theorem alm_law {a lat alt : Int} (l0 : 10000000 ≤ lat) (l1 : lat ≤ 220000000) (a0 : 0 ≤ alt) (a1 : alt ≤ 220000000) (b0 : 0 ≤ a) (b1 : a ≤ 220000000) : RatioOk (arLo (almW a lat alt)) (arHi (almW a lat alt)) (ascC a) (2 * almB lat alt) := by
  have b := rabs_le.1 (almV_bd l0 l1 a0 a1 b0 b1).1
  have o := below_big l0 l1 a0 a1
  have c := rabs_le.1 (asc_near (a := a) (by omega) (by omega)).2
  have d := rabs_le.1 (almB_near (lat := lat) (alt := alt) (by omega) (by omega) (by omega) (by omega))
  have hU : uQ = 1152921504606846976 := rfl
  refine ratio_ok (δ := 2800002) (alm_run l0 l1 a0 a1 b0 b1).ar (rabs_le.2 ⟨by grind, by grind⟩) (almV_bd l0 l1 a0 a1 b0 b1).2 (rabs_le.2 ⟨by grind, by grind⟩) (rabs_le.2 ⟨by grind, by grind⟩) (by grind) (by decide +kernel) ?_
  rw [hU]; grind
/-- The self-check's two intervals. -/
theorem has_mio {v : Nat} {V : Rat} (h : ArOk v V) (hV : rabs (V - 1000000) ≤ 9 / 10000) : arLo v ≤ 1000000 ∧ 1000000 ≤ arHi v := by
  have k := rabs_le.1 hV
  have l := h.l
  have u := h.h
  have c : ((1000000 : Int) : Rat) = 1000000 := rfl
  exact ⟨Rat.intCast_le_intCast.1 (by rw [c]; grind), Rat.intCast_le_intCast.1 (by rw [c]; grind)⟩
theorem fix_ring : rabs (radV 0 - 1000000) ≤ 9 / 10000 := by decide +kernel
theorem fix_alm : rabs (almV 125000000 125000000 0 - 1000000) ≤ 9 / 10000 := by decide +kernel
end Go.Proofs.YtjkhoepohiafeaaDoor
