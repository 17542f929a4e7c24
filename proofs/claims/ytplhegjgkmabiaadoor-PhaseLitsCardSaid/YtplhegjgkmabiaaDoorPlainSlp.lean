/- The slope of a sum in floating point. No program in sight. -/
import Derived.Test.YtplhegjgkmabiaaDoorTrB
import Derived.Test.YtplhegjgkmabiaaDoorFltE
set_option linter.unusedVariables false
set_option linter.unusedSimpArgs false
namespace Go.Proofs.YtplhegjgkmabiaaDoor
open Ieee
def wMil : Nat := 4696837146684686336
def wGrow : Nat := 4607182418800021912
def absW (n : Int) : Nat := fofI n % 9223372036854775808
def slW (t : Tm) : Nat := fmul (fmul (fdiv (fmul (fdiv (absW t.amp) wTurn) (absW t.rt)) wMil) wTwo) wPi
def slAt (l : List Tm) (k : Nat) : Nat := (l.take k).foldl (fun v t => fadd v (slW t)) 0
def slX (t : Tm) : Rat := rabs t.amp * rabs t.rt * (2 * piQ / 1000000000000000)
def slXAt (l : List Tm) (k : Nat) : Rat := (l.take k).foldl (fun v t => v + slX t) 0
theorem slAt_snoc (l : List Tm) (k : Nat) (h : k < l.length) : slAt l (k + 1) = fadd (slAt l k) (slW l[k]) := by
  unfold slAt; rw [fe_take l k h, List.foldl_append]; rfl
theorem slXAt_snoc (l : List Tm) (k : Nat) (h : k < l.length) : slXAt l (k + 1) = slXAt l k + slX l[k] := by
  unfold slXAt; rw [fe_take l k h, List.foldl_append]; rfl
theorem absW_num (n : Int) (h1 : -9007199254740992 < n) (h2 : n < 9007199254740992) : Num (absW n) (rabs n) ∧ absW n < 9223372036854775808 := by
  refine ⟨abs_num (fofI_num n h1 h2) (fofI_lt64 n), ?_⟩
  unfold absW; omega
/-- A term's part of the slope: every step has an answer, and the end is near. -/
theorem sl_run {t : Tm} (ht : TmOk t) : ∃ a b c d, double.div (absW t.amp) wTurn = some a ∧ double.mul a (absW t.rt) = some b ∧ double.div b wMil = some c ∧ double.mul c wTwo = some d ∧ double.mul d wPi = some (slW t) ∧
    slW t < 9223372036854775808 ∧ Ap (slW t) (slX t) (6 / 100000) ∧ 0 ≤ slX t ∧ slX t ≤ 25200000000 := by
  obtain ⟨a1, a2, -, -, r1, r2⟩ := ht
  obtain ⟨na, la⟩ := absW_num t.amp (by omega) (by omega)
  obtain ⟨nr, lr⟩ := absW_num t.rt (by omega) (by omega)
  have A1 : (t.amp : Rat) ≤ 1000000000 := Rat.intCast_le_intCast.2 a2
  have A0 : -1000000000 ≤ (t.amp : Rat) := Rat.intCast_le_intCast.2 a1
  have R1 : (t.rt : Rat) ≤ 4000000000000000 := Rat.intCast_le_intCast.2 r2
  have R0 : -4000000000000000 ≤ (t.rt : Rat) := Rat.intCast_le_intCast.2 r1
  have eW : slW t = fmul (fmul (fdiv (fmul (fdiv (absW t.amp) wTurn) (absW t.rt)) wMil) wTwo) wPi := rfl
  unfold slX
  rw [eW]
  have hA : rabs (t.amp : Rat) ≤ 1000000000 := rabs_le.2 ⟨A1, A0⟩
  have hR : rabs (t.rt : Rat) ≤ 4000000000000000 := rabs_le.2 ⟨R1, R0⟩
  have hA0 := rabs_nonneg (t.amp : Rat)
  have hR0 := rabs_nonneg (t.rt : Rat)
  generalize rabs (t.amp : Rat) = A at *
  generalize rabs (t.rt : Rat) = R at *
  generalize absW t.amp = wa at *
  generalize absW t.rt = wr at *
  clear eW A0 A1 R0 R1 a1 a2 r1 r2
  have nT : Num wTurn 1000000000 := by
    have h : cv wTurn = 1000000000 := by decide +kernel
    rw [← h]; exact cv_num (by decide +kernel)
  have nM : Num wMil 1000000 := by
    have h : cv wMil = 1000000 := by decide +kernel
    rw [← h]; exact cv_num (by decide +kernel)
  have n2 : Num wTwo 2 := by
    have h : cv wTwo = 2 := by decide +kernel
    rw [← h]; exact cv_num (by decide +kernel)
  have nP : Ap wPi piQ (2 / 10000000000000000) := by
    have h := (cv_num (w := wPi) (by decide +kernel)).ap
    have d1 : cv wPi ≤ piQ + 2 / 10000000000000000 := by decide +kernel
    have d2 : piQ ≤ cv wPi + 2 / 10000000000000000 := by decide +kernel
    have h' := h.move d1 d2
    exact h'.mono (by grind)
  have lT : wTurn < 9223372036854775808 := by decide +kernel
  have lM : wMil < 9223372036854775808 := by decide +kernel
  have l2 : wTwo < 9223372036854775808 := by decide +kernel
  have lP : wPi < 9223372036854775808 := by decide +kernel
  have pib : 3 ≤ piQ ∧ piQ ≤ 315 / 100 := by decide +kernel
  have p1 : p2 ((1 : Nat) : Int) = 2 := by decide +kernel
  have u1 : p2 (((1 : Nat) : Int) - 54) + p2 (((1 : Nat) : Int) - 53) ≤ 4 / 10000000000000000 := by decide +kernel
  have v1 : p2 (((1 : Nat) : Int) - 54) ≤ 1 / 10000000000000000 * 2 := by decide +kernel
  have p52 : p2 ((52 : Nat) : Int) = 4503599627370496 := by decide +kernel
  have u52 : p2 (((52 : Nat) : Int) - 53) = 1 / 2 := by decide +kernel
  have p33 : p2 ((33 : Nat) : Int) = 8589934592 := by decide +kernel
  have u33 : p2 (((33 : Nat) : Int) - 54) + p2 (((33 : Nat) : Int) - 53) ≤ 15 / 10000000 := by decide +kernel
  have v33 : p2 (((33 : Nat) : Int) - 54) ≤ 1 / 1000000 := by decide +kernel
  have p34 : p2 ((34 : Nat) : Int) = 17179869184 := by decide +kernel
  have u34 : p2 (((34 : Nat) : Int) - 53) ≤ 2 / 1000000 := by decide +kernel
  have p35 : p2 ((35 : Nat) : Int) = 34359738368 := by decide +kernel
  have u35 : p2 (((35 : Nat) : Int) - 53) ≤ 4 / 1000000 := by decide +kernel
  have dT : A / 1000000000 = A * (1 / 1000000000) := by rw [Rat.div_def, Rat.div_def]; grind
  have X1 : 0 ≤ A * (1 / 1000000000) ∧ A * (1 / 1000000000) ≤ 1 := by constructor <;> grind
  -- the amplitude
  obtain ⟨a, q1, q2⟩ := div_ap 1000000000 1 1 (by omega) na.ap nT.ap (by grind) (by grind) (by rw [dT]; exact rabs_le.2 ⟨by grind, by grind⟩) (by rw [p1]; grind)
  have q3 := q2.mono (e' := 4 / 10000000000000000) (by grind)
  rw [dT] at q3
  have la1 := div_lt63 la lT na nT (by grind) q1
  obtain ⟨Y1, m1, -, -⟩ := q3.num
  generalize hX1 : A * (1 / 1000000000) = x1 at *
  -- by the rate
  obtain ⟨b, s1, s2⟩ := mul_ap 1 4000000000000000 52 (by omega) q3 nr.ap X1.2 (by grind) hR (by grind) (by rw [p52]; grind)
  have s3 := s2.mono (e' := 3) (by rw [u52]; grind)
  have lb := mul_lt63 la1 lr m1 nr s1
  obtain ⟨Y2, m2, -, -⟩ := s3.num
  have X2 : 0 ≤ x1 * R ∧ x1 * R ≤ 4000000000000000 := by
    have k1 := Rat.mul_nonneg X1.1 hR0
    have k2 := Rat.mul_le_mul_of_nonneg_right X1.2 hR0
    constructor <;> grind
  generalize hX2 : x1 * R = x2 at *
  have dM : x2 / 1000000 = x2 * (1 / 1000000) := by rw [Rat.div_def, Rat.div_def]; grind
  obtain ⟨c, t1, t2⟩ := div_ap 1000000 4000000000 33 (by omega) s3 nM.ap (by grind) (by grind) (by rw [dM]; exact rabs_le.2 ⟨by grind, by grind⟩) (by rw [p33]; grind)
  have t3 := t2.mono (e' := 5 / 1000000) (by grind)
  rw [dM] at t3
  have lc := div_lt63 lb lM m2 nM (by grind) t1
  obtain ⟨Y3, m3, -, -⟩ := t3.num
  have X3 : 0 ≤ x2 * (1 / 1000000) ∧ x2 * (1 / 1000000) ≤ 4000000000 := by constructor <;> grind
  generalize hX3 : x2 * (1 / 1000000) = x3 at *
  obtain ⟨d, y1, y2⟩ := mul_ap 4000000000 2 34 (by omega) t3 n2.ap X3.2 (by grind) (by grind) (by grind) (by rw [p34]; grind)
  have y3 := y2.mono (e' := 12 / 1000000) (by grind)
  have ld := mul_lt63 lc l2 m3 n2 y1
  obtain ⟨Y4, m4, -, -⟩ := y3.num
  obtain ⟨Y5, m5, -, -⟩ := nP.num
  obtain ⟨e, z1, z2⟩ := mul_ap 8000000000 4 35 (by omega) y3 nP (by grind) (by grind) (by grind) (by grind) (by rw [p35]; grind)
  have le := mul_lt63 ld lP m4 m5 z1
  have hend : A * R * (2 * piQ / 1000000000000000) = x3 * 2 * piQ := by
    have dp : 2 * piQ / 1000000000000000 = 2 * piQ * (1 / 1000000000000000) := by rw [Rat.div_def, Rat.div_def]; grind
    rw [dp, ← hX3, ← hX2, ← hX1]
    grind
  have X4 : 0 ≤ x3 * 2 * piQ ∧ x3 * 2 * piQ ≤ 25200000000 := by
    have k1 := Rat.mul_nonneg (show 0 ≤ x3 * 2 by grind) (show 0 ≤ piQ by grind)
    have k2 := Rat.mul_le_mul_of_nonneg_right (show x3 * 2 ≤ 8000000000 by grind) (show 0 ≤ piQ by grind)
    constructor <;> grind
  rw [hend]
  refine ⟨a, b, c, d, q1, s1, t1, y1, ?_, ?_, ?_, X4.1, X4.2⟩
  · rw [fdiv_of q1, fmul_of s1, fdiv_of t1, fmul_of y1, fmul_of z1]; exact z1
  · rw [fdiv_of q1, fmul_of s1, fdiv_of t1, fmul_of y1, fmul_of z1]; exact le
  · rw [fdiv_of q1, fmul_of s1, fdiv_of t1, fmul_of y1, fmul_of z1]; exact z2.mono (by grind)
end Go.Proofs.YtplhegjgkmabiaaDoor
