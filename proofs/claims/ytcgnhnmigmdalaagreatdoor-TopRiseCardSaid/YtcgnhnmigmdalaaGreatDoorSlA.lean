/- The slope of a sum in floating point. No program in sight. The slope of a sum: the fold and the interval around it. No program in sight. The change of the reference's sum between two instants, and the slope. No program in sight. -/
import Derived.Test.YtcgnhnmigmdalaaGreatDoorTrB
import Derived.Test.YtcgnhnmigmdalaaGreatDoorFltE
import Derived.Test.YtcgnhnmigmdalaaGreatDoorTrA
set_option linter.unusedVariables false
set_option linter.unusedSimpArgs false
namespace Go.Proofs.YtcgnhnmigmdalaaGreatDoor
section
open Ieee
def wMil : Nat := 4696837146684686336
def wGrow : Nat := 4607182418800021912
def absW (n : Int) : Nat := fofI n % 9223372036854775808
def slW (t : Tm) : Nat := fmul (fmul (fdiv (fmul (fdiv (absW t.amp) wTurn) (absW t.rt)) wMil) wTwo) wPi
def slAt (l : List Tm) (k : Nat) : Nat := (l.take k).foldl (fun v t => fadd v (slW t)) 0
def slX (t : Tm) : Rat := rabs t.amp * rabs t.rt * (2 * piQ / 1000000000000000)
def slXAt (l : List Tm) (k : Nat) : Rat := (l.take k).foldl (fun v t => v + slX t) 0
theorem slAt_snoc (l : List Tm) (k : Nat) (h : k < l.length) : slAt l (k + 1) = fadd (slAt l k) (slW l[k]) := by
  unfold slAt; rw [fe_take l k h, List.foldl_append]; rfl
theorem slXAt_snoc (l : List Tm) (k : Nat) (h : k < l.length) : slXAt l (k + 1) = slXAt l k + slX l[k] := by
  unfold slXAt; rw [fe_take l k h, List.foldl_append]; rfl
theorem absW_num (n : Int) (h1 : -9007199254740992 < n) (h2 : n < 9007199254740992) : Num (absW n) (rabs n) ∧ absW n < 9223372036854775808 := by
  refine ⟨abs_num (fofI_num n h1 h2) (fofI_lt64 n), ?_⟩
  unfold absW; omega
/-- A term's part of the slope: every step has an answer, and the end is near. -/
theorem sl_run {t : Tm} (ht : TmOk t) : ∃ a b c d, double.div (absW t.amp) wTurn = some a ∧ double.mul a (absW t.rt) = some b ∧ double.div b wMil = some c ∧ double.mul c wTwo = some d ∧ double.mul d wPi = some (slW t) ∧
    slW t < 9223372036854775808 ∧ Ap (slW t) (slX t) (6 / 100000) ∧ 0 ≤ slX t ∧ slX t ≤ 25200000000 := by
  obtain ⟨a1, a2, -, -, r1, r2⟩ := ht
  obtain ⟨na, la⟩ := absW_num t.amp (by omega) (by omega)
  obtain ⟨nr, lr⟩ := absW_num t.rt (by omega) (by omega)
  have A1 : (t.amp : Rat) ≤ 1000000000 := Rat.intCast_le_intCast.2 a2
  have A0 : -1000000000 ≤ (t.amp : Rat) := Rat.intCast_le_intCast.2 a1
  have R1 : (t.rt : Rat) ≤ 4000000000000000 := Rat.intCast_le_intCast.2 r2
  have R0 : -4000000000000000 ≤ (t.rt : Rat) := Rat.intCast_le_intCast.2 r1
  have eW : slW t = fmul (fmul (fdiv (fmul (fdiv (absW t.amp) wTurn) (absW t.rt)) wMil) wTwo) wPi := rfl
  unfold slX
  rw [eW]
  have hA : rabs (t.amp : Rat) ≤ 1000000000 := rabs_le.2 ⟨A1, A0⟩
  have hR : rabs (t.rt : Rat) ≤ 4000000000000000 := rabs_le.2 ⟨R1, R0⟩
  have hA0 := rabs_nonneg (t.amp : Rat)
  have hR0 := rabs_nonneg (t.rt : Rat)
  generalize rabs (t.amp : Rat) = A at *
  generalize rabs (t.rt : Rat) = R at *
  generalize absW t.amp = wa at *
  generalize absW t.rt = wr at *
  clear eW A0 A1 R0 R1 a1 a2 r1 r2
  have nT : Num wTurn 1000000000 := by
    have h : cv wTurn = 1000000000 := by decide +kernel
    rw [← h]; exact cv_num (by decide +kernel)
  have nM : Num wMil 1000000 := by
    have h : cv wMil = 1000000 := by decide +kernel
    rw [← h]; exact cv_num (by decide +kernel)
  have n2 : Num wTwo 2 := by
    have h : cv wTwo = 2 := by decide +kernel
    rw [← h]; exact cv_num (by decide +kernel)
  have nP : Ap wPi piQ (2 / 10000000000000000) := by
    have h := (cv_num (w := wPi) (by decide +kernel)).ap
    have d1 : cv wPi ≤ piQ + 2 / 10000000000000000 := by decide +kernel
    have d2 : piQ ≤ cv wPi + 2 / 10000000000000000 := by decide +kernel
    have h' := h.move d1 d2
    exact h'.mono (by grind)
  have lT : wTurn < 9223372036854775808 := by decide +kernel
  have lM : wMil < 9223372036854775808 := by decide +kernel
  have l2 : wTwo < 9223372036854775808 := by decide +kernel
  have lP : wPi < 9223372036854775808 := by decide +kernel
  have pib : 3 ≤ piQ ∧ piQ ≤ 315 / 100 := by decide +kernel
  have p1 : p2 ((1 : Nat) : Int) = 2 := by decide +kernel
  have u1 : p2 (((1 : Nat) : Int) - 54) + p2 (((1 : Nat) : Int) - 53) ≤ 4 / 10000000000000000 := by decide +kernel
  have v1 : p2 (((1 : Nat) : Int) - 54) ≤ 1 / 10000000000000000 * 2 := by decide +kernel
  have p52 : p2 ((52 : Nat) : Int) = 4503599627370496 := by decide +kernel
  have u52 : p2 (((52 : Nat) : Int) - 53) = 1 / 2 := by decide +kernel
  have p33 : p2 ((33 : Nat) : Int) = 8589934592 := by decide +kernel
  have u33 : p2 (((33 : Nat) : Int) - 54) + p2 (((33 : Nat) : Int) - 53) ≤ 15 / 10000000 := by decide +kernel
  have v33 : p2 (((33 : Nat) : Int) - 54) ≤ 1 / 1000000 := by decide +kernel
  have p34 : p2 ((34 : Nat) : Int) = 17179869184 := by decide +kernel
  have u34 : p2 (((34 : Nat) : Int) - 53) ≤ 2 / 1000000 := by decide +kernel
  have p35 : p2 ((35 : Nat) : Int) = 34359738368 := by decide +kernel
  have u35 : p2 (((35 : Nat) : Int) - 53) ≤ 4 / 1000000 := by decide +kernel
  have dT : A / 1000000000 = A * (1 / 1000000000) := by rw [Rat.div_def, Rat.div_def]; grind
  have X1 : 0 ≤ A * (1 / 1000000000) ∧ A * (1 / 1000000000) ≤ 1 := by constructor <;> grind
  -- the amplitude
  obtain ⟨a, q1, q2⟩ := div_ap 1000000000 1 1 (by omega) na.ap nT.ap (by grind) (by grind) (by rw [dT]; exact rabs_le.2 ⟨by grind, by grind⟩) (by rw [p1]; grind)
  have q3 := q2.mono (e' := 4 / 10000000000000000) (by grind)
  rw [dT] at q3
  have la1 := div_lt63 la lT na nT (by grind) q1
  obtain ⟨Y1, m1, -, -⟩ := q3.num
  generalize hX1 : A * (1 / 1000000000) = x1 at *
  -- by the rate
  obtain ⟨b, s1, s2⟩ := mul_ap 1 4000000000000000 52 (by omega) q3 nr.ap X1.2 (by grind) hR (by grind) (by rw [p52]; grind)
  have s3 := s2.mono (e' := 3) (by rw [u52]; grind)
  have lb := mul_lt63 la1 lr m1 nr s1
  obtain ⟨Y2, m2, -, -⟩ := s3.num
  have X2 : 0 ≤ x1 * R ∧ x1 * R ≤ 4000000000000000 := by
    have k1 := Rat.mul_nonneg X1.1 hR0
    have k2 := Rat.mul_le_mul_of_nonneg_right X1.2 hR0
    constructor <;> grind
  generalize hX2 : x1 * R = x2 at *
  have dM : x2 / 1000000 = x2 * (1 / 1000000) := by rw [Rat.div_def, Rat.div_def]; grind
  obtain ⟨c, t1, t2⟩ := div_ap 1000000 4000000000 33 (by omega) s3 nM.ap (by grind) (by grind) (by rw [dM]; exact rabs_le.2 ⟨by grind, by grind⟩) (by rw [p33]; grind)
  have t3 := t2.mono (e' := 5 / 1000000) (by grind)
  rw [dM] at t3
  have lc := div_lt63 lb lM m2 nM (by grind) t1
  obtain ⟨Y3, m3, -, -⟩ := t3.num
  have X3 : 0 ≤ x2 * (1 / 1000000) ∧ x2 * (1 / 1000000) ≤ 4000000000 := by constructor <;> grind
  generalize hX3 : x2 * (1 / 1000000) = x3 at *
  obtain ⟨d, y1, y2⟩ := mul_ap 4000000000 2 34 (by omega) t3 n2.ap X3.2 (by grind) (by grind) (by grind) (by rw [p34]; grind)
  have y3 := y2.mono (e' := 12 / 1000000) (by grind)
  have ld := mul_lt63 lc l2 m3 n2 y1
  obtain ⟨Y4, m4, -, -⟩ := y3.num
  obtain ⟨Y5, m5, -, -⟩ := nP.num
  obtain ⟨e, z1, z2⟩ := mul_ap 8000000000 4 35 (by omega) y3 nP (by grind) (by grind) (by grind) (by grind) (by rw [p35]; grind)
  have le := mul_lt63 ld lP m4 m5 z1
  have hend : A * R * (2 * piQ / 1000000000000000) = x3 * 2 * piQ := by
    have dp : 2 * piQ / 1000000000000000 = 2 * piQ * (1 / 1000000000000000) := by rw [Rat.div_def, Rat.div_def]; grind
    rw [dp, ← hX3, ← hX2, ← hX1]
    grind
  have X4 : 0 ≤ x3 * 2 * piQ ∧ x3 * 2 * piQ ≤ 25200000000 := by
    have k1 := Rat.mul_nonneg (show 0 ≤ x3 * 2 by grind) (show 0 ≤ piQ by grind)
    have k2 := Rat.mul_le_mul_of_nonneg_right (show x3 * 2 ≤ 8000000000 by grind) (show 0 ≤ piQ by grind)
    constructor <;> grind
  rw [hend]
  refine ⟨a, b, c, d, q1, s1, t1, y1, ?_, ?_, ?_, X4.1, X4.2⟩
  · rw [fdiv_of q1, fmul_of s1, fdiv_of t1, fmul_of y1, fmul_of z1]; exact z1
  · rw [fdiv_of q1, fmul_of s1, fdiv_of t1, fmul_of y1, fmul_of z1]; exact le
  · rw [fdiv_of q1, fmul_of s1, fdiv_of t1, fmul_of y1, fmul_of z1]; exact z2.mono (by grind)
end
section
open Ieee
theorem slp_run {l : List Tm} (h40 : l.length ≤ 40) (h : ∀ t ∈ l, TmOk t) : ∀ k, k ≤ l.length →
    Ap (slAt l k) (slXAt l k) ((k : Rat) * (19 / 100000)) ∧ 0 ≤ slXAt l k ∧ slXAt l k ≤ 25200000000 * (k : Rat) ∧ slAt l k < 9223372036854775808 ∧ (∀ hk : k < l.length, double.add (slAt l k) (slW l[k]) = some (slAt l (k + 1)))
  | 0, _ => by
    have e0 : ((0 : Nat) : Rat) = 0 := rfl
    have z : Ap (slAt l 0) (slXAt l 0) 0 := num_zero.ap
    have x0 : slXAt l 0 = 0 := rfl
    have w0 : slAt l 0 = 0 := rfl
    refine ⟨by rw [e0]; exact z.mono (by grind), by rw [x0]; exact Rat.le_refl, by rw [x0, e0]; grind, by rw [w0]; omega, fun hk => ?_⟩
    obtain ⟨a, b, c, d, -, -, -, -, -, s6, s7, s8, s9⟩ := sl_run (h l[0] (List.getElem_mem hk))
    have p40 : p2 ((40 : Nat) : Int) = 1099511627776 := by decide +kernel
    obtain ⟨r, r1, r2⟩ := add_ap 40 (by omega) z s7 (by rw [p40, x0]; grind) (by rw [p40, x0]; grind)
    rw [r1, slAt_snoc l 0 hk, fadd_of r1]
  | k + 1, hk1 => by
    have hk : k < l.length := by omega
    obtain ⟨i1, i2, i3, i5, i4⟩ := slp_run h40 h k (by omega)
    obtain ⟨a, b, c, d, -, -, -, -, -, s6, s7, s8, s9⟩ := sl_run (h l[k] (List.getElem_mem hk))
    have p40 : p2 ((40 : Nat) : Int) = 1099511627776 := by decide +kernel
    have u40 : p2 (((40 : Nat) : Int) - 53) ≤ 13 / 100000 := by decide +kernel
    have k40 : (k : Rat) ≤ 39 := by
      have : (k : Rat) ≤ ((39 : Nat) : Rat) := cast_le (by omega)
      exact this
    have k0 : (0 : Rat) ≤ (k : Rat) := by exact_mod_cast Nat.zero_le k
    have ck : ((k + 1 : Nat) : Rat) = (k : Rat) + 1 := by push_cast; rfl
    have a4 := i4 hk
    obtain ⟨r, r1, r2⟩ := add_ap 40 (by omega) i1 s7 (by rw [p40]; grind) (by rw [p40]; grind)
    rw [a4] at r1
    obtain rfl := Option.some.inj r1
    obtain ⟨Y1, m1, -, -⟩ := i1.num
    obtain ⟨Y2, m2, -, -⟩ := s7.num
    have l63 := add_lt63 i5 s6 m1 m2 a4
    rw [slXAt_snoc l k hk]
    have j1 : Ap (slAt l (k + 1)) (slXAt l k + slX l[k]) (((k + 1 : Nat) : Rat) * (19 / 100000)) := r2.mono (by rw [ck]; grind)
    have j2 : 0 ≤ slXAt l k + slX l[k] := by grind
    have j3 : slXAt l k + slX l[k] ≤ 25200000000 * ((k + 1 : Nat) : Rat) := by rw [ck]; grind
    refine ⟨j1, j2, j3, l63, fun hkk => ?_⟩
    obtain ⟨a', b', c', d', -, -, -, -, -, f6, f7, f8, f9⟩ := sl_run (h l[k + 1] (List.getElem_mem hkk))
    obtain ⟨r', s1, s2⟩ := add_ap 40 (by omega) j1 f7 (by rw [p40, ck]; grind) (by rw [p40, ck]; grind)
    rw [s1, slAt_snoc l (k + 1) hkk, fadd_of s1]
def slG (l : List Tm) : Nat := fmul (slAt l l.length) wGrow
def slM (r : Int) : Nat := fdiv (fofI r) wMil
def slLo (r : Int) (l : List Tm) : Int := arLo (fsub (slM r) (slG l))
def slHi (r : Int) (l : List Tm) : Int := arHi (fadd (slM r) (slG l))
/-- The interval of the slope. -/
theorem slope_run {l : List Tm} {r : Int} (h40 : l.length ≤ 40) (h : ∀ t ∈ l, TmOk t) (r1 : -4000000000000000 ≤ r) (r2 : r ≤ 4000000000000000) :
    double.mul (slAt l l.length) wGrow = some (slG l) ∧ double.div (fofI r) wMil = some (slM r) ∧ double.sub (slM r) (slG l) = some (fsub (slM r) (slG l)) ∧ double.add (slM r) (slG l) = some (fadd (slM r) (slG l)) ∧
      AroundP (fsub (slM r) (slG l)) ∧ AroundP (fadd (slM r) (slG l)) ∧ slLo r l ≤ slHi r l ∧ (slLo r l : Rat) ≤ (r : Rat) * (1 / 1000000) - slXAt l l.length + 3 ∧ (r : Rat) * (1 / 1000000) + slXAt l l.length - 3 ≤ (slHi r l : Rat) ∧
      -1100000000000 ≤ slLo r l ∧ slLo r l ≤ 1100000000000 ∧ -1100000000000 ≤ slHi r l ∧ slHi r l ≤ 1100000000000 := by
  obtain ⟨i1, i2, i3, i5, -⟩ := slp_run h40 h l.length (Nat.le_refl _)
  have k40 : (l.length : Rat) ≤ 40 := by
    have : (l.length : Rat) ≤ ((40 : Nat) : Rat) := cast_le h40
    exact this
  have k0 : (0 : Rat) ≤ (l.length : Rat) := by exact_mod_cast Nat.zero_le _
  unfold slLo slHi slG slM
  have i1' := i1.mono (e' := 76 / 10000) (by grind)
  have i3' : slXAt l l.length ≤ 1008000000000 := by grind
  clear i1 i3
  generalize slAt l l.length = v at *
  generalize slXAt l l.length = V at *
  have p40 : p2 ((40 : Nat) : Int) = 1099511627776 := by decide +kernel
  have u40 : p2 (((40 : Nat) : Int) - 53) ≤ 13 / 100000 := by decide +kernel
  have p41 : p2 ((41 : Nat) : Int) = 2199023255552 := by decide +kernel
  have u41 : p2 (((41 : Nat) : Int) - 53) ≤ 25 / 100000 := by decide +kernel
  have p32 : p2 ((32 : Nat) : Int) = 4294967296 := by decide +kernel
  have u32 : p2 (((32 : Nat) : Int) - 54) + p2 (((32 : Nat) : Int) - 53) ≤ 1 / 1000000 := by decide +kernel
  have v32 : p2 (((32 : Nat) : Int) - 54) ≤ 1 / 1000000 := by decide +kernel
  have t18 : (1 : Rat) / 10 ^ 18 ≤ 1 / 1000000000 := by decide +kernel
  have nG : Ap wGrow 1 (2 / 1000000000000) := by
    have h := (cv_num (w := wGrow) (by decide +kernel)).ap
    have d1 : cv wGrow ≤ 1 + 2 / 1000000000000 := by decide +kernel
    have d2 : 1 ≤ cv wGrow + 2 / 1000000000000 := by decide +kernel
    have h' := h.move d1 d2
    exact h'.mono (by grind)
  have nM : Num wMil 1000000 := by
    have h : cv wMil = 1000000 := by decide +kernel
    rw [← h]; exact cv_num (by decide +kernel)
  have R1 : (r : Rat) ≤ 4000000000000000 := Rat.intCast_le_intCast.2 r2
  have R0 : -4000000000000000 ≤ (r : Rat) := Rat.intCast_le_intCast.2 r1
  have nr := fofI_num r (by omega) (by omega)
  have dM : (r : Rat) / 1000000 = (r : Rat) * (1 / 1000000) := by rw [Rat.div_def, Rat.div_def]; grind
  obtain ⟨g, g1, g2⟩ := mul_ap 1008000000000 1 40 (by omega) i1' nG (by grind) (by grind) (by grind) (by grind) (by rw [p40]; grind)
  have g3 := g2.mono (e' := 21 / 10) (by grind)
  rw [Rat.mul_one] at g3
  obtain ⟨Y, y1, y2, y3⟩ := g3.num
  obtain ⟨Y0, z1, -, -⟩ := i1'.num
  obtain ⟨Y9, z9, -, -⟩ := nG.num
  have lg := mul_lt63 i5 (by decide +kernel) z1 z9 g1
  have hY : 0 ≤ Y := by
    rcases num_nn lg y1 with q | q
    · rw [q] at y1
      obtain ⟨s, m, p, e1, e2⟩ := y1
      obtain ⟨s', m', p', e1', e2'⟩ := num_zero
      unfold Reads at e1 e1'
      rw [e1] at e1'
      cases e1'
      rw [← e2, e2']
      exact Rat.le_refl
    · exact Rat.le_of_lt q
  obtain ⟨mn, n1, n2⟩ := div_ap 1000000 4000000000 32 (by omega) nr.ap nM.ap (by grind) (by grind) (by rw [dM]; exact rabs_le.2 ⟨by grind, by grind⟩) (by rw [p32]; grind)
  rw [dM] at n2
  have n3 := n2.mono (e' := 1 / 100000) (by grind)
  obtain ⟨M, m1, m2, m3⟩ := n3.num
  rw [fmul_of g1, fdiv_of n1]
  obtain ⟨a, a1, a2⟩ := sub_ap 41 (by omega) m1.ap y1.ap (by rw [p41]; grind) (by rw [p41]; grind)
  obtain ⟨b, b1, b2⟩ := add_ap 41 (by omega) m1.ap y1.ap (by rw [p41]; grind) (by rw [p41]; grind)
  rw [fsub_of a1, fadd_of b1]
  have a3 := a2.mono (e' := 25 / 100000) (by grind)
  have b3 := b2.mono (e' := 25 / 100000) (by grind)
  obtain ⟨s1, s2, X1, X2, c1, c2, c3, c4, c5, c6, c7, c8, c9, c10, c11, c12, c13, c14⟩ := around_run 41 (by omega) a3 (by rw [p41]; grind) (by rw [p41]; grind)
  obtain ⟨t1, t2, X3, X4, d1, d2, d3, d4, d5, d6, d7, d8, d9, d10, d11, d12, d13, d14⟩ := around_run 41 (by omega) b3 (by rw [p41]; grind) (by rw [p41]; grind)
  have cancel : ∀ {a b : Int}, (a : Rat) ≤ (b : Rat) → a ≤ b := fun h => Rat.intCast_le_intCast.1 h
  have w1 : ((1100000000000 : Int) : Rat) = 1100000000000 := rfl
  have w2 : ((-1100000000000 : Int) : Rat) = -1100000000000 := rfl
  generalize (1 : Rat) / 10 ^ 18 = dd at *
  generalize p2 (((41 : Nat) : Int) - 53) = uu at *
  refine ⟨g1, n1, a1, b1, ⟨s1, s2, X1, X2, c1, c2, c3, c4, c5, c6, c7, c8, c9, c10⟩, ⟨t1, t2, X3, X4, d1, d2, d3, d4, d5, d6, d7, d8, d9, d10⟩, cancel (by grind), by grind, by grind, cancel (by rw [w2]; grind), cancel (by rw [w1]; grind), cancel (by rw [w2]; grind), cancel (by rw [w1]; grind)⟩
end
section
open Ieee
theorem partA_bd (t : Tm) (inst : Int) : 0 ≤ partA t inst ∧ partA t inst ≤ 1000000000 := by
  have m0 := Int.emod_nonneg (t.ph + grQ t.rt inst) (show (1000000000 : Int) ≠ 0 by omega)
  have m1 := Int.emod_lt_of_pos (t.ph + grQ t.rt inst) (show (0 : Int) < 1000000000 by omega)
  have r0 : 0 ≤ grR t.rt inst := Int.emod_nonneg _ (by omega)
  have r1 : grR t.rt inst < 86400000000000 := Int.emod_lt_of_pos _ (by omega)
  unfold partA
  generalize (t.ph + grQ t.rt inst) % 1000000000 = n at *
  generalize grR t.rt inst = r at *
  have dv : (r : Rat) / 86400000000000 = (r : Rat) * (1 / 86400000000000) := by rw [Rat.div_def, Rat.div_def]; grind
  rw [dv]
  have a0 : (0 : Rat) ≤ (n : Rat) := by exact_mod_cast m0
  have a1 : (n : Rat) ≤ 999999999 := by
    have := Rat.intCast_le_intCast.2 (show n ≤ 999999999 by omega)
    exact this
  have b0 : (0 : Rat) ≤ (r : Rat) := by exact_mod_cast r0
  have b1 : (r : Rat) ≤ 86400000000000 := by
    have := Rat.intCast_le_intCast.2 (show r ≤ 86400000000000 by omega)
    exact this
  constructor <;> grind
/-- A thousandth of a day later: the argument has grown by the rate, up to whole turns. -/
theorem partA_step (t : Tm) (inst : Int) : ∃ j : Int, partA t (inst + 86400) = partA t inst + (t.rt : Rat) * (1 / 1000000000) + (j : Rat) * 1000000000 := by
  have key : ∀ i : Int, ∃ j : Int, partA t i = (t.ph : Rat) + ((t.rt * i : Int) : Rat) * (1 / 86400000000000) + (j : Rat) * 1000000000 := by
    intro i
    have e1 := Int.emod_add_mul_ediv (t.rt * i) 86400000000000
    have e2 := Int.emod_add_mul_ediv (t.ph + grQ t.rt i) 1000000000
    refine ⟨-((t.ph + grQ t.rt i) / 1000000000), ?_⟩
    unfold partA grR
    unfold grQ at *
    have dv : ((t.rt * i % 86400000000000 : Int) : Rat) / 86400000000000 = ((t.rt * i % 86400000000000 : Int) : Rat) * (1 / 86400000000000) := by rw [Rat.div_def, Rat.div_def]; grind
    rw [dv]
    generalize t.rt * i % 86400000000000 = r at *
    generalize t.rt * i / 86400000000000 = q at *
    generalize (t.ph + q) % 1000000000 = n at *
    generalize (t.ph + q) / 1000000000 = k at *
    have f1 : (r : Rat) + 86400000000000 * (q : Rat) = ((t.rt * i : Int) : Rat) := by rw [← e1]; push_cast; rfl
    have f2 : (n : Rat) + 1000000000 * (k : Rat) = (t.ph : Rat) + (q : Rat) := by
      have := congrArg (fun z : Int => (z : Rat)) e2
      push_cast at this
      exact this
    push_cast
    push_cast at f1
    grind
  obtain ⟨j1, h1⟩ := key (inst + 86400)
  obtain ⟨j0, h0⟩ := key inst
  refine ⟨j1 - j0, ?_⟩
  rw [h1, h0]
  push_cast
  grind
theorem turn_cases {a b : Rat} {j : Int} (h : b = a + (j : Rat) * 1000000000) (h1 : -1500000000 < b - a) (h2 : b - a < 1500000000) : j = -1 ∨ j = 0 ∨ j = 1 := by
  have a1 : ((-2 : Int) : Rat) < (j : Rat) := by
    have c : ((-2 : Int) : Rat) = -2 := rfl
    rw [c]; grind
  have a2 : (j : Rat) < ((2 : Int) : Rat) := by
    have c : ((2 : Int) : Rat) = 2 := rfl
    rw [c]; grind
  have b1 := Rat.intCast_lt_intCast.1 a1
  have b2 := Rat.intCast_lt_intCast.1 a2
  omega
theorem sin_step {x y d : Rat} {j : Int} (hx0 : 0 ≤ x) (hx1 : x ≤ 2 * piQ) (hy0 : 0 ≤ y) (hy1 : y ≤ 2 * piQ) (hd : rabs d ≤ 3 / 100) (h : y = x + d + (j : Rat) * (2 * piQ)) (hj : j = -1 ∨ j = 0 ∨ j = 1) :
    rabs (S y - S x) ≤ (1 + 1 / 100000000000) * rabs d + 12 / 10000000000000 := by
  have pib := pi_num
  obtain ⟨d1, d2⟩ := rabs_le.1 hd
  rcases hj with rfl | rfl | rfl
  · have c : ((-1 : Int) : Rat) = -1 := rfl
    rw [c] at h
    obtain ⟨t1, t2⟩ := rabs_le.1 (sin_turn (x := y) (rabs_le.2 ⟨by grind, by grind⟩)).1
    have l := (sin_lipQ (x := y + 2 * piQ) (y := x) (rabs_le.2 ⟨by grind, by grind⟩) (rabs_le.2 ⟨by grind, by grind⟩)).1
    have e : y + 2 * piQ - x = d := by grind
    rw [e] at l
    obtain ⟨l1, l2⟩ := rabs_le.1 l
    rw [rabs_le]
    constructor <;> grind
  · have c : ((0 : Int) : Rat) = 0 := rfl
    rw [c] at h
    have l := (sin_lipQ (x := y) (y := x) (rabs_le.2 ⟨by grind, by grind⟩) (rabs_le.2 ⟨by grind, by grind⟩)).1
    have e : y - x = d := by grind
    rw [e] at l
    obtain ⟨l1, l2⟩ := rabs_le.1 l
    rw [rabs_le]
    constructor <;> grind
  · have c : ((1 : Int) : Rat) = 1 := rfl
    rw [c] at h
    obtain ⟨t1, t2⟩ := rabs_le.1 (sin_turn (x := x) (rabs_le.2 ⟨by grind, by grind⟩)).1
    have l := (sin_lipQ (x := y) (y := x + 2 * piQ) (rabs_le.2 ⟨by grind, by grind⟩) (rabs_le.2 ⟨by grind, by grind⟩)).1
    have e : y - (x + 2 * piQ) = d := by grind
    rw [e] at l
    obtain ⟨l1, l2⟩ := rabs_le.1 l
    rw [rabs_le]
    constructor <;> grind
end
end Go.Proofs.YtcgnhnmigmdalaaGreatDoor
