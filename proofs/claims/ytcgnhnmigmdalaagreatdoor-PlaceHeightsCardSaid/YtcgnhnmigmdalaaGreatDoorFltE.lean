/- A sharper bound of the reference's sine and cosine: the error along the circle doubles, that across it does not grow while the angle is small. No program in sight. The program's value of a sum contains the reference's. No program in sight. -/
import Derived.Test.YtcgnhnmigmdalaaGreatDoorFltD
set_option linter.unusedVariables false
set_option linter.unusedSimpArgs false
namespace Go.Proofs.YtcgnhnmigmdalaaGreatDoor
section
theorem double_sin20 : pbd (padd (pstretch 2 1 sT) (pscale (-1) (pscale 2 (pmul sT cT)))) (16/5) ≤ 1 / 10 ^ 20 := by decide +kernel
theorem double_cos20 : pbd (padd (pstretch 2 1 cT) (pscale (-1) (padd [1] (pscale (-2) (pmul sT sT))))) (16/5) ≤ 1 / 10 ^ 20 := by decide +kernel
theorem circle20 : pbd (padd (padd (pmul sT sT) (pmul cT cT)) [-1]) (16/5) ≤ 1 / 10 ^ 20 := by decide +kernel
theorem sin_double20 {y : Rat} (hy : rabs y ≤ 16/5) : rabs (S (2 * y) - 2 * S y * C y) ≤ 1 / 10 ^ 20 := by
  have h := pv_near hy _ _ double_sin20
  rw [pv_stretch, pv_scale, pv_mul] at h
  rw [rabs_le]
  unfold S C
  constructor <;> grind
theorem cos_double20 {y : Rat} (hy : rabs y ≤ 16/5) : rabs (C (2 * y) - (1 - 2 * S y * S y)) ≤ 1 / 10 ^ 20 := by
  have h := pv_near hy _ _ double_cos20
  rw [pv_stretch, pv_add, pv_scale, pv_mul] at h
  have e1 : pv [1] y = 1 := by unfold pv; simp; grind
  rw [e1] at h
  rw [rabs_le]
  unfold S C
  constructor <;> grind
theorem circ20 {y : Rat} (hy : rabs y ≤ 16/5) : rabs (S y * S y + C y * C y - 1) ≤ 1 / 10 ^ 20 := by
  have h := pv_bd hy (padd (padd (pmul sT sT) (pmul cT cT)) [-1])
  rw [pv_add, pv_add, pv_mul, pv_mul] at h
  have e1 : pv [-1] y = -1 := by unfold pv; simp; grind
  rw [e1] at h
  have := circle20
  unfold S C
  have e : pv sT y * pv sT y + pv cT y * pv cT y - 1 = pv sT y * pv sT y + pv cT y * pv cT y + -1 := by grind
  rw [e]
  grind
/-- A bound of the sine up to 32/5. -/
def sgB (R : Rat) : Rat := if pbd sT R ≤ 1 then pbd sT R else 1 + 1 / 100000000000
theorem sgB_le {R y : Rat} (hy : rabs y ≤ R) (hR : R ≤ 32/5) : rabs (S y) ≤ sgB R := by
  unfold sgB
  split
  · exact pv_bd hy sT
  · have := (bd64 (y := y) (by grind)).1
    exact rabs_le.2 ⟨this.1, this.2⟩
/-- The errors along and across the circle. -/
def eT (s v y : Rat) : Rat := C y * (s - uQ * S y) + S y * (v - uQ * (1 - C y))
def eN (s v y : Rat) : Rat := S y * (s - uQ * S y) - C y * (v - uQ * (1 - C y))
def tnS (R : Rat) (q : Rat × Rat) : Rat × Rat := (2 * q.1 + 2 * (sgB (2 * R) + 1 / 1000000) * q.2 + 41/10, 4 * (sgB R * sgB R) * q.2 + 41/10)
theorem mul_rabs {a b A B : Rat} (ha : rabs a ≤ A) (hb : rabs b ≤ B) : rabs (a * b) ≤ A * B := by
  rw [rabs_mul]
  have a0 := rabs_nonneg a
  have b0 := rabs_nonneg b
  have m1 := Rat.mul_le_mul_of_nonneg_right ha b0
  have m2 := Rat.mul_le_mul_of_nonneg_left hb (show 0 ≤ A by grind)
  grind
theorem tn_alg (S C ds dv : Rat) : (1 - 2 * S * S) * (2 * (C * ds - S * dv)) + 2 * S * C * (4 * S * ds) = 2 * (C * ds + S * dv) + 2 * (2 * S * C) * (S * ds - C * dv) + 4 * S * dv * (S * S + C * C - 1) ∧
    2 * S * C * (2 * (C * ds - S * dv)) - (1 - 2 * S * S) * (4 * S * ds) = 4 * (S * S) * (S * ds - C * dv) + 4 * S * ds * (S * S + C * C - 1) := by
  constructor <;> grind
theorem tn_step {p : Int × Int} {y R : Rat} {q : Rat × Rat} (hy : rabs y ≤ R) (hR : R ≤ 16/5) (hs : rabs ((p.1 : Rat) - uQ * S y) ≤ 3000000) (hv : rabs ((p.2 : Rat) - uQ * (1 - C y)) ≤ 3000000)
    (h1 : rabs (eT p.1 p.2 y) ≤ q.1) (h2 : rabs (eN p.1 p.2 y) ≤ q.2) :
    rabs (eT (scStep p).1 (scStep p).2 (2 * y)) ≤ (tnS R q).1 ∧ rabs (eN (scStep p).1 (scStep p).2 (2 * y)) ≤ (tnS R q).2 := by
  have hy' : rabs y ≤ 16/5 := by grind
  have hy2 : rabs (2 * y) ≤ 2 * R := by
    rw [rabs_mul]
    have : rabs 2 = 2 := by decide +kernel
    rw [this]; grind
  obtain ⟨d1, d2⟩ := rabs_le.1 (sin_double20 hy')
  obtain ⟨d3, d4⟩ := rabs_le.1 (cos_double20 hy')
  have kap := circ20 hy'
  have b0 := sgB_le hy (show R ≤ 32/5 by grind)
  have b1 := sgB_le hy2 (by grind)
  have bb := bd64 (y := y) (by grind)
  have bb2 := bd64 (y := 2 * y) (by grind)
  obtain ⟨f1, f2⟩ := fm_near p.1 (U60 - p.2)
  obtain ⟨g1, g2⟩ := fm_near p.1 p.1
  have ec : (((U60 - p.2 : Int)) : Rat) = uQ - (p.2 : Rat) := by push_cast; rw [uQ_eq]
  rw [ec] at f1 f2
  have hst : (((scStep p).1 : Int) : Rat) = 2 * ((fm p.1 (U60 - p.2) : Int) : Rat) := by unfold scStep; push_cast; rfl
  have hst2 : (((scStep p).2 : Int) : Rat) = 2 * ((fm p.1 p.1 : Int) : Rat) := by unfold scStep; push_cast; rfl
  rw [hst, hst2]
  unfold eT eN at *
  have hu : uQ = 1152921504606846976 := rfl
  have t20 : (1 : Rat) / 10 ^ 20 = 1 / 100000000000000000000 := by decide +kernel
  rw [t20] at d1 d2 d3 d4 kap
  generalize ((fm p.1 (U60 - p.2) : Int) : Rat) = F at *
  generalize ((fm p.1 p.1 : Int) : Rat) = G at *
  generalize (p.1 : Rat) = s at *
  generalize (p.2 : Rat) = v at *
  generalize S (2 * y) = S2 at *
  generalize C (2 * y) = C2 at *
  generalize S y = sy at *
  generalize C y = cy at *
  obtain ⟨ds, hds⟩ : ∃ ds, s - uQ * sy = ds := ⟨_, rfl⟩
  obtain ⟨dv, hdv⟩ : ∃ dv, v - uQ * (1 - cy) = dv := ⟨_, rfl⟩
  have es : s = uQ * sy + ds := by grind
  have ev : v = uQ * (1 - cy) + dv := by grind
  rw [hds] at hs h1 h2
  rw [hdv] at hv h1 h2
  have ks := mul_rabs hs hv
  have kss := mul_rabs hs hs
  -- the two new errors up to small parts
  obtain ⟨a, ha⟩ : ∃ a, 2 * F - uQ * S2 = 2 * (cy * ds - sy * dv) + a := ⟨_, (by grind : 2 * F - uQ * S2 = 2 * (cy * ds - sy * dv) + (2 * F - uQ * S2 - 2 * (cy * ds - sy * dv)))⟩
  obtain ⟨b, hb⟩ : ∃ b, 2 * G - uQ * (1 - C2) = 4 * sy * ds + b := ⟨_, (by grind : 2 * G - uQ * (1 - C2) = 4 * sy * ds + (2 * G - uQ * (1 - C2) - 4 * sy * ds))⟩
  have u0 : (0 : Rat) < uQ := by decide +kernel
  obtain ⟨ks1, ks2⟩ := rabs_le.1 ks
  obtain ⟨kss1, kss2⟩ := rabs_le.1 kss
  have cancel : ∀ {s t : Rat}, s * uQ ≤ t * uQ → s ≤ t := fun h => Rat.le_of_mul_le_mul_right h u0
  have hF : s * (uQ - v) = uQ * (uQ * sy * cy - sy * dv + cy * ds) - ds * dv := by rw [es, ev]; grind
  have hG : s * s = uQ * (uQ * sy * sy + 2 * sy * ds) + ds * ds := by rw [es]; grind
  rw [hF] at f1 f2
  rw [hG] at g1 g2
  have ab1 : a ≤ 203/100 := cancel (by
    have e : a * uQ = 2 * (F * uQ) - uQ * uQ * S2 - 2 * (cy * ds - sy * dv) * uQ := by grind
    rw [e]
    have m := Rat.mul_le_mul_of_nonneg_left (show 2 * sy * cy - S2 ≤ 1 / 100000000000000000000 by grind) (Rat.le_of_lt u0)
    have m2 := Rat.mul_le_mul_of_nonneg_left m (Rat.le_of_lt u0)
    rw [hu] at *
    grind)
  have ab2 : -(203/100) ≤ a := cancel (by
    have e : a * uQ = 2 * (F * uQ) - uQ * uQ * S2 - 2 * (cy * ds - sy * dv) * uQ := by grind
    rw [e]
    have m := Rat.mul_le_mul_of_nonneg_left (show S2 - 2 * sy * cy ≤ 1 / 100000000000000000000 by grind) (Rat.le_of_lt u0)
    have m2 := Rat.mul_le_mul_of_nonneg_left m (Rat.le_of_lt u0)
    rw [hu] at *
    grind)
  have bb1 : b ≤ 203/100 := cancel (by
    have e : b * uQ = 2 * (G * uQ) - uQ * uQ * (1 - C2) - 4 * sy * ds * uQ := by grind
    rw [e]
    have m := Rat.mul_le_mul_of_nonneg_left (show C2 - (1 - 2 * sy * sy) ≤ 1 / 100000000000000000000 by grind) (Rat.le_of_lt u0)
    have m2 := Rat.mul_le_mul_of_nonneg_left m (Rat.le_of_lt u0)
    rw [hu] at *
    grind)
  have bb2' : -(203/100) ≤ b := cancel (by
    have e : b * uQ = 2 * (G * uQ) - uQ * uQ * (1 - C2) - 4 * sy * ds * uQ := by grind
    rw [e]
    have m := Rat.mul_le_mul_of_nonneg_left (show (1 - 2 * sy * sy) - C2 ≤ 1 / 100000000000000000000 by grind) (Rat.le_of_lt u0)
    have m2 := Rat.mul_le_mul_of_nonneg_left m (Rat.le_of_lt u0)
    rw [hu] at *
    grind)
  rw [ha, hb]
  clear f1 f2 g1 g2 hF hG ha hb es ev hds hdv hst hst2 ec ks ks1 ks2 kss kss1 kss2 cancel F G s v
  obtain ⟨al1, al2⟩ := tn_alg sy cy ds dv
  have rs : rabs sy ≤ 101/100 := rabs_le.2 ⟨by grind, by grind⟩
  have rc : rabs cy ≤ 101/100 := rabs_le.2 ⟨by grind, by grind⟩
  have rs2 : rabs S2 ≤ 1 + 1 / 100000000000 := rabs_le.2 ⟨bb2.1.1, bb2.1.2⟩
  have rc2 : rabs C2 ≤ 1 + 1 / 100000000000 := rabs_le.2 ⟨bb2.2.1, bb2.2.2⟩
  have ra : rabs a ≤ 203/100 := rabs_le.2 ⟨ab1, ab2⟩
  have rb : rabs b ≤ 203/100 := rabs_le.2 ⟨bb1, bb2'⟩
  have z1 := rabs_le.1 (mul_rabs rc2 ra)
  have z2 := rabs_le.1 (mul_rabs rs2 rb)
  have z3 := rabs_le.1 (mul_rabs rs2 ra)
  have z4 := rabs_le.1 (mul_rabs rc2 rb)
  have x1 := rabs_le.1 (mul_rabs rc hs)
  have x2 := rabs_le.1 (mul_rabs rs hv)
  have x3 := rabs_le.1 (mul_rabs rs hs)
  have rA : rabs (2 * (cy * ds - sy * dv)) ≤ 13000000 := rabs_le.2 ⟨by grind, by grind⟩
  have rB : rabs (4 * sy * ds) ≤ 13000000 := rabs_le.2 ⟨by grind, by grind⟩
  have rdc : rabs (C2 - (1 - 2 * sy * sy)) ≤ 1 / 100000000000000000000 := rabs_le.2 ⟨d3, d4⟩
  have rds : rabs (S2 - 2 * sy * cy) ≤ 1 / 100000000000000000000 := rabs_le.2 ⟨d1, d2⟩
  have y1 := rabs_le.1 (mul_rabs rdc rA)
  have y2 := rabs_le.1 (mul_rabs rds rB)
  have y3 := rabs_le.1 (mul_rabs rds rA)
  have y4 := rabs_le.1 (mul_rabs rdc rB)
  have k1 : rabs (4 * sy * dv) ≤ 13000000 := rabs_le.2 ⟨by grind, by grind⟩
  have w1 := rabs_le.1 (mul_rabs k1 kap)
  have w2 := rabs_le.1 (mul_rabs rB kap)
  have q2n : 0 ≤ q.2 := by have := rabs_nonneg (sy * ds - cy * dv); grind
  have sB0 : 0 ≤ sgB R := by have := rabs_nonneg sy; grind
  have v1 := rabs_le.1 (mul_rabs b1 h2)
  have v2 := rabs_le.1 (mul_rabs rds h2)
  have v3 := mul_rabs (mul_rabs b0 b0) h2
  obtain ⟨v31, v32⟩ := rabs_le.1 v3
  obtain ⟨t1, t2⟩ := rabs_le.1 h1
  unfold tnS
  dsimp only
  generalize sgB (2 * R) = g2 at *
  generalize sgB R * sgB R = gg at *
  have eqT : C2 * (2 * (cy * ds - sy * dv) + a) + S2 * (4 * sy * ds + b) = (1 - 2 * sy * sy) * (2 * (cy * ds - sy * dv)) + 2 * sy * cy * (4 * sy * ds) + (C2 - (1 - 2 * sy * sy)) * (2 * (cy * ds - sy * dv)) + (S2 - 2 * sy * cy) * (4 * sy * ds) + C2 * a + S2 * b := by grind
  have eqN : S2 * (2 * (cy * ds - sy * dv) + a) - C2 * (4 * sy * ds + b) = 2 * sy * cy * (2 * (cy * ds - sy * dv)) - (1 - 2 * sy * sy) * (4 * sy * ds) + (S2 - 2 * sy * cy) * (2 * (cy * ds - sy * dv)) - (C2 - (1 - 2 * sy * sy)) * (4 * sy * ds) + S2 * a - C2 * b := by grind
  have eqM : 2 * (2 * sy * cy) * (sy * ds - cy * dv) = 2 * (S2 * (sy * ds - cy * dv)) - 2 * ((S2 - 2 * sy * cy) * (sy * ds - cy * dv)) := by grind
  rw [eqT, eqN, al1, al2, eqM]
  generalize C2 * a = m1 at *
  generalize S2 * b = m2 at *
  generalize S2 * a = m3 at *
  generalize C2 * b = m4 at *
  generalize (C2 - (1 - 2 * sy * sy)) * (2 * (cy * ds - sy * dv)) = m5 at *
  generalize (S2 - 2 * sy * cy) * (4 * sy * ds) = m6 at *
  generalize (S2 - 2 * sy * cy) * (2 * (cy * ds - sy * dv)) = m7 at *
  generalize (C2 - (1 - 2 * sy * sy)) * (4 * sy * ds) = m8 at *
  generalize 4 * sy * dv * (sy * sy + cy * cy - 1) = m9 at *
  generalize 4 * sy * ds * (sy * sy + cy * cy - 1) = m10 at *
  generalize S2 * (sy * ds - cy * dv) = m11 at *
  generalize (S2 - 2 * sy * cy) * (sy * ds - cy * dv) = m12 at *
  have e4 : 4 * (sy * sy) * (sy * ds - cy * dv) = 4 * (sy * sy * (sy * ds - cy * dv)) := by grind
  rw [e4]
  generalize sy * sy * (sy * ds - cy * dv) = m13 at *
  generalize cy * ds + sy * dv = T at *
  constructor
  · rw [rabs_le]
    constructor <;> grind
  · rw [rabs_le]
    constructor <;> grind
theorem scX_near3 {arg : Int} (h0 : 0 ≤ arg) (h1 : arg ≤ 1000000000000000) : Nr (scX arg) (ang arg / 4096) 36 := by
  obtain ⟨a1, a2⟩ := ediv_near arg 1000000 (by omega)
  obtain ⟨b1, b2⟩ := ediv_near (arg / 1000000 * 19458077) 1000 (by omega)
  obtain ⟨c1, c2⟩ := ediv_near (arg * 7244 + (arg / 1000000 * 19458077) / 1000) 4096 (by omega)
  have r0 : (0 : Rat) ≤ (arg : Rat) := by exact_mod_cast h0
  have r1 : (arg : Rat) ≤ ((1000000000000000 : Int) : Rat) := Rat.intCast_le_intCast.2 h1
  have r2 : ((1000000000000000 : Int) : Rat) = 1000000000000000 := rfl
  rw [r2] at r1
  push_cast at a1 a2 b1 b2 c1 c2
  unfold Nr ang scX
  have k : uQ * (2 * piQ * (arg : Rat) / 10 ^ 15 / 4096) = (arg : Rat) * (uQ * 2 * piQ / 10 ^ 15 / 4096) := by
    simp only [Rat.div_def]; grind
  rw [k]
  have kk : uQ * 2 * piQ / 10 ^ 15 / 4096 ≤ 72440194580771229 / 40960000000000000 ∧ 724401945807700 / 409600000000000 ≤ uQ * 2 * piQ / 10 ^ 15 / 4096 := by decide +kernel
  have m1 := Rat.mul_le_mul_of_nonneg_left kk.1 r0
  have m2 := Rat.mul_le_mul_of_nonneg_left kk.2 r0
  generalize uQ * 2 * piQ / 10 ^ 15 / 4096 = kap at *
  generalize (arg : Rat) * kap = z at *
  push_cast
  constructor <;> grind
theorem start_sin3 : pbd (padd sT (pscale (-1) [0, 1, 0, -1/6, 0, 1/120])) (63 / 40960) ≤ 1 / 10 ^ 20 := by decide +kernel
theorem start_cos3 : pbd (padd (padd [1] (pscale (-1) cT)) (pscale (-1) [0, 0, 1/2, 0, -1/24])) (63 / 40960) ≤ 3 / 10 ^ 20 := by decide +kernel
theorem start_near3 {x : Int} {y : Rat} (hy : rabs y ≤ 63 / 40960) (h : Nr x y 36) : Nr (scStart x).1 (S y) (383/10) ∧ Nr (scStart x).2 (1 - C y) (28/10) := by
  obtain ⟨y1, y2⟩ := rabs_le.1 hy
  have n1 := fm_nr h h y2 y1 y2 y1
  have b2 := bil y2 y1 y2 y1
  have q1 : Nr (fm x x) (y * y) (112/100) := n1.mono (by decide +kernel)
  have n2 := fm_nr (A := 63 / 40960) (B := 1 / 100000) h q1 y2 y1 (by grind) (by grind)
  have q2 : Nr (fm x (fm x x)) (y * (y * y)) (101/100) := n2.mono (by decide +kernel)
  have b3 := bil (u := y) (v := y * y) (c := 63 / 40960) (d := 1 / 100000) y2 y1 (by grind) (by grind)
  have n3 := fm_nr (A := 1 / 100000) (B := 1 / 100000) q2 q1 (by grind) (by grind) (by grind) (by grind)
  have q3 : Nr (fm (fm x (fm x x)) (fm x x)) (y * (y * y) * (y * y)) (101/100) := n3.mono (by decide +kernel)
  have n4 := fm_nr (A := 1 / 100000) (B := 1 / 100000) q1 q1 (by grind) (by grind) (by grind) (by grind)
  have q4 : Nr (fm (fm x x) (fm x x)) (y * y * (y * y)) (101/100) := n4.mono (by decide +kernel)
  have t1 := tdiv_nr (d := 6) (by omega) q2
  have t2 := tdiv_nr (d := 120) (by omega) q3
  have t3 := tdiv_nr (d := 2) (by omega) q1
  have t4 := tdiv_nr (d := 24) (by omega) q4
  have p1 := pv_near hy _ _ start_sin3
  have p2 := pv_near hy _ _ start_cos3
  have e1 : pv [0, 1, 0, -1/6, 0, 1/120] y = y - y * (y * y) / 6 + y * (y * y) * (y * y) / 120 := by unfold pv; simp; grind
  have e2 : pv [0, 0, 1/2, 0, -1/24] y = y * y / 2 - y * y * (y * y) / 24 := by unfold pv; simp; grind
  rw [e1] at p1
  rw [pv_add, pv_scale, e2] at p2
  have e3 : pv [1] y = 1 := by unfold pv; simp; grind
  rw [e3] at p2
  have hu : uQ * (1 / 10 ^ 20) ≤ 2/100 := by decide +kernel
  have up : (0 : Rat) ≤ uQ := by decide +kernel
  obtain ⟨h1, h2⟩ := h
  obtain ⟨t11, t12⟩ := t1
  obtain ⟨t21, t22⟩ := t2
  obtain ⟨t31, t32⟩ := t3
  obtain ⟨t41, t42⟩ := t4
  have m1 := Rat.mul_le_mul_of_nonneg_left p1.1 up
  have m2 := Rat.mul_le_mul_of_nonneg_left p1.2 up
  have m3 := Rat.mul_le_mul_of_nonneg_left p2.1 up
  have m4 := Rat.mul_le_mul_of_nonneg_left p2.2 up
  have c6 : ((6 : Int) : Rat) = 6 := rfl
  have c120 : ((120 : Int) : Rat) = 120 := rfl
  have c2 : ((2 : Int) : Rat) = 2 := rfl
  have c24 : ((24 : Int) : Rat) = 24 := rfl
  rw [c6] at t11 t12
  rw [c120] at t21 t22
  rw [c2] at t31 t32
  rw [c24] at t41 t42
  unfold S C
  clear n1 n2 n3 n4 q1 q2 q3 q4 b2 b3 hy
  unfold Nr scStart
  push_cast
  generalize (fm x (fm x x)).tdiv 6 = k1 at *
  generalize (fm (fm x (fm x x)) (fm x x)).tdiv 120 = k2 at *
  generalize (fm x x).tdiv 2 = k3 at *
  generalize (fm (fm x x) (fm x x)).tdiv 24 = k4 at *
  generalize y * (y * y) / 6 = z1 at *
  generalize y * (y * y) * (y * y) / 120 = z2 at *
  generalize y * y / 2 = z3 at *
  generalize y * y * (y * y) / 24 = z4 at *
  generalize pv sT y = s0 at *
  generalize pv cT y = c0 at *
  generalize uQ = u at *
  generalize (x : Rat) = xr at *
  generalize (k1 : Rat) = r1 at *
  generalize (k2 : Rat) = r2 at *
  generalize (k3 : Rat) = r3 at *
  generalize (k4 : Rat) = r4 at *
  have w1 : u * (y - z1 + z2 + 1 / 10 ^ 20) = u * y - u * z1 + u * z2 + u * (1 / 10 ^ 20) := by grind
  have w2 : u * (s0 + 1 / 10 ^ 20) = u * s0 + u * (1 / 10 ^ 20) := by grind
  have w3 : u * (z3 - z4 + 3 / 10 ^ 20) = u * z3 - u * z4 + 3 * (u * (1 / 10 ^ 20)) := by grind
  have w4 : u * (1 + -1 * c0 + 3 / 10 ^ 20) = u * (1 - c0) + 3 * (u * (1 / 10 ^ 20)) := by grind
  have w5 : u * (1 + -1 * c0) = u * (1 - c0) := by grind
  rw [w1] at m1
  rw [w2] at m2
  rw [w3, w5] at m3
  rw [w4] at m4
  have w6 : u * (y - z1 + z2) = u * y - u * z1 + u * z2 := by grind
  have w7 : u * (z3 - z4) = u * z3 - u * z4 := by grind
  rw [w6] at m2
  rw [w7] at m4
  generalize u * (1 / 10 ^ 20) = ue at *
  generalize u * y = uy at *
  generalize u * z1 = uz1 at *
  generalize u * z2 = uz2 at *
  generalize u * z3 = uz3 at *
  generalize u * z4 = uz4 at *
  generalize u * s0 = us at *
  generalize u * (1 - c0) = uc at *
  clear p1 p2 w1 w2 w3 w4 w5 w6 w7 e1 e2 e3
  refine ⟨⟨?_, ?_⟩, ?_, ?_⟩
  all_goals grind
/-- From the errors along and across the circle back. -/
theorem tn_back {s v y : Rat} (hy : rabs y ≤ 32/5) (hs : rabs (s - uQ * S y) ≤ 3000000) (hv : rabs (v - uQ * (1 - C y)) ≤ 3000000) (h1 : rabs (eT s v y) ≤ 178000) (h2 : rabs (eN s v y) ≤ 1000) : rabs (s - uQ * S y) ≤ 180000 ∧ rabs (v - uQ * (1 - C y)) ≤ 180000 := by
  have hh := half_bd hy
  have bb := bd64 hy
  obtain ⟨d1, d2⟩ := rabs_le.1 (sin_double20 hh)
  obtain ⟨d3, d4⟩ := rabs_le.1 (cos_double20 hh)
  obtain ⟨k1, k2⟩ := rabs_le.1 (circ20 hh)
  have e2 : 2 * (y / 2) = y := by rw [Rat.div_def]; grind
  rw [e2] at d1 d2 d3 d4
  have bh := bd64 (y := y / 2) (by grind)
  have t20 : (1 : Rat) / 10 ^ 20 = 1 / 100000000000000000000 := by decide +kernel
  rw [t20] at d1 d2 d3 d4 k1 k2
  unfold eT eN at *
  generalize S (y / 2) = a at *
  generalize C (y / 2) = b at *
  generalize S y = sy at *
  generalize C y = cy at *
  generalize s - uQ * sy = ds at *
  generalize v - uQ * (1 - cy) = dv at *
  -- the circle, up to a small error
  have kap : rabs (sy * sy + cy * cy - 1) ≤ 1 / 10000000000 := by
    have ra : rabs a ≤ 101/100 := rabs_le.2 ⟨by grind, by grind⟩
    have rb : rabs b ≤ 101/100 := rabs_le.2 ⟨by grind, by grind⟩
    have pab := rabs_le.1 (mul_rabs ra rb)
    have paa := rabs_le.1 (mul_rabs ra ra)
    have x1 := rabs_le.1 (mul_rabs (a := sy - 2 * a * b) (b := sy + 2 * a * b) (A := 1 / 100000000000000000000) (B := 4) (rabs_le.2 ⟨d1, d2⟩) (rabs_le.2 ⟨by grind, by grind⟩))
    have x2 := rabs_le.1 (mul_rabs (a := cy - (1 - 2 * a * a)) (b := cy + (1 - 2 * a * a)) (A := 1 / 100000000000000000000) (B := 5) (rabs_le.2 ⟨d3, d4⟩) (rabs_le.2 ⟨by grind, by grind⟩))
    have x3 := rabs_le.1 (mul_rabs (a := 4 * (a * a)) (b := a * a + b * b - 1) (A := 5) (B := 1 / 100000000000000000000) (rabs_le.2 ⟨by grind, by grind⟩) (rabs_le.2 ⟨k1, k2⟩))
    have e : sy * sy + cy * cy - 1 = (sy - 2 * a * b) * (sy + 2 * a * b) + (cy - (1 - 2 * a * a)) * (cy + (1 - 2 * a * a)) + 4 * (a * a) * (a * a + b * b - 1) := by grind
    rw [e, rabs_le]
    generalize (sy - 2 * a * b) * (sy + 2 * a * b) = o1 at *
    generalize (cy - (1 - 2 * a * a)) * (cy + (1 - 2 * a * a)) = o2 at *
    generalize 4 * (a * a) * (a * a + b * b - 1) = o3 at *
    constructor <;> grind
  have r1 : rabs cy ≤ 1 + 1 / 100000000000 := rabs_le.2 ⟨bb.2.1, bb.2.2⟩
  have r2 : rabs sy ≤ 1 + 1 / 100000000000 := rabs_le.2 ⟨bb.1.1, bb.1.2⟩
  have m1 := rabs_le.1 (mul_rabs r1 h1)
  have m2 := rabs_le.1 (mul_rabs r2 h2)
  have m3 := rabs_le.1 (mul_rabs r2 h1)
  have m4 := rabs_le.1 (mul_rabs r1 h2)
  have m5 := rabs_le.1 (mul_rabs hs kap)
  have m6 := rabs_le.1 (mul_rabs hv kap)
  have q1 : ds = cy * (cy * ds + sy * dv) + sy * (sy * ds - cy * dv) - ds * (sy * sy + cy * cy - 1) := by grind
  have q2 : dv = sy * (cy * ds + sy * dv) - cy * (sy * ds - cy * dv) - dv * (sy * sy + cy * cy - 1) := by grind
  constructor
  · rw [q1, rabs_le]
    constructor <;> grind
  · rw [q2, rabs_le]
    constructor <;> grind
def tnIt : Nat → Rat → Rat × Rat → Rat × Rat
  | 0, _, q => q
  | k + 1, R, q => tnIt k (2 * R) (tnS R q)
def erOk : Nat → Rat → Rat × Rat → Bool
  | 0, _, _ => true
  | k + 1, R, e => decide (e.1 ≤ 3000000) && decide (e.2 ≤ 3000000) && erOk k (2 * R) (erS R e)
theorem Nr.abs {n : Int} {X e : Rat} (h : Nr n X e) : rabs ((n : Rat) - uQ * X) ≤ e := by
  obtain ⟨a, b⟩ := h
  exact rabs_le.2 ⟨by grind, by grind⟩
theorem iter_tn : ∀ (k : Nat) (p : Int × Int) (y R : Rat) (e q : Rat × Rat), okR k R = true → erOk k R e = true → rabs y ≤ R → Nr p.1 (S y) e.1 → Nr p.2 (1 - C y) e.2 → rabs (eT p.1 p.2 y) ≤ q.1 → rabs (eN p.1 p.2 y) ≤ q.2 →
    rabs (eT (scIter k p).1 (scIter k p).2 (dbl k y)) ≤ (tnIt k R q).1 ∧ rabs (eN (scIter k p).1 (scIter k p).2 (dbl k y)) ≤ (tnIt k R q).2
  | 0, _, _, _, _, _, _, _, _, _, _, h1, h2 => ⟨h1, h2⟩
  | k + 1, p, y, R, e, q, ho, he, hy, n1, n2, h1, h2 => by
    unfold okR at ho
    simp at ho
    unfold erOk at he
    simp at he
    have a1 := (n1.mono he.1.1).abs
    have a2 := (n2.mono he.1.2).abs
    obtain ⟨g1, g2⟩ := step_nr hy ho.1 n1 n2
    obtain ⟨t1, t2⟩ := tn_step hy ho.1 a1 a2 h1 h2
    refine iter_tn k (scStep p) (2 * y) (2 * R) (erS R e) (tnS R q) ho.2 he.2 ?_ g1 g2 t1 t2
    rw [rabs_mul]
    have : rabs 2 = 2 := by decide +kernel
    rw [this]
    grind
theorem tn12 : (tnIt 12 (63 / 40960) (384/10, 29/10)).1 ≤ 178000 ∧ (tnIt 12 (63 / 40960) (384/10, 29/10)).2 ≤ 1000 ∧ erOk 12 (63 / 40960) (48, 8) = true ∧ okR 12 (63 / 40960) = true := by decide +kernel
/-- SinCos answers the sine and the cosine of the angle, up to 1.6 / 10^13. -/
theorem sc_near3 {arg : Int} (h0 : 0 ≤ arg) (h1 : arg ≤ 1000000000000000) : Nr (sc arg).1 (S (ang arg)) 180000 ∧ Nr (sc arg).2 (C (ang arg)) 180000 := by
  have hx := scX_near3 h0 h1
  have r0 : (0 : Rat) ≤ (arg : Rat) := by exact_mod_cast h0
  have r1 : (arg : Rat) ≤ ((1000000000000000 : Int) : Rat) := Rat.intCast_le_intCast.2 h1
  have r2 : ((1000000000000000 : Int) : Rat) = 1000000000000000 := rfl
  rw [r2] at r1
  have hy : rabs (ang arg / 4096) ≤ 63 / 40960 := by
    have e : ang arg / 4096 = (arg : Rat) * (2 * piQ / 10 ^ 15 / 4096) := by unfold ang; simp only [Rat.div_def]; grind
    have k : 0 ≤ 2 * piQ / 10 ^ 15 / 4096 ∧ 2 * piQ / 10 ^ 15 / 4096 ≤ 63 / 40960 / 1000000000000000 := by decide +kernel
    rw [e, rabs_le]
    generalize 2 * piQ / 10 ^ 15 / 4096 = c at *
    have m1 := Rat.mul_nonneg r0 k.1
    have m2 := Rat.mul_le_mul_of_nonneg_left k.2 r0
    have m3 := Rat.mul_le_mul_of_nonneg_right r1 (show (0 : Rat) ≤ 63 / 40960 / 1000000000000000 by decide +kernel)
    have m4 : (1000000000000000 : Rat) * (63 / 40960 / 1000000000000000) = 63 / 40960 := by decide +kernel
    constructor <;> grind
  obtain ⟨s1, s2⟩ := start_near3 hy hx
  have a1 := s1.abs
  have a2 := s2.abs
  have sy : rabs (S (ang arg / 4096)) ≤ 1/600 := by
    have h := pv_bd hy sT
    have : pbd sT (63 / 40960) ≤ 1/600 := by decide +kernel
    unfold S; grind
  have cy : rabs (C (ang arg / 4096)) ≤ 1 + 1 / 10 ^ 18 := by
    have := (sin_cos_le (y := ang arg / 4096) (by grind)).2
    exact rabs_le.2 ⟨this.1, this.2⟩
  have t18 : (1 : Rat) / 10 ^ 18 ≤ 1 / 10000 := by decide +kernel
  have tT : rabs (eT (scStart (scX arg)).1 (scStart (scX arg)).2 (ang arg / 4096)) ≤ 384/10 := by
    unfold eT
    have m1 := rabs_le.1 (mul_rabs cy a1)
    have m2 := rabs_le.1 (mul_rabs sy a2)
    rw [rabs_le]
    constructor <;> grind
  have tN : rabs (eN (scStart (scX arg)).1 (scStart (scX arg)).2 (ang arg / 4096)) ≤ 29/10 := by
    unfold eN
    have m1 := rabs_le.1 (mul_rabs sy a1)
    have m2 := rabs_le.1 (mul_rabs cy a2)
    rw [rabs_le]
    constructor <;> grind
  obtain ⟨t1, t2, t3, t4⟩ := tn12
  obtain ⟨i1, i2⟩ := iter_tn 12 _ _ _ (48, 8) (384/10, 29/10) t4 t3 hy (s1.mono (by grind)) (s2.mono (by grind)) tT tN
  obtain ⟨c1, c2⟩ := iter_nr 12 _ _ _ (48, 8) t4 hy (s1.mono (by grind)) (s2.mono (by grind))
  have ed : dbl 12 (ang arg / 4096) = ang arg := by rw [dbl12]; simp only [Rat.div_def]; grind
  rw [ed] at i1 i2 c1 c2
  have hang : rabs (ang arg) ≤ 32/5 := by
    have e : ang arg = 4096 * (ang arg / 4096) := by simp only [Rat.div_def]; grind
    rw [e, rabs_mul]
    have : rabs 4096 = 4096 := by decide +kernel
    rw [this]
    grind
  have key := tn_back hang (c1.mono er12.1).abs (c2.mono er12.2).abs (Rat.le_trans i1 t1) (Rat.le_trans i2 t2)
  obtain ⟨k1, k2⟩ := rabs_le.1 key.1
  obtain ⟨k3, k4⟩ := rabs_le.1 key.2
  refine ⟨⟨?_, ?_⟩, ⟨?_, ?_⟩⟩
  · show (((scIter 12 (scStart (scX arg))).1 : Int) : Rat) ≤ _; grind
  · show _ ≤ (((scIter 12 (scStart (scX arg))).1 : Int) : Rat) + _; grind
  · show ((U60 - (scIter 12 (scStart (scX arg))).2 : Int) : Rat) ≤ _; push_cast; rw [uQ_eq]; grind
  · show _ ≤ ((U60 - (scIter 12 (scStart (scX arg))).2 : Int) : Rat) + _; push_cast; rw [uQ_eq]; grind
end
section
/-- The reference's argument and value of a term, and its sum, in the unit 1 / 2^20. -/
def refArg (t : Tm) (inst : Int) : Int := argV t.rt inst + t.ph * 1000000
def refTerm (t : Tm) (inst : Int) : Int := prt t.amp (sc (refArg t inst % 1000000000000000)).1
def refAt (m : Int) (l : List Tm) (inst : Int) (k : Nat) : Int := (l.take k).foldl (fun n t => n + refTerm t inst) (m * 1048576)
theorem refAt_snoc (m : Int) (l : List Tm) (inst : Int) (k : Nat) (h : k < l.length) : refAt m l inst (k + 1) = refAt m l inst k + refTerm l[k] inst := by
  unfold refAt; rw [fe_take l k h, List.foldl_append]; rfl
theorem refArg_eq (t : Tm) (inst : Int) : refArg t inst % 1000000000000000 = (t.ph + grQ t.rt inst) % 1000000000 * 1000000 + grR t.rt inst / 86400000 ∧ 0 ≤ refArg t inst % 1000000000000000 ∧ refArg t inst % 1000000000000000 < 1000000000000000 := by
  unfold refArg argV grQ grR
  generalize t.rt * inst = P
  omega
theorem arg_near (t : Tm) (inst : Int) : ((refArg t inst % 1000000000000000 : Int) : Rat) ≤ partA t inst * 1000000 ∧ partA t inst * 1000000 ≤ ((refArg t inst % 1000000000000000 : Int) : Rat) + 1 := by
  have e := (refArg_eq t inst).1
  obtain ⟨d1, d2⟩ := ediv_near (grR t.rt inst) 86400000 (by omega)
  rw [e]
  unfold partA
  have dv : ((grR t.rt inst : Int) : Rat) / 86400000000000 = ((grR t.rt inst : Int) : Rat) * (1 / 86400000000000) := by rw [Rat.div_def, Rat.div_def]; grind
  rw [dv]
  push_cast
  have c : ((86400000 : Int) : Rat) = 86400000 := rfl
  rw [c] at d1 d2
  generalize ((grR t.rt inst : Int) : Rat) = r at *
  generalize ((grR t.rt inst / 86400000 : Int) : Rat) = z at *
  generalize (((t.ph + grQ t.rt inst) % 1000000000 : Int) : Rat) = n at *
  constructor <;> grind
theorem prt_near (a v : Int) : ((prt a v : Int) : Rat) * 1099511627776 ≤ (a : Rat) * v + 1099511627776 ∧ (a : Rat) * v ≤ ((prt a v : Int) : Rat) * 1099511627776 + 1099511627776 := by
  unfold prt
  split
  · obtain ⟨d1, d2⟩ := ediv_near (a * -v) 1099511627776 (by omega)
    have c : ((1099511627776 : Int) : Rat) = 1099511627776 := rfl
    rw [c] at d1 d2
    push_cast at d1 d2 ⊢
    constructor <;> grind
  · obtain ⟨d1, d2⟩ := ediv_near (a * v) 1099511627776 (by omega)
    have c : ((1099511627776 : Int) : Rat) = 1099511627776 := rfl
    rw [c] at d1 d2
    push_cast at d1 d2 ⊢
    constructor <;> grind
/-- A term: the reference's value is near the exact one. -/
theorem term_near {t : Tm} {inst : Int} (h : TmOk t) : rabs (((refTerm t inst : Int) : Rat) - 1048576 * termX inst t) ≤ 1 + rabs t.amp * (179 / 1000000000) := by
  obtain ⟨xr, x, q, Y, sq, p, -, -, -, -, -, -, x0, x7, -, -, -, -, -⟩ := part_run (inst := inst) h
  obtain ⟨-, g0, g1⟩ := refArg_eq t inst
  obtain ⟨n1, n2⟩ := arg_near t inst
  obtain ⟨⟨s1, s2⟩, -⟩ := sc_near3 g0 (by omega)
  obtain ⟨p1, p2⟩ := prt_near t.amp (sc (refArg t inst % 1000000000000000)).1
  have ev : refTerm t inst = prt t.amp (sc (refArg t inst % 1000000000000000)).1 := rfl
  rw [← ev] at p1 p2
  have pib : 2 * piQ / 10 ^ 15 ≤ 63 / 10000000000000000 ∧ 0 ≤ 2 * piQ / 10 ^ 15 := by decide +kernel
  have ea : 2 * piQ * partA t inst / 1000000000 = partA t inst * 1000000 * (2 * piQ / 10 ^ 15) := by
    have e : (2 : Rat) * piQ / 10 ^ 15 = 2 * piQ * (1 / 1000000000000000) := by decide +kernel
    rw [e, Rat.div_def, Rat.div_def]; grind
  have eb : ang (refArg t inst % 1000000000000000) = ((refArg t inst % 1000000000000000 : Int) : Rat) * (2 * piQ / 10 ^ 15) := by
    unfold ang; simp only [Rat.div_def]; grind
  have hd : rabs (2 * piQ * partA t inst / 1000000000 - ang (refArg t inst % 1000000000000000)) ≤ 63 / 10000000000000000 := by
    rw [ea, eb]
    generalize 2 * piQ / 10 ^ 15 = c at *
    generalize partA t inst * 1000000 = u at *
    generalize ((refArg t inst % 1000000000000000 : Int) : Rat) = w at *
    have m1 := Rat.mul_nonneg (show 0 ≤ u - w by grind) pib.2
    have m2 := Rat.mul_le_mul_of_nonneg_right (show u - w ≤ 1 by grind) pib.2
    rw [rabs_le]
    constructor <;> grind
  obtain ⟨l1, l2⟩ := sin_lip x0 x7 (Rat.le_trans hd (by decide +kernel))
  have t18 : (2 : Rat) / 10 ^ 18 ≤ 1 / 100000000000000000 := by decide +kernel
  have hu : uQ = 1152921504606846976 := rfl
  rw [hu] at s1 s2
  unfold termX
  have aa := rabs_nonneg (t.amp : Rat)
  generalize ((sc (refArg t inst % 1000000000000000)).1 : Rat) = v at *
  generalize ((refTerm t inst : Int) : Rat) = z at *
  generalize S (2 * piQ * partA t inst / 1000000000) = sx at *
  generalize S (ang (refArg t inst % 1000000000000000)) = sy at *
  generalize rabs (2 * piQ * partA t inst / 1000000000 - ang (refArg t inst % 1000000000000000)) = dd at *
  generalize (t.amp : Rat) = a at *
  have m := rabs_le.1 (mul_rabs (a := a) (b := v - 1152921504606846976 * sx) (A := rabs a) (B := 180000 + 1152921504606846976 * (127 / 10000000000000000)) (by grind) (rabs_le.2 ⟨by grind, by grind⟩))
  rw [rabs_le]
  constructor <;> grind
/-- The sum: the reference's value is near the exact one. -/
theorem refAt_near {m : Int} {l : List Tm} {inst : Int} (h : ∀ t ∈ l, TmOk t) : ∀ k, k ≤ l.length → rabs (((refAt m l inst k : Int) : Rat) - 1048576 * ((m : Rat) + xAt l inst k)) ≤ 180 * (k : Rat)
  | 0, _ => by
    have e : refAt m l inst 0 = m * 1048576 := rfl
    have x : xAt l inst 0 = 0 := rfl
    have z : ((0 : Nat) : Rat) = 0 := rfl
    rw [e, x, z, rabs_le]
    push_cast
    constructor <;> grind
  | k + 1, hk => by
    have ih := refAt_near (m := m) (inst := inst) h k (by omega)
    have ht := h l[k] (List.getElem_mem (by omega))
    have tn := term_near (inst := inst) ht
    have a2 : (l[k].amp : Rat) ≤ 1000000000 := Rat.intCast_le_intCast.2 ht.a2
    have a1 : -1000000000 ≤ (l[k].amp : Rat) := Rat.intCast_le_intCast.2 ht.a1
    have aa : rabs (l[k].amp : Rat) ≤ 1000000000 := rabs_le.2 ⟨a2, a1⟩
    rw [refAt_snoc m l inst k (by omega), xAt_snoc l inst k (by omega)]
    obtain ⟨i1, i2⟩ := rabs_le.1 ih
    obtain ⟨t1, t2⟩ := rabs_le.1 tn
    have c : ((k + 1 : Nat) : Rat) = (k : Rat) + 1 := by push_cast; rfl
    rw [c, rabs_le]
    push_cast
    constructor <;> grind
/-- The interval of the value contains the reference's sum with all remainders. -/
theorem val_contains {m r : Int} {l : List Tm} {s inst : Int} (hv : SumOk m r l s) : valLo m l s inst * 1048576 ≤ refAt m l inst l.length - s * 1048576 + 7600 ∧ refAt m l inst l.length + s * 1048576 ≤ valHi m l s inst * 1048576 + 7600 := by
  have hn := refAt_near (m := m) (inst := inst) hv.tm l.length (Nat.le_refl _)
  obtain ⟨f1, f2, X1, X2, -, -, -, -, -, -, -, -, -, -, b1, -, b3, -⟩ := val_around (inst := inst) hv.len hv.tm
  have k40 : (l.length : Rat) ≤ 40 := by
    have : (l.length : Rat) ≤ ((40 : Nat) : Rat) := cast_le hv.len
    exact this
  obtain ⟨n1, n2⟩ := rabs_le.1 hn
  have cancel : ∀ {a b : Int}, (a : Rat) ≤ (b : Rat) → a ≤ b := fun h => Rat.intCast_le_intCast.1 h
  unfold valLo valHi
  by_cases h0 : l.length = 0
  · rw [if_pos h0, if_pos h0]
    have e : refAt m l inst l.length = m * 1048576 := by rw [h0]; rfl
    rw [e]
    omega
  · rw [if_neg h0, if_neg h0]
    constructor
    · refine cancel ?_
      push_cast
      grind
    · refine cancel ?_
      push_cast
      grind
theorem val_width {m r : Int} {l : List Tm} {s inst : Int} (hv : SumOk m r l s) : valHi m l s inst - valLo m l s inst ≤ bndAt s l ∧ 2 * s ≤ valHi m l s inst - valLo m l s inst ∧ valHi m l s inst - valLo m l s inst ≤ 2 * s + 2 := by
  obtain ⟨f1, f2, X1, X2, -, -, -, -, -, -, -, -, -, -, b1, b2, b3, b4⟩ := val_around (inst := inst) hv.len hv.tm
  have hb : 2 * s + 2 * (l.length : Int) ≤ bndAt s l := by
    have key : ∀ k, k ≤ l.length → 2 * s + 2 * (k : Int) ≤ bndAt s (l.take k) := by
      intro k
      induction k with
      | zero => intro _; unfold bndAt; simp
      | succ k ih =>
        intro hk
        have := ih (by omega)
        rw [bnd_snoc s l k (by omega)]
        have : 0 ≤ absT l[k].amp / 100000000 := by
          have : 0 ≤ absT l[k].amp := by unfold absT; split <;> omega
          omega
        omega
    have := key l.length (Nat.le_refl _)
    rwa [List.take_of_length_le (Nat.le_refl _)] at this
  have w : arHi (vAt l inst l.length) - arLo (vAt l inst l.length) ≤ 2 := by
    have : ((arHi (vAt l inst l.length) - arLo (vAt l inst l.length) : Int) : Rat) < ((3 : Int) : Rat) := by
      have c : ((3 : Int) : Rat) = 3 := rfl
      rw [c]; push_cast; grind
    have : arHi (vAt l inst l.length) - arLo (vAt l inst l.length) < 3 := Rat.intCast_lt_intCast.1 this
    omega
  have w0 : 0 ≤ arHi (vAt l inst l.length) - arLo (vAt l inst l.length) := by
    have : ((-1 : Int) : Rat) < ((arHi (vAt l inst l.length) - arLo (vAt l inst l.length) : Int) : Rat) := by
      have c : ((-1 : Int) : Rat) = -1 := rfl
      rw [c]; push_cast; grind
    have : -1 < arHi (vAt l inst l.length) - arLo (vAt l inst l.length) := Rat.intCast_lt_intCast.1 this
    omega
  unfold valLo valHi
  by_cases h0 : l.length = 0
  · rw [if_pos h0, if_pos h0]; omega
  · rw [if_neg h0, if_neg h0]; omega
end
end Go.Proofs.YtcgnhnmigmdalaaGreatDoor
