/- The sums' intervals hold the reference's numbers without any slack; the reference's direction, closely; the parts of the sun and the moon lie in place.look's intervals by the reference's narrow test. No program in sight. -/
import Derived.Test.YtcgnhnmigmdalaaGreatDoorPlainHt5
import Derived.Test.YtcgnhnmigmdalaaGreatDoorLkD
set_option linter.unusedVariables false
set_option linter.unusedSimpArgs false
namespace Go.Proofs.YtcgnhnmigmdalaaGreatDoor
open Ieee
/-- The point of the sky lies between the arc's bounds, up to half a thousandth of a unit. -/
theorem eq_nearX {l0 l1 b0 b1 : Int} {zl zb : Rat} (p : PtX l0 l1 b0 b1 zl zb) {D0 L H : Rat} {E : Nat → Rat} (hv : ArcV (eqY0 l0 l1 b0 b1) (eqY1 l0 l1 b0 b1) (eqX0 l0 l1 b0 b1) (eqX1 l0 l1 b0 b1) D0 E L H)
    (hw : raHi l0 l1 b0 b1 - raLo l0 l1 b0 b1 ≤ 400000000) :
    -(513/1000000) ≤ 1000000000 * (coU (raLo l0 l1 b0 b1) * pY zl zb - siU (raLo l0 l1 b0 b1) * pX zl zb) ∧ -(513/1000000) ≤ 1000000000 * (siU (raHi l0 l1 b0 b1) * pX zl zb - coU (raHi l0 l1 b0 b1) * pY zl zb) := by
  obtain ⟨⟨x1, x2⟩, ⟨y1, y2⟩, -⟩ := eq_inX p
  have sx := (eqX_sp p.hl p.hb).o
  have sy := (eqY_bd p.hl p.hb).1
  have nn := rabs_le.1 (p_norm p.l.1 p.l.2 p.b.1 p.b.2)
  have sqx := sq_nonneg (pX zl zb)
  have sqy := sq_nonneg (pY zl zb)
  have sqz := sq_nonneg (pZ zl zb)
  have bX : rabs (pX zl zb) ≤ 101/100 := sq_rabs (by decide +kernel) (by grind)
  have bY : rabs (pY zl zb) ≤ 101/100 := sq_rabs (by decide +kernel) (by grind)
  unfold raLo raHi at *
  generalize eqX0 l0 l1 b0 b1 = x0 at *
  generalize eqX1 l0 l1 b0 b1 = x9 at *
  generalize eqY0 l0 l1 b0 b1 = y0 at *
  generalize eqY1 l0 l1 b0 b1 = y9 at *
  have c1 := arc_cornersX hv hw (y := y0) (x := x0) (.inl rfl) (.inl rfl)
  have c2 := arc_cornersX hv hw (y := y9) (x := x0) (.inr rfl) (.inl rfl)
  have c3 := arc_cornersX hv hw (y := y0) (x := x9) (.inl rfl) (.inr rfl)
  have c4 := arc_cornersX hv hw (y := y9) (x := x9) (.inr rfl) (.inr rfl)
  obtain ⟨ea, -⟩ := siU_z (arcLo y0 y9 x0 x9)
  obtain ⟨eh, -⟩ := siU_z (arcHi y0 y9 x0 x9)
  have ca := coU_z (arcLo y0 y9 x0 x9)
  have ch := coU_z (arcHi y0 y9 x0 x9)
  obtain ⟨-, o1, o2⟩ := siU_circX (arcLo y0 y9 x0 x9)
  obtain ⟨-, o3, o4⟩ := siU_circX (arcHi y0 y9 x0 x9)
  have wa := rabs_le.1 (mul_rabs ca bY)
  have wh := rabs_le.1 (mul_rabs ch bY)
  have HX := icast sx
  have HY := icast sy
  have ca' := rabs_le.1 ca
  have ch' := rabs_le.1 ch
  have o2' := rabs_le.1 o2
  have o4' := rabs_le.1 o4
  have b2 : rabs (C (tq * ((arcLo y0 y9 x0 x9 % 1000000000 : Int) : Rat))) ≤ 1 + 1 / 1000000000000 := rabs_le.2 ⟨by grind, by grind⟩
  have b4 : rabs (C (tq * ((arcHi y0 y9 x0 x9 % 1000000000 : Int) : Rat))) ≤ 1 + 1 / 1000000000000 := rabs_le.2 ⟨by grind, by grind⟩
  have b1 : rabs (-siU (arcLo y0 y9 x0 x9)) ≤ 1 + 1 / 1000000000000 := by rw [rabs_neg]; grind
  have b3 : rabs (siU (arcHi y0 y9 x0 x9)) ≤ 1 + 1 / 1000000000000 := by grind
  have b5 : rabs (-C (tq * ((arcHi y0 y9 x0 x9 % 1000000000 : Int) : Rat))) ≤ 1 + 1 / 1000000000000 := by rw [rabs_neg]; exact b4
  obtain ⟨d11, d12⟩ := c1
  obtain ⟨d21, d22⟩ := c2
  obtain ⟨d31, d32⟩ := c3
  obtain ⟨d41, d42⟩ := c4
  rw [← ea] at d11 d21 d31 d41
  rw [← eh] at d12 d22 d32 d42
  clear ca ch o1 o2 o3 o4 ca' ch' o2' o4' nn sqx sqy sqz bX bY hv hw ea eh p
  have f : ∀ u v s t : Rat, u * v - s * t = -s * t + u * v := fun u v s t => by grind
  have g : ∀ u v s t : Rat, s * t - u * v = s * t + -u * v := fun u v s t => by grind
  constructor
  · have r := lin_cl (p := -siU (arcLo y0 y9 x0 x9)) (q := C (tq * ((arcLo y0 y9 x0 x9 % 1000000000 : Int) : Rat))) (x := 1000000000 * pX zl zb) (y := 1000000000 * pY zl zb) (K := 5125/10000000) HX HY (e := 205/1000000) (d := 307/1000000) (by decide +kernel) (by decide +kernel) b1 b2 (by decide +kernel) (by rw [← f]; exact d11) (by rw [← f]; exact d21) (by rw [← f]; exact d31) (by rw [← f]; exact d41) x1 x2 y1 y2
    generalize C (tq * ((arcLo y0 y9 x0 x9 % 1000000000 : Int) : Rat)) = k at *
    clear d11 d12 d21 d22 d31 d32 d41 d42 f g b1 b2 b3 b4 b5
    grind
  · have r := lin_cl (p := siU (arcHi y0 y9 x0 x9)) (q := -C (tq * ((arcHi y0 y9 x0 x9 % 1000000000 : Int) : Rat))) (x := 1000000000 * pX zl zb) (y := 1000000000 * pY zl zb) (K := 5125/10000000) HX HY (e := 205/1000000) (d := 307/1000000) (by decide +kernel) (by decide +kernel) b3 b5 (by decide +kernel) (by rw [← g]; exact d12) (by rw [← g]; exact d22) (by rw [← g]; exact d32) (by rw [← g]; exact d42) x1 x2 y1 y2
    generalize C (tq * ((arcHi y0 y9 x0 x9 % 1000000000 : Int) : Rat)) = k at *
    clear d11 d12 d21 d22 d31 d32 d41 d42 f g b1 b2 b3 b4 b5
    grind
theorem as_lowX {a : Int} (h1 : -600000000 ≤ a) (h2 : a ≤ 600000000) : siU (asLo a) ≤ (a : Rat) / 1000000000 := by
  have ea : cl9 a = a := by unfold cl9; omega
  obtain ⟨n1, n2⟩ := cl9_rng a
  obtain ⟨-, D, -, ha, -, l1, l2, k1, k2⟩ := asin_run (cl9 a) n1 n2
  obtain ⟨b1, b2, -, -, -⟩ := as_bounds a
  have hD := asD_small ha (by omega) (by omega)
  have hs := rabs_le.1 ha.s
  rw [ea] at hs
  have N1 := icast h1
  have N2 := icast h2
  push_cast at N1 N2
  rcases (show asLo a = -250000000 ∨ asLo a = arLo (asinW (cl9 a)) by unfold asLo; omega) with h | h
  · rw [h]
    have := rabs_le.1 at_ends.1
    grind
  · rw [← h] at l1 l2
    have st := rabs_le.1 (siU_any (a := asLo a) (by omega) (by omega))
    obtain ⟨t1, t2, -⟩ := tq_num
    have w1 := tq_le (show (9 : Rat) / 10000 ≤ D - (asLo a : Rat) by grind)
    have w2 := tq_le (show D - (asLo a : Rat) ≤ 1002 / 1000 by grind)
    have lim1 : 564 / 100000000000000 ≤ tq * (9 / 10000) := by decide +kernel
    have lim2 : tq * (1002 / 1000) ≤ 63 / 10000000000 := by decide +kernel
    have hD' := rabs_le.1 hD
    obtain ⟨q1, q2⟩ := pi_lim
    have ct := cos_at (X := tq * D) (m := (tq * (asLo a : Rat) + tq * D) / 2) hD (rabs_le.2 ⟨by grind, by grind⟩) (rabs_le.2 ⟨by grind, by grind⟩)
    have k := step_up (p := tq * (asLo a : Rat)) (q := tq * D) ct (rabs_le.2 ⟨by grind, by grind⟩) (by grind) (by grind)
    grind
theorem as_highX {a : Int} (h1 : -600000000 ≤ a) (h2 : a ≤ 600000000) : (a : Rat) / 1000000000 ≤ siU (asHi a) := by
  have ea : cl9 a = a := by unfold cl9; omega
  obtain ⟨n1, n2⟩ := cl9_rng a
  obtain ⟨-, D, -, ha, -, l1, l2, k1, k2⟩ := asin_run (cl9 a) n1 n2
  obtain ⟨-, -, b1, b2, -⟩ := as_bounds a
  have hD := asD_small ha (by omega) (by omega)
  have hs := rabs_le.1 ha.s
  rw [ea] at hs
  have N1 := icast h1
  have N2 := icast h2
  push_cast at N1 N2
  rcases (show asHi a = 250000000 ∨ asHi a = arHi (asinW (cl9 a)) by unfold asHi; omega) with h | h
  · rw [h]
    have := rabs_le.1 at_ends.2
    grind
  · rw [← h] at k1 k2
    have st := rabs_le.1 (siU_any (a := asHi a) (by omega) (by omega))
    obtain ⟨t1, t2, -⟩ := tq_num
    have w1 := tq_le (show (9 : Rat) / 10000 ≤ (asHi a : Rat) - D by grind)
    have w2 := tq_le (show (asHi a : Rat) - D ≤ 1002 / 1000 by grind)
    have lim1 : 564 / 100000000000000 ≤ tq * (9 / 10000) := by decide +kernel
    have lim2 : tq * (1002 / 1000) ≤ 63 / 10000000000 := by decide +kernel
    have hD' := rabs_le.1 hD
    obtain ⟨q1, q2⟩ := pi_lim
    have ct := cos_at (X := tq * D) (m := (tq * D + tq * (asHi a : Rat)) / 2) hD (rabs_le.2 ⟨by grind, by grind⟩) (rabs_le.2 ⟨by grind, by grind⟩)
    have k := step_up (p := tq * D) (q := tq * (asHi a : Rat)) ct (rabs_le.2 ⟨by grind, by grind⟩) (by grind) (by grind)
    grind
theorem val_fine {l : List Tm} {inst : Int} (h8 : l.length ≤ 8) (h : ∀ t ∈ l, TmOk t) : (arLo (vAt l inst l.length) : Rat) ≤ xAt l inst l.length - 7/10000 ∧ xAt l inst l.length + 7/10000 ≤ (arHi (vAt l inst l.length) : Rat) := by
  obtain ⟨i1, i2, i3, -⟩ := val_run (inst := inst) (by omega) h l.length (Nat.le_refl _)
  have p36 : p2 ((36 : Nat) : Int) = 68719476736 := by decide +kernel
  have u36 : p2 (((36 : Nat) : Int) - 53) ≤ 8 / 1000000 := by decide +kernel
  have k8 : (l.length : Rat) ≤ 8 := by
    have : (l.length : Rat) ≤ ((8 : Nat) : Rat) := cast_le h8
    exact this
  have k0 : (0 : Rat) ≤ (l.length : Rat) := by exact_mod_cast Nat.zero_le _
  have t18 : (1 : Rat) / 10 ^ 18 ≤ 1 / 1000000000 := by decide +kernel
  have i1' := i1.mono (e' := 272 / 1000000) (by grind)
  obtain ⟨s1, s2, X1, X2, -, -, -, -, -, -, -, -, -, -, g11, g12, g13, g14⟩ := around_run 36 (by omega) i1' (by rw [p36]; grind) (by rw [p36]; grind)
  generalize (1 : Rat) / 10 ^ 18 = d at *
  constructor <;> grind
theorem refAt_fine {m : Int} {l : List Tm} {inst : Int} (h : ∀ t ∈ l, TmOk t) (ha : ∀ t ∈ l, -20000000 ≤ t.amp ∧ t.amp ≤ 20000000) : ∀ k, k ≤ l.length → rabs (((refAt m l inst k : Int) : Rat) - 1048576 * ((m : Rat) + xAt l inst k)) ≤ 5 * (k : Rat)
  | 0, _ => by
    have e : refAt m l inst 0 = m * 1048576 := rfl
    have x : xAt l inst 0 = 0 := rfl
    have z : ((0 : Nat) : Rat) = 0 := rfl
    rw [e, x, z, rabs_le]
    push_cast
    constructor <;> grind
  | k + 1, hk => by
    have ih := refAt_fine (m := m) (inst := inst) h ha k (by omega)
    have ht := h l[k] (List.getElem_mem (by omega))
    have hA := ha l[k] (List.getElem_mem (by omega))
    have tn := term_near (inst := inst) ht
    have aa := rabs_int (n := l[k].amp) (B := 20000000) hA.1 hA.2
    rw [show ((20000000 : Int) : Rat) = 20000000 from rfl] at aa
    rw [refAt_snoc m l inst k (by omega), xAt_snoc l inst k (by omega)]
    obtain ⟨i1, i2⟩ := rabs_le.1 ih
    obtain ⟨t1, t2⟩ := rabs_le.1 tn
    have c : ((k + 1 : Nat) : Rat) = (k : Rat) + 1 := by push_cast; rfl
    rw [c, rabs_le]
    push_cast
    constructor <;> grind
theorem val_contains3 {m r : Int} {l : List Tm} {s inst : Int} (hv : SumOk m r l s) (h8 : l.length ≤ 8) (ha : ∀ t ∈ l, -20000000 ≤ t.amp ∧ t.amp ≤ 20000000) : valLo m l s inst * 1048576 ≤ refAt m l inst l.length - s * 1048576 ∧ refAt m l inst l.length + s * 1048576 ≤ valHi m l s inst * 1048576 := by
  have hn := refAt_fine (m := m) (inst := inst) hv.tm ha l.length (Nat.le_refl _)
  obtain ⟨b1, b3⟩ := val_fine (inst := inst) h8 hv.tm
  have k8 : (l.length : Rat) ≤ 8 := by
    have : (l.length : Rat) ≤ ((8 : Nat) : Rat) := cast_le h8
    exact this
  obtain ⟨n1, n2⟩ := rabs_le.1 hn
  have cancel : ∀ {a b : Int}, (a : Rat) ≤ (b : Rat) → a ≤ b := fun h => Rat.intCast_le_intCast.1 h
  unfold valLo valHi
  by_cases h0 : l.length = 0
  · rw [if_pos h0, if_pos h0]
    have e : refAt m l inst l.length = m * 1048576 := by rw [h0]; rfl
    rw [e]
    omega
  · rw [if_neg h0, if_neg h0]
    constructor
    · refine cancel ?_
      push_cast
      grind
    · refine cancel ?_
      push_cast
      grind
theorem ang_contains3 {m r : Int} {l : List Tm} {s inst : Int} (hv : SumOk m r l s) (h8 : l.length ≤ 8) (ha : ∀ t ∈ l, -20000000 ≤ t.amp ∧ t.amp ≤ 20000000) :
    (wholeV m r l inst - s * 1048576 - angLo m r l s inst * 1048576) % 1048576000000000 ≤ (angHi m r l s inst - angLo m r l s inst - 2 * s) * 1048576 := by
  obtain ⟨c1, c2⟩ := val_contains3 (inst := inst) hv h8 ha
  obtain ⟨w1, w2, w3⟩ := val_width (inst := inst) hv
  have s1 := hv.s1
  have s2 := hv.s2
  have ea : argV r inst = grQ r inst % 1000000000 * 1000000 + grR r inst / 86400000 := by
    unfold argV grQ grR; generalize r * inst = P; omega
  have r0 : 0 ≤ grR r inst := Int.emod_nonneg _ (by omega)
  have r1 : grR r inst < 86400000000000 := Int.emod_lt_of_pos _ (by omega)
  have eh : angHi m r l s inst = angLo m r l s inst + (if 0 < grR r inst then valHi m l s inst + 1 else valHi m l s inst) - valLo m l s inst := rfl
  have el : angLo m r l s inst = (valLo m l s inst + grQ r inst % 1000000000) % 1000000000 := rfl
  rw [eh, el]
  unfold wholeV
  rw [ea]
  generalize refAt m l inst l.length = n at *
  generalize valLo m l s inst = vl at *
  generalize valHi m l s inst = vh at *
  generalize grQ r inst % 1000000000 = q at *
  generalize grR r inst = ρ at *
  have e1 : (q * 1000000 + ρ / 86400000) / 1000000 = q := by omega
  have e2 : (q * 1000000 + ρ / 86400000) % 1000000 = ρ / 86400000 := by omega
  rw [e1, e2]
  have key : ((n + q * 1048576 + ρ / 86400000 * 1048576 / 1000000) % 1048576000000000 - s * 1048576 - (vl + q) % 1000000000 * 1048576) % 1048576000000000 = (n - s * 1048576 - vl * 1048576 + ρ / 86400000 * 1048576 / 1000000) % 1048576000000000 := by omega
  rw [key]
  have f0 : 0 ≤ ρ / 86400000 * 1048576 / 1000000 := by omega
  have f1 : ρ / 86400000 * 1048576 / 1000000 < 1048576 := by omega
  by_cases h : 0 < ρ
  · rw [if_pos h]
    have hK : (n - s * 1048576 - vl * 1048576 + ρ / 86400000 * 1048576 / 1000000) % 1048576000000000 = n - s * 1048576 - vl * 1048576 + ρ / 86400000 * 1048576 / 1000000 := Int.emod_eq_of_lt (by omega) (by omega)
    rw [hK]
    omega
  · have f2 : ρ / 86400000 * 1048576 / 1000000 = 0 := by omega
    rw [if_neg h, f2]
    have hK : (n - s * 1048576 - vl * 1048576 + 0) % 1048576000000000 = n - s * 1048576 - vl * 1048576 + 0 := Int.emod_eq_of_lt (by omega) (by omega)
    rw [hK]
    omega
theorem sun_amps : ∀ t ∈ sunL, -20000000 ≤ t.amp ∧ t.amp ≤ 20000000 := by decide
theorem moon_amps : ∀ t ∈ moonL, -20000000 ≤ t.amp ∧ t.amp ≤ 20000000 := by decide
theorem north_amps : ∀ t ∈ northL, -20000000 ≤ t.amp ∧ t.amp ≤ 20000000 := by decide
/-- An argument between whole units. -/
theorem arg_cut {m a b : Int} (h1 : a * 1048576 ≤ m) (h2 : m ≤ b * 1048576) : a * 1000000 ≤ m / 1048576 * 1000000 + m % 1048576 * 1000000 / 1048576 ∧ m / 1048576 * 1000000 + m % 1048576 * 1000000 / 1048576 ≤ b * 1000000 := by omega
theorem zA_cut {n a b : Int} (h1 : a * 1000000 ≤ n) (h2 : n ≤ b * 1000000) : (a : Rat) ≤ zA n ∧ zA n ≤ (b : Rat) := by
  have g1 := icast h1
  have g2 := icast h2
  push_cast at g1 g2
  unfold zA
  constructor <;> grind
theorem kl_angX {m lo hi : Int} (m0 : 0 ≤ m) (m1 : m < 1048576000000000) (h : (m - lo * 1048576) % 1048576000000000 ≤ (hi - lo) * 1048576) : ∃ k : Int, (lo : Rat) ≤ zA (argU m) + (k : Rat) * 1000000000 ∧ zA (argU m) + (k : Rat) * 1000000000 ≤ (hi : Rat) := by
  have e := Int.emod_add_mul_ediv (m - lo * 1048576) 1048576000000000
  have r0 := Int.emod_nonneg (m - lo * 1048576) (show (1048576000000000 : Int) ≠ 0 by decide)
  refine ⟨-((m - lo * 1048576) / 1048576000000000), ?_⟩
  generalize (m - lo * 1048576) / 1048576000000000 = q at *
  generalize (m - lo * 1048576) % 1048576000000000 = r at *
  have c := arg_cut (m := m) (a := lo + 1000000000 * q) (b := hi + 1000000000 * q) (by omega) (by omega)
  have eu : argU m = m / 1048576 * 1000000 + m % 1048576 * 1000000 / 1048576 := by unfold argU; rw [Int.emod_eq_of_lt m0 m1]
  rw [← eu] at c
  have z := zA_cut c.1 c.2
  push_cast at z ⊢
  constructor <;> grind
theorem kl_valX {v lo hi : Int} (h1 : lo * 1048576 ≤ v) (h2 : v ≤ hi * 1048576) : ∃ k : Int, (lo : Rat) ≤ zA (argU v) + (k : Rat) * 1000000000 ∧ zA (argU v) + (k : Rat) * 1000000000 ≤ (hi : Rat) := by
  have e := Int.emod_add_mul_ediv v 1048576000000000
  refine ⟨v / 1048576000000000, ?_⟩
  have eu : argU v = v % 1048576000000000 / 1048576 * 1000000 + v % 1048576000000000 % 1048576 * 1000000 / 1048576 := rfl
  generalize v / 1048576000000000 = q at *
  generalize v % 1048576000000000 = r at *
  have c := arg_cut (m := r) (a := lo - 1000000000 * q) (b := hi - 1000000000 * q) (by omega) (by omega)
  rw [← eu] at c
  have z := zA_cut c.1 c.2
  push_cast at z ⊢
  constructor <;> grind
theorem sun_ptX {t m : Int} (h : SLon t m) : PtX (sunLo t) (sunHi t) 0 0 (zA (argU m)) (zA (argU 0)) := by
  obtain ⟨-, -, -, hw, -, -, h6⟩ := sun_facts t
  obtain ⟨a0, a1⟩ := argU_bd m
  refine ⟨h6, Int.le_refl 0, zA_bd a0 a1, by rw [zb_zero]; constructor <;> decide +kernel, kl_angX h.bd.1 h.bd.2 ?_, ⟨0, ?_⟩⟩
  · obtain ⟨n, h1, h2, rfl⟩ := h
    have h : (sunW t - 2000 * 1048576 - sunLo t * 1048576) % 1048576000000000 ≤ (sunHi t - sunLo t - 2 * 2000) * 1048576 := ang_contains3 (inst := t) (sumOk_of sun_e) (by decide) sun_amps
    have h0 : 0 ≤ (sunW t - 2000 * 1048576 - sunLo t * 1048576) % 1048576000000000 := by omega
    generalize sunW t = W at *
    generalize sunLo t = lo at *
    generalize sunHi t = hi at *
    have e : ((W + 250 * n * 1048576) % 1048576000000000 - lo * 1048576) % 1048576000000000 = ((W - 2000 * 1048576 - lo * 1048576) % 1048576000000000 + (2000 * 1048576 + 250 * n * 1048576)) % 1048576000000000 := by omega
    rw [e]
    generalize (W - 2000 * 1048576 - lo * 1048576) % 1048576000000000 = K at *
    have e2 : (K + (2000 * 1048576 + 250 * n * 1048576)) % 1048576000000000 = K + (2000 * 1048576 + 250 * n * 1048576) := Int.emod_eq_of_lt (by omega) (by omega)
    rw [e2]
    omega
  · rw [zb_zero]; constructor <;> decide +kernel
theorem moon_ptX {t m v : Int} (h : MLon t m) (h' : BLat t v) : PtX (moonLo t) (moonHi t) (northLo t) (northHi t) (zA (argU m)) (zA (argU v)) := by
  obtain ⟨-, -, -, hw, -, -, h6⟩ := moon_facts t
  obtain ⟨a0, a1⟩ := argU_bd m
  obtain ⟨c0, c1⟩ := argU_bd v
  refine ⟨h6, (north_rng t).1, zA_bd a0 a1, zA_bd c0 c1, kl_angX h.bd.1 h.bd.2 ?_, ?_⟩
  · obtain ⟨n, h1, h2, rfl⟩ := h
    have h : (moonW t - 20000 * 1048576 - moonLo t * 1048576) % 1048576000000000 ≤ (moonHi t - moonLo t - 2 * 20000) * 1048576 := ang_contains3 (inst := t) (sumOk_of moon_e) (by decide) moon_amps
    have h0 : 0 ≤ (moonW t - 20000 * 1048576 - moonLo t * 1048576) % 1048576000000000 := by omega
    generalize moonW t = W at *
    generalize moonLo t = lo at *
    generalize moonHi t = hi at *
    have e : ((W + 2500 * n * 1048576) % 1048576000000000 - lo * 1048576) % 1048576000000000 = ((W - 20000 * 1048576 - lo * 1048576) % 1048576000000000 + (20000 * 1048576 + 2500 * n * 1048576)) % 1048576000000000 := by omega
    rw [e]
    generalize (W - 20000 * 1048576 - lo * 1048576) % 1048576000000000 = K at *
    have e2 : (K + (20000 * 1048576 + 2500 * n * 1048576)) % 1048576000000000 = K + (20000 * 1048576 + 2500 * n * 1048576) := Int.emod_eq_of_lt (by omega) (by omega)
    rw [e2]
    omega
  · obtain ⟨n, h1, h2, rfl⟩ := h'
    obtain ⟨a, b⟩ := val_contains3 (inst := t) (sumOk_of north_e) (by decide) north_amps
    have a : northLo t * 1048576 ≤ northV t - 20000 * 1048576 := a
    have b : northV t + 20000 * 1048576 ≤ northHi t * 1048576 := b
    exact kl_valX (by omega) (by omega)
/-- The sidereal angle lies in its interval without any slack. -/
theorem sid_angX (lon t : Int) : (sidLo lon t : Rat) ≤ zA (refSid lon t) ∧ zA (refSid lon t) ≤ (sidHi lon t : Rat) := by
  have ea : argV 1002737909350806 t = grQ 1002737909350806 t % 1000000000 * 1000000 + grR 1002737909350806 t / 86400000 := by
    unfold argV grQ grR; generalize 1002737909350806 * t = P; omega
  have r0 : 0 ≤ grR 1002737909350806 t := Int.emod_nonneg _ (by omega)
  have r1 : grR 1002737909350806 t < 86400000000000 := Int.emod_lt_of_pos _ (by omega)
  have vl : valLo 275313108 [] 0 t = 275313108 := by unfold valLo; rw [List.length_nil, if_pos rfl]; omega
  have vh : valHi 275313108 [] 0 t = 275313108 := by unfold valHi; rw [List.length_nil, if_pos rfl]; omega
  have el : sdA t = (valLo 275313108 [] 0 t + grQ 1002737909350806 t % 1000000000) % 1000000000 := rfl
  have eh : sdB t = sdA t + (if 0 < grR 1002737909350806 t then valHi 275313108 [] 0 t + 1 else valHi 275313108 [] 0 t) - valLo 275313108 [] 0 t := rfl
  rw [vl] at el
  rw [vl, vh] at eh
  have er : refSid lon t = (argV 1002737909350806 t + (275313108 + lon) * 1000000) % 1000000000000000 := rfl
  have sl : sidLo lon t = (sdA t + lon) % 1000000000 := rfl
  have sh : sidHi lon t = (sdA t + lon) % 1000000000 + (sdB t + lon) - (sdA t + lon) := rfl
  rw [ea] at er
  generalize grQ 1002737909350806 t % 1000000000 = q at *
  generalize grR 1002737909350806 t = ρ at *
  generalize sdA t = A at *
  generalize sdB t = B at *
  refine zA_cut ?_ ?_
  · rw [er, sl]; omega
  · rw [er, sh]
    by_cases h : 0 < ρ
    · rw [if_pos h] at eh; omega
    · rw [if_neg h] at eh; omega
theorem p_normX {zl zb : Rat} (l0 : 0 ≤ zl) (l1 : zl ≤ 1000000000) (b0 : 0 ≤ zb) (b1 : zb ≤ 1000000000) : rabs (pX zl zb * pX zl zb + pY zl zb * pY zl zb + pZ zl zb * pZ zl zb - 1) ≤ 1 / 1000000000000000 := by
  have cl := circY l0 l1
  have cb := rabs_le.1 (circY b0 b1)
  have ct : rabs (se9 * se9 + ce9 * ce9 - 1) ≤ 1 / 10000000000000000 := circY (z := 65109000) (by decide +kernel) (by decide +kernel)
  have nl := sc_one l0 l1
  have nb := sc_one b0 b1
  unfold pX pY pZ
  have a1 : rabs (C (tq * zb) * C (tq * zb)) ≤ 101/100 := by have := mul_rabs nb.2 nb.2; grind
  have a2 : rabs (S (tq * zb) * S (tq * zb)) ≤ 101/100 := by have := mul_rabs nb.1 nb.1; grind
  have a3 : rabs (C (tq * zb) * C (tq * zb) * (S (tq * zl) * S (tq * zl))) ≤ 103/100 := by have := mul_rabs a1 (mul_rabs nl.1 nl.1); grind
  have m1 := rabs_le.1 (mul_rabs a1 cl)
  have m2 := rabs_le.1 (mul_rabs a2 ct)
  have m3 := rabs_le.1 (mul_rabs a3 ct)
  clear a1 a2 a3 nl nb cl ct
  generalize S (tq * zl) = sl at *
  generalize C (tq * zl) = cl' at *
  generalize S (tq * zb) = sb at *
  generalize C (tq * zb) = cb' at *
  generalize se9 = se at *
  generalize ce9 = ce at *
  have e : cb' * cl' * (cb' * cl') + (cb' * sl * ce - sb * se) * (cb' * sl * ce - sb * se) + (cb' * sl * se + sb * ce) * (cb' * sl * se + sb * ce) - 1 = cb' * cb' * (sl * sl + cl' * cl' - 1) + cb' * cb' * (sl * sl) * (se * se + ce * ce - 1) + sb * sb * (se * se + ce * ce - 1) + (sb * sb + cb' * cb' - 1) := by grind
  rw [e, rabs_le]
  generalize cb' * cb' * (sl * sl + cl' * cl' - 1) = u1 at *
  generalize cb' * cb' * (sl * sl) * (se * se + ce * ce - 1) = u2 at *
  generalize sb * sb * (se * se + ce * ce - 1) = u3 at *
  constructor <;> grind
theorem eq_radeX {l0 l1 b0 b1 B : Int} {zl zb : Rat} (p : PtX l0 l1 b0 b1 zl zb) {D0 L H : Rat} {E : Nat → Rat} (hv : ArcV (eqY0 l0 l1 b0 b1) (eqY1 l0 l1 b0 b1) (eqX0 l0 l1 b0 b1) (eqX1 l0 l1 b0 b1) D0 E L H)
    (ho : raLo l0 l1 b0 b1 ≤ raHi l0 l1 b0 b1) (hw : raHi l0 l1 b0 b1 - raLo l0 l1 b0 b1 ≤ 1000000) (hB : B ≤ 100200000) (B0 : 0 ≤ B) (h1 : -B ≤ sovLo b0 b1) (h2 : sovHi b0 b1 ≤ B) :
    RaDeX (raLo l0 l1 b0 b1 % 1000000000) (raLo l0 l1 b0 b1 % 1000000000 + raHi l0 l1 b0 b1 - raLo l0 l1 b0 b1) (asLo (eqZ0 l0 l1 b0 b1)) (asHi (eqZ1 l0 l1 b0 b1)) (pX zl zb) (pY zl zb) (pZ zl zb) := by
  obtain ⟨oa, wa, od, q0, q1, -, -, g2, -, -, -, zb'⟩ := eq_rade p.pt hv ho hw hB B0 h1 h2
  obtain ⟨n1, n2⟩ := eq_nearX p hv (by omega)
  obtain ⟨z1, z2⟩ := eqZ_small p.hl p.hb h1 h2 B0
  obtain ⟨-, -, i1, i2⟩ := eq_inX p
  have zo := (eqZ_bd p.hl p.hb).1
  have a1 := as_lowX (a := eqZ0 l0 l1 b0 b1) (by omega) (by omega)
  have a2 := as_highX (a := eqZ1 l0 l1 b0 b1) (by omega) (by omega)
  have e1 : siU (raLo l0 l1 b0 b1 % 1000000000) = siU (raLo l0 l1 b0 b1) := siU_eq (k := -(raLo l0 l1 b0 b1 / 1000000000)) (by omega)
  have e2 : coU (raLo l0 l1 b0 b1 % 1000000000) = coU (raLo l0 l1 b0 b1) := siU_eq (k := -(raLo l0 l1 b0 b1 / 1000000000)) (by omega)
  have e3 : siU (raLo l0 l1 b0 b1 % 1000000000 + raHi l0 l1 b0 b1 - raLo l0 l1 b0 b1) = siU (raHi l0 l1 b0 b1) := siU_eq (k := -(raLo l0 l1 b0 b1 / 1000000000)) (by omega)
  have e4 : coU (raLo l0 l1 b0 b1 % 1000000000 + raHi l0 l1 b0 b1 - raLo l0 l1 b0 b1) = coU (raHi l0 l1 b0 b1) := siU_eq (k := -(raLo l0 l1 b0 b1 / 1000000000)) (by omega)
  refine ⟨oa, wa, od, q0, q1, ?_, ?_, g2, ?_, ?_, p_normX p.l.1 p.l.2 p.b.1 p.b.2, zb'⟩
  · rw [e1, e2]; grind
  · rw [e3, e4]; grind
  · grind
  · grind
theorem sun_radeX {t m : Int} (h : SLon t m) : RaDeX (sraLo t) (sraHi t) (sdeLo t) (sdeHi t) (pX (zA (argU m)) (zA (argU 0))) (pY (zA (argU m)) (zA (argU 0))) (pZ (zA (argU m)) (zA (argU 0))) := by
  obtain ⟨f0, f1, -, f3, -, -, f6⟩ := sun_facts t
  obtain ⟨⟨D0, E, L, H, hv⟩, ho, -, -⟩ := c_Equator_all (l0 := sunLo t) (l1 := sunHi t) (b0 := 0) (b1 := 0) f6 (by omega) (by omega) (by decide) (by decide) (by decide) (sun_box h).off
  have hw : raHi (sunLo t) (sunHi t) 0 0 - raLo (sunLo t) (sunHi t) 0 0 ≤ 10000 := sun_ra hv h
  exact eq_radeX (B := 0) (sun_ptX h) hv ho (by omega) (by decide) (by decide) (by rw [sov_zero.1]; decide) (by rw [sov_zero.2]; decide)
theorem moon_radeX {t m v : Int} (h : MLon t m) (h' : BLat t v) : RaDeX (mraLo t) (mraHi t) (mdeLo t) (mdeHi t) (pX (zA (argU m)) (zA (argU v))) (pY (zA (argU m)) (zA (argU v))) (pZ (zA (argU m)) (zA (argU v))) := by
  obtain ⟨f0, f1, -, f3, -, -, f6⟩ := moon_facts t
  obtain ⟨o, n1, n2, n3⟩ := north_rng t
  obtain ⟨⟨D0, E, L, H, hv⟩, ho, -, -⟩ := c_Equator_all (l0 := moonLo t) (l1 := moonHi t) (b0 := northLo t) (b1 := northHi t) f6 (by omega) (by omega) o (by omega) (by omega) (moon_box h h').off
  have hw : raHi (moonLo t) (moonHi t) (northLo t) (northHi t) - raLo (moonLo t) (moonHi t) (northLo t) (northHi t) ≤ 200000 := width_int (arc_wide (moon_box h h') hv) (by decide +kernel)
  have ms := moon_sov t
  exact eq_radeX (B := 100200000) (moon_ptX h h') hv ho (by omega) (by decide) (by decide) ms.1 ms.2
/-- What the reference's direction is worth, closely. -/
theorem dir_okX (lon lat : Int) : rabs ((dirX lon lat : Rat) - uQ * pX (zA (argU lon)) (zA (argU lat))) ≤ 370000 ∧ rabs ((dirY lon lat : Rat) - uQ * pY (zA (argU lon)) (zA (argU lat))) ≤ 930000 ∧ rabs ((dirZ lon lat : Rat) - uQ * pZ (zA (argU lon)) (zA (argU lat))) ≤ 930000 := by
  obtain ⟨l0, l1⟩ := argU_bd lon
  obtain ⟨b0, b1⟩ := argU_bd lat
  obtain ⟨sl, cl⟩ := sc_zA l0 l1
  obtain ⟨sb, cb⟩ := sc_zA b0 b1
  have t := sc_zA (a := tiltA) (by decide) (by decide)
  have et : zA tiltA = 65109000 := by decide +kernel
  rw [et] at t
  have ts : rabs (((sc tiltA).1 : Rat) - uQ * se9) ≤ 180000 := t.1
  have tc : rabs (((sc tiltA).2 : Rat) - uQ * ce9) ≤ 180000 := t.2
  obtain ⟨zl0, zl1⟩ := zA_bd l0 l1
  obtain ⟨zb0, zb1⟩ := zA_bd b0 b1
  have nl := sc_one zl0 zl1
  have nb := sc_one zb0 zb1
  obtain ⟨q1, q2, q3, q4⟩ := tilt_num
  have ne : rabs se9 ≤ 1 + 1 / 1000000 := rabs_le.2 ⟨by grind, by grind⟩
  have nc : rabs ce9 ≤ 1 + 1 / 1000000 := rabs_le.2 ⟨by grind, by grind⟩
  have w1 : rabs (S (tq * zA (argU lon))) ≤ 1 + 1 / 1000000 := by have := nl.1; grind
  have w2 : rabs (C (tq * zA (argU lon))) ≤ 1 + 1 / 1000000 := by have := nl.2; grind
  have w3 : rabs (S (tq * zA (argU lat))) ≤ 1 + 1 / 1000000 := by have := nb.1; grind
  have w4 : rabs (C (tq * zA (argU lat))) ≤ 1 + 1 / 1000000 := by have := nb.2; grind
  have w5 : rabs (C (tq * zA (argU lat)) * S (tq * zA (argU lon))) ≤ 1 + 1 / 1000000 := by have := mul_rabs nb.2 nl.1; grind
  have X := fm_two cb cl (by grind) (by grind) w4 w2
  have A := fm_two cb sl (by grind) (by grind) w4 w1
  have P := fm_two A tc (by grind) (by grind) w5 nc
  have R := fm_two A ts (by grind) (by grind) w5 ne
  have Q := fm_two sb ts (by grind) (by grind) w3 ne
  have U := fm_two sb tc (by grind) (by grind) w3 nc
  have P := rabs_le.1 P
  have R := rabs_le.1 R
  have Q := rabs_le.1 Q
  have U := rabs_le.1 U
  refine ⟨?_, ?_, ?_⟩
  · unfold dirX pX; grind
  · unfold dirY pY
    rw [rabs_le]; push_cast
    constructor <;> grind
  · unfold dirZ pZ
    rw [rabs_le]; push_cast
    constructor <;> grind
theorem lat_scX (lat : Int) : rabs (((sc (latA lat)).1 : Rat) - uQ * siU lat) ≤ 180000 ∧ rabs (((sc (latA lat)).2 : Rat) - uQ * coU lat) ≤ 181000 := by
  obtain ⟨b0, b1⟩ := emod_bd lat
  have e : latA lat = lat % 1000000000 * 1000000 := by unfold latA; omega
  obtain ⟨h1, h2⟩ := sc_ang b0 b1
  have hs := siU_b lat
  have hc := coU_z lat
  rw [e]
  rw [angU_tq] at h1 h2
  rw [hs]
  refine ⟨h1, ?_⟩
  have hu : uQ = 1152921504606846976 := by decide +kernel
  have h2 := rabs_le.1 h2
  have hc := rabs_le.1 hc
  rw [hu] at h2 ⊢
  rw [rabs_le]; constructor <;> grind
theorem ab_okX {θ lat x y z : Int} {X Y Z : Rat} (t0 : 0 ≤ θ) (t1 : θ < 1000000000000000) (hx : rabs ((x : Rat) - uQ * X) ≤ 370000) (hy : rabs ((y : Rat) - uQ * Y) ≤ 930000) (hz : rabs ((z : Rat) - uQ * Z) ≤ 930000)
    (bX : rabs X ≤ 1 + 1 / 1000000) (bY : rabs Y ≤ 1 + 1 / 1000000) (bZ : rabs Z ≤ 1 + 1 / 1000000) (bO : rabs (vOut (zA θ) X Y) ≤ 1 + 1 / 1000000) :
    rabs ((abSide θ x y : Rat) - uQ * vSide (zA θ) X Y) ≤ 1700000 ∧ rabs ((abUp θ lat x y z : Rat) - uQ * tUp lat Z (vOut (zA θ) X Y)) ≤ 3100000 ∧ rabs ((abNo θ lat x y z : Rat) - uQ * tNo lat Z (vOut (zA θ) X Y)) ≤ 3100000 := by
  obtain ⟨st, ct⟩ := sc_zA t0 t1
  obtain ⟨z0, z1⟩ := zA_bd t0 t1
  have bt := sc_one z0 z1
  have bt1 : rabs (S (tq * zA θ)) ≤ 1 + 1 / 1000000 := by have := bt.1; grind
  have bt2 : rabs (C (tq * zA θ)) ≤ 1 + 1 / 1000000 := by have := bt.2; grind
  obtain ⟨sp, cp⟩ := lat_scX lat
  obtain ⟨-, bl1, bl2⟩ := siU_circX lat
  have bl1' : rabs (siU lat) ≤ 1 + 1 / 1000000 := by grind
  have bl2' : rabs (coU lat) ≤ 1 + 1 / 1000000 := by grind
  have p1 := rabs_le.1 (fm_two8 ct hx (by grind) (by grind) bt2 bX)
  have p2 := rabs_le.1 (fm_two8 st hy (by grind) (by grind) bt1 bY)
  have p3 := rabs_le.1 (fm_two8 ct hy (by grind) (by grind) bt2 bY)
  have p4 := rabs_le.1 (fm_two8 st hx (by grind) (by grind) bt1 bX)
  have O : rabs ((abOut θ x y : Rat) - uQ * vOut (zA θ) X Y) ≤ 1700000 := by
    unfold abOut vOut
    rw [rabs_le]; push_cast
    constructor <;> grind
  have s1 := rabs_le.1 (fm_two8 sp hz (by grind) (by grind) bl1' bZ)
  have s2 := rabs_le.1 (fm_two8 cp O (by grind) (by grind) bl2' bO)
  have s3 := rabs_le.1 (fm_two8 cp hz (by grind) (by grind) bl2' bZ)
  have s4 := rabs_le.1 (fm_two8 sp O (by grind) (by grind) bl1' bO)
  refine ⟨?_, ?_, ?_⟩
  · unfold abSide vSide
    rw [rabs_le]; push_cast
    constructor <;> grind
  · unfold abUp tUp
    rw [rabs_le]; push_cast
    constructor <;> grind
  · unfold abNo tNo
    rw [rabs_le]; push_cast
    constructor <;> grind
theorem unit_okX {lo hi v : Int} {x : Rat} (hv : rabs ((v : Rat) - uQ * x) ≤ 3100000) (h : InU lo hi x (135/100000)) : UnitOk lo hi v := by
  obtain ⟨h1, h2⟩ := h
  obtain ⟨p1, p2⟩ := prt_near 1000000000 v
  have c1 : ((1000000000 : Int) : Rat) = 1000000000 := rfl
  rw [c1] at p1 p2
  have hv := rabs_le.1 hv
  have hu : uQ = 1152921504606846976 := rfl
  rw [hu] at hv
  have r : ∀ {a b : Int}, (a : Rat) ≤ (b : Rat) → a ≤ b := fun h => Rat.intCast_le_intCast.1 h
  constructor
  · apply r
    push_cast
    grind
  · apply r
    push_cast
    grind
/-- The reference's parts and place.look's intervals, closely. -/
structure LookX (lon lat t a0 a1 d0 d1 x y z : Int) : Prop where
  u : ∃ u : Rat, InU (up0 lat (lkH0 lon t a1) (lkH1 lon t a0) d0 d1) (up1 lat (lkH0 lon t a1) (lkH1 lon t a0) d0 d1) u (135/100000) ∧ rabs ((abUp (refSid lon t) lat x y z : Rat) - uQ * u) ≤ 3100000
  e : ∃ u : Rat, InU (ea0 (lkH0 lon t a1) (lkH1 lon t a0) d0 d1) (ea1 (lkH0 lon t a1) (lkH1 lon t a0) d0 d1) u (135/100000) ∧ rabs ((abSide (refSid lon t) x y : Rat) - uQ * u) ≤ 3100000
  n : ∃ u : Rat, InU (no0 lat (lkH0 lon t a1) (lkH1 lon t a0) d0 d1) (no1 lat (lkH0 lon t a1) (lkH1 lon t a0) d0 d1) u (135/100000) ∧ rabs ((abNo (refSid lon t) lat x y z : Rat) - uQ * u) ≤ 3100000
theorem look_fine (lon lat t : Int) {a0 a1 d0 d1 x y z : Int} {X Y Z : Rat} (h : RaDeX a0 a1 d0 d1 X Y Z) (hx : rabs ((x : Rat) - uQ * X) ≤ 370000) (hy : rabs ((y : Rat) - uQ * Y) ≤ 930000) (hz : rabs ((z : Rat) - uQ * Z) ≤ 930000) : LookX lon lat t a0 a1 d0 d1 x y z := by
  have n := rabs_le.1 h.n
  have sx := sq_nonneg X
  have sy := sq_nonneg Y
  have sz := sq_nonneg Z
  have bX : rabs X ≤ 1 + 1 / 1000000 := sq_rabs (by grind) (by grind)
  have bY : rabs Y ≤ 1 + 1 / 1000000 := sq_rabs (by grind) (by grind)
  have bZ : rabs Z ≤ 1 + 1 / 1000000 := sq_rabs (by grind) (by grind)
  have ok := sid_ok lon t
  obtain ⟨z0, z1⟩ := zA_bd ok.a0 ok.a1
  have ct := circT z0 z1
  have c1 : rabs (C (tq * zA (refSid lon t)) * C (tq * zA (refSid lon t)) + S (tq * zA (refSid lon t)) * S (tq * zA (refSid lon t)) - 1) ≤ 1 / 1000000000 := by
    rw [show C (tq * zA (refSid lon t)) * C (tq * zA (refSid lon t)) + S (tq * zA (refSid lon t)) * S (tq * zA (refSid lon t)) - 1 = S (tq * zA (refSid lon t)) * S (tq * zA (refSid lon t)) + C (tq * zA (refSid lon t)) * C (tq * zA (refSid lon t)) - 1 by grind]; grind
  have bO : rabs (vOut (zA (refSid lon t)) X Y) ≤ 1 + 1 / 1000000 := cauchy c1 (by grind) (by grind)
  obtain ⟨a1', a2', a3'⟩ := ab_okX (lat := lat) ok.a0 ok.a1 hx hy hz bX bY bZ bO
  obtain ⟨za, zd, hd, ka, kd⟩ := dirA_ofX h
  obtain ⟨s1, s2⟩ := sid_angX lon t
  obtain ⟨i1, i2, i3⟩ := look_nearX lat hd ok.o h.oa h.od z0 z1 s1 s2 ka kd
  exact ⟨⟨_, i1, a2'⟩, ⟨_, i2, Rat.le_trans a1' (by decide +kernel)⟩, ⟨_, i3, a3'⟩⟩
theorem sun_lookX (lon lat : Int) {t m : Int} (h : SLon t m) : LookX lon lat t (sraLo t) (sraHi t) (sdeLo t) (sdeHi t) (dirX m 0) (dirY m 0) (dirZ m 0) :=
  look_fine lon lat t (sun_radeX h) (dir_okX m 0).1 (dir_okX m 0).2.1 (dir_okX m 0).2.2
theorem moon_lookX (lon lat : Int) {t m v : Int} (h : MLon t m) (h' : BLat t v) : LookX lon lat t (mraLo t) (mraHi t) (mdeLo t) (mdeHi t) (dirX m v) (dirY m v) (dirZ m v) :=
  look_fine lon lat t (moon_radeX h h') (dir_okX m v).1 (dir_okX m v).2.1 (dir_okX m v).2.2
end Go.Proofs.YtcgnhnmigmdalaaGreatDoor
