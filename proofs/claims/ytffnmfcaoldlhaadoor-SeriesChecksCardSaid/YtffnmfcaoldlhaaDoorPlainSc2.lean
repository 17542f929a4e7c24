/- The start of the reference's doubling, and what SinCos answers. No program in sight. -/
import Derived.Test.YtffnmfcaoldlhaaDoorPlainSc
set_option linter.unusedVariables false
set_option linter.unusedSimpArgs false
namespace Go.Proofs.YtffnmfcaoldlhaaDoor
/-- The angle of an argument. -/
def ang (arg : Int) : Rat := 2 * piQ * (arg : Rat) / 10 ^ 15
theorem dbl_eq : ∀ (k : Nat) (y : Rat), dbl k y = ((2 ^ k : Nat) : Rat) * y
  | 0, y => by
    have e : ((2 ^ 0 : Nat) : Rat) = 1 := by decide +kernel
    rw [e]
    show y = 1 * y
    grind
  | k + 1, y => by
    show dbl k (2 * y) = _
    rw [dbl_eq k, Nat.pow_succ]
    push_cast
    grind
theorem dbl12 (y : Rat) : dbl 12 y = 4096 * y := by
  have e : ((2 ^ 12 : Nat) : Rat) = 4096 := by decide +kernel
  rw [dbl_eq, e]
theorem ediv_near (n d : Int) (hd : 0 < d) : ((n / d : Int) : Rat) * (d : Rat) ≤ (n : Rat) ∧ (n : Rat) ≤ ((n / d : Int) : Rat) * (d : Rat) + (d : Rat) := by
  have e := Int.emod_add_mul_ediv n d
  have h1 := Int.emod_lt_of_pos n hd
  have h2 := Int.emod_nonneg n (show d ≠ 0 by omega)
  have e' : n / d * d = d * (n / d) := Int.mul_comm _ _
  have a1 : n / d * d ≤ n := by omega
  have a2 : n ≤ n / d * d + d := by omega
  have b1 : ((n / d * d : Int) : Rat) ≤ ((n : Int) : Rat) := by exact_mod_cast a1
  have b2 : ((n : Int) : Rat) ≤ ((n / d * d + d : Int) : Rat) := by exact_mod_cast a2
  push_cast at b1 b2
  exact ⟨b1, b2⟩
theorem scX_near {arg : Int} (h0 : 0 ≤ arg) (h1 : arg ≤ 1000000000000000) : Nr (scX arg) (ang arg / 4096) 40 := by
  obtain ⟨a1, a2⟩ := ediv_near arg 1000000 (by omega)
  obtain ⟨b1, b2⟩ := ediv_near (arg / 1000000 * 19458077) 1000 (by omega)
  obtain ⟨c1, c2⟩ := ediv_near (arg * 7244 + (arg / 1000000 * 19458077) / 1000) 4096 (by omega)
  have r0 : (0 : Rat) ≤ (arg : Rat) := by exact_mod_cast h0
  have r1 : (arg : Rat) ≤ ((1000000000000000 : Int) : Rat) := Rat.intCast_le_intCast.2 h1
  have r2 : ((1000000000000000 : Int) : Rat) = 1000000000000000 := rfl
  rw [r2] at r1
  push_cast at a1 a2 b1 b2 c1 c2
  unfold Nr ang scX
  have k : uQ * (2 * piQ * (arg : Rat) / 10 ^ 15 / 4096) = (arg : Rat) * (uQ * 2 * piQ / 10 ^ 15 / 4096) := by
    simp only [Rat.div_def]; grind
  rw [k]
  have kk : uQ * 2 * piQ / 10 ^ 15 / 4096 ≤ 724401945807713 / 409600000000000 ∧ 724401945807700 / 409600000000000 ≤ uQ * 2 * piQ / 10 ^ 15 / 4096 := by decide +kernel
  have m1 := Rat.mul_le_mul_of_nonneg_left kk.1 r0
  have m2 := Rat.mul_le_mul_of_nonneg_left kk.2 r0
  generalize uQ * 2 * piQ / 10 ^ 15 / 4096 = kap at *
  generalize (arg : Rat) * kap = z at *
  push_cast
  constructor <;> grind
theorem tdiv_nr {n d : Int} {X e : Rat} (hd : 0 < d) (h : Nr n X e) : Nr (n.tdiv d) (X / (d : Rat)) (e / (d : Rat) + 1) := by
  obtain ⟨a, b⟩ := h
  obtain ⟨c1, c2⟩ := tdiv_near n d hd
  have dp : (0 : Rat) < (d : Rat) := by exact_mod_cast hd
  have i := Rat.mul_inv_cancel (d : Rat) (by grind)
  unfold Nr
  generalize n.tdiv d = k at *
  generalize (d : Rat) = D at *
  generalize (n : Rat) = N at *
  generalize (k : Rat) = K at *
  have cancel : ∀ {s t : Rat}, s * D ≤ t * D → s ≤ t := fun h => Rat.le_of_mul_le_mul_right h dp
  rw [Rat.div_def, Rat.div_def]
  generalize D⁻¹ = I at *
  constructor
  · refine cancel ?_
    have e1 : (uQ * (X * I) + (e * I + 1)) * D = uQ * X + e + D := by grind
    rw [e1]; grind
  · refine cancel ?_
    have e1 : uQ * (X * I) * D = uQ * X := by grind
    have e2 : (K + (e * I + 1)) * D = K * D + e + D := by grind
    rw [e1, e2]; grind
/-- The first terms are near Taylor's polynomials where the angle is small. -/
theorem start_sin : pbd (padd sT (pscale (-1) [0, 1, 0, -1/6, 0, 1/120])) (63 / 40960) ≤ 1 / 10 ^ 18 := by decide +kernel
theorem start_cos : pbd (padd (padd [1] (pscale (-1) cT)) (pscale (-1) [0, 0, 1/2, 0, -1/24])) (63 / 40960) ≤ 1 / 10 ^ 18 := by decide +kernel
theorem start_near {x : Int} {y : Rat} (hy : rabs y ≤ 63 / 40960) (h : Nr x y 40) : Nr (scStart x).1 (S y) 48 ∧ Nr (scStart x).2 (1 - C y) 8 := by
  obtain ⟨y1, y2⟩ := rabs_le.1 hy
  have n1 := fm_nr h h y2 y1 y2 y1
  have b2 := bil y2 y1 y2 y1
  have q1 : Nr (fm x x) (y * y) 2 := n1.mono (by decide +kernel)
  have n2 := fm_nr (A := 63 / 40960) (B := 1 / 100000) h q1 y2 y1 (by grind) (by grind)
  have q2 : Nr (fm x (fm x x)) (y * (y * y)) 2 := n2.mono (by decide +kernel)
  have b3 := bil (u := y) (v := y * y) (c := 63 / 40960) (d := 1 / 100000) y2 y1 (by grind) (by grind)
  have n3 := fm_nr (A := 1 / 100000) (B := 1 / 100000) q2 q1 (by grind) (by grind) (by grind) (by grind)
  have q3 : Nr (fm (fm x (fm x x)) (fm x x)) (y * (y * y) * (y * y)) 2 := n3.mono (by decide +kernel)
  have n4 := fm_nr (A := 1 / 100000) (B := 1 / 100000) q1 q1 (by grind) (by grind) (by grind) (by grind)
  have q4 : Nr (fm (fm x x) (fm x x)) (y * y * (y * y)) 2 := n4.mono (by decide +kernel)
  have t1 := tdiv_nr (d := 6) (by omega) q2
  have t2 := tdiv_nr (d := 120) (by omega) q3
  have t3 := tdiv_nr (d := 2) (by omega) q1
  have t4 := tdiv_nr (d := 24) (by omega) q4
  have p1 := pv_near hy _ _ start_sin
  have p2 := pv_near hy _ _ start_cos
  have e1 : pv [0, 1, 0, -1/6, 0, 1/120] y = y - y * (y * y) / 6 + y * (y * y) * (y * y) / 120 := by unfold pv; simp; grind
  have e2 : pv [0, 0, 1/2, 0, -1/24] y = y * y / 2 - y * y * (y * y) / 24 := by unfold pv; simp; grind
  rw [e1] at p1
  rw [pv_add, pv_scale, e2] at p2
  have e3 : pv [1] y = 1 := by unfold pv; simp; grind
  rw [e3] at p2
  have hu : uQ * (1 / 10 ^ 18) ≤ 2 := by decide +kernel
  have up : (0 : Rat) ≤ uQ := by decide +kernel
  obtain ⟨h1, h2⟩ := h
  obtain ⟨t11, t12⟩ := t1
  obtain ⟨t21, t22⟩ := t2
  obtain ⟨t31, t32⟩ := t3
  obtain ⟨t41, t42⟩ := t4
  have m1 := Rat.mul_le_mul_of_nonneg_left p1.1 up
  have m2 := Rat.mul_le_mul_of_nonneg_left p1.2 up
  have m3 := Rat.mul_le_mul_of_nonneg_left p2.1 up
  have m4 := Rat.mul_le_mul_of_nonneg_left p2.2 up
  have c6 : ((6 : Int) : Rat) = 6 := rfl
  have c120 : ((120 : Int) : Rat) = 120 := rfl
  have c2 : ((2 : Int) : Rat) = 2 := rfl
  have c24 : ((24 : Int) : Rat) = 24 := rfl
  rw [c6] at t11 t12
  rw [c120] at t21 t22
  rw [c2] at t31 t32
  rw [c24] at t41 t42
  unfold S C
  clear n1 n2 n3 n4 q1 q2 q3 q4 b2 b3 hy
  unfold Nr scStart
  push_cast
  generalize (fm x (fm x x)).tdiv 6 = k1 at *
  generalize (fm (fm x (fm x x)) (fm x x)).tdiv 120 = k2 at *
  generalize (fm x x).tdiv 2 = k3 at *
  generalize (fm (fm x x) (fm x x)).tdiv 24 = k4 at *
  generalize y * (y * y) / 6 = z1 at *
  generalize y * (y * y) * (y * y) / 120 = z2 at *
  generalize y * y / 2 = z3 at *
  generalize y * y * (y * y) / 24 = z4 at *
  generalize pv sT y = s0 at *
  generalize pv cT y = c0 at *
  generalize uQ = u at *
  generalize (x : Rat) = xr at *
  generalize (k1 : Rat) = r1 at *
  generalize (k2 : Rat) = r2 at *
  generalize (k3 : Rat) = r3 at *
  generalize (k4 : Rat) = r4 at *
  have w1 : u * (y - z1 + z2 + 1 / 10 ^ 18) = u * y - u * z1 + u * z2 + u * (1 / 10 ^ 18) := by grind
  have w2 : u * (s0 + 1 / 10 ^ 18) = u * s0 + u * (1 / 10 ^ 18) := by grind
  have w3 : u * (z3 - z4 + 1 / 10 ^ 18) = u * z3 - u * z4 + u * (1 / 10 ^ 18) := by grind
  have w4 : u * (1 + -1 * c0 + 1 / 10 ^ 18) = u * (1 - c0) + u * (1 / 10 ^ 18) := by grind
  have w5 : u * (1 + -1 * c0) = u * (1 - c0) := by grind
  rw [w1] at m1
  rw [w2] at m2
  rw [w3, w5] at m3
  rw [w4] at m4
  have w6 : u * (y - z1 + z2) = u * y - u * z1 + u * z2 := by grind
  have w7 : u * (z3 - z4) = u * z3 - u * z4 := by grind
  rw [w6] at m2
  rw [w7] at m4
  generalize u * (1 / 10 ^ 18) = ue at *
  generalize u * y = uy at *
  generalize u * z1 = uz1 at *
  generalize u * z2 = uz2 at *
  generalize u * z3 = uz3 at *
  generalize u * z4 = uz4 at *
  generalize u * s0 = us at *
  generalize u * (1 - c0) = uc at *
  clear p1 p2 w1 w2 w3 w4 w5 w6 w7 e1 e2 e3
  refine ⟨⟨?_, ?_⟩, ?_, ?_⟩
  all_goals grind
/-- SinCos answers the sine and the cosine of the angle, up to 3 / 10^12. -/
theorem sc_near {arg : Int} (h0 : 0 ≤ arg) (h1 : arg ≤ 1000000000000000) : Nr (sc arg).1 (S (ang arg)) 3000000 ∧ Nr (sc arg).2 (C (ang arg)) 3000000 := by
  have hx := scX_near h0 h1
  have r0 : (0 : Rat) ≤ (arg : Rat) := by exact_mod_cast h0
  have r1 : (arg : Rat) ≤ ((1000000000000000 : Int) : Rat) := Rat.intCast_le_intCast.2 h1
  have r2 : ((1000000000000000 : Int) : Rat) = 1000000000000000 := rfl
  rw [r2] at r1
  have hy : rabs (ang arg / 4096) ≤ 63 / 40960 := by
    have e : ang arg / 4096 = (arg : Rat) * (2 * piQ / 10 ^ 15 / 4096) := by unfold ang; simp only [Rat.div_def]; grind
    have k : 0 ≤ 2 * piQ / 10 ^ 15 / 4096 ∧ 2 * piQ / 10 ^ 15 / 4096 ≤ 63 / 40960 / 1000000000000000 := by decide +kernel
    rw [e, rabs_le]
    generalize 2 * piQ / 10 ^ 15 / 4096 = c at *
    have m1 := Rat.mul_nonneg r0 k.1
    have m2 := Rat.mul_le_mul_of_nonneg_left k.2 r0
    have m3 := Rat.mul_le_mul_of_nonneg_right r1 (show (0 : Rat) ≤ 63 / 40960 / 1000000000000000 by decide +kernel)
    have m4 : (1000000000000000 : Rat) * (63 / 40960 / 1000000000000000) = 63 / 40960 := by decide +kernel
    constructor <;> grind
  obtain ⟨s1, s2⟩ := start_near hy hx
  obtain ⟨i1, i2⟩ := iter_nr 12 _ _ _ (48, 8) (by decide +kernel) hy s1 s2
  have ed : dbl 12 (ang arg / 4096) = ang arg := by rw [dbl12]; simp only [Rat.div_def]; grind
  rw [ed] at i1 i2
  refine ⟨i1.mono er12.1, ?_⟩
  have := (i2.mono er12.2).co
  rw [show 1 - (1 - C (ang arg)) = C (ang arg) by grind] at this
  exact this
end Go.Proofs.YtffnmfcaoldlhaaDoor
