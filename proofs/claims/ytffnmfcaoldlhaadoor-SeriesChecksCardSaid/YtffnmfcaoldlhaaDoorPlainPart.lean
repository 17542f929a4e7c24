/- The term of a sum in floating point. No program in sight. -/
import Derived.Test.YtffnmfcaoldlhaaDoorPlainTrig2
import Derived.Test.YtffnmfcaoldlhaaDoorPlainSer
import Derived.Test.YtffnmfcaoldlhaaDoorPlainGr
set_option linter.unusedVariables false
set_option linter.unusedSimpArgs false
namespace Go.Proofs.YtffnmfcaoldlhaaDoor
open Ieee
/-- How far the values of a polynomial can be apart. -/
def lipB (R : Rat) : List Rat → Rat
  | [] => 0
  | _ :: p => pbd p R + R * lipB R p
theorem pv_lip {R x y : Rat} (hx : rabs x ≤ R) (hy : rabs y ≤ R) : ∀ p : List Rat, 0 ≤ lipB R p ∧ rabs (pv p x - pv p y) ≤ rabs (x - y) * lipB R p
  | [] => ⟨Rat.le_refl, by
    show rabs (0 - 0) ≤ rabs (x - y) * 0
    have : rabs (0 - 0) = 0 := by decide +kernel
    rw [this]; grind⟩
  | a :: p => by
    obtain ⟨h0, h1⟩ := pv_lip hx hy p
    have r0 := rabs_nonneg x
    have r1 := rabs_nonneg y
    have r2 := rabs_nonneg (x - y)
    have b := pv_bd hx p
    have b0 := rabs_nonneg (pv p x)
    have e : pv (a :: p) x - pv (a :: p) y = (x - y) * pv p x + y * (pv p x - pv p y) := by rw [pv_cons, pv_cons]; grind
    have t := rabs_add ((x - y) * pv p x) (y * (pv p x - pv p y))
    rw [rabs_mul, rabs_mul] at t
    have m1 := Rat.mul_le_mul_of_nonneg_left b r2
    have m2 := Rat.mul_le_mul_of_nonneg_left h1 r1
    have m3 := Rat.mul_nonneg r2 h0
    have m4 := Rat.mul_le_mul_of_nonneg_right hy m3
    have R0 : 0 ≤ R := by grind
    refine ⟨?_, ?_⟩
    · have := Rat.mul_nonneg R0 h0
      show 0 ≤ pbd p R + R * lipB R p
      grind
    · rw [e]
      show _ ≤ rabs (x - y) * (pbd p R + R * lipB R p)
      grind
theorem lip_s : lipB (393/500) sT ≤ 2 := by decide +kernel
theorem lip_c : lipB (393/500) cT ≤ 2 := by decide +kernel
/-- The sine is no steeper than 2 (up to a tiny error), from 0 to 7. -/
theorem sin_lip {X Y : Rat} (h0 : 0 ≤ X) (h7 : X ≤ 7) (hd : rabs (X - Y) ≤ 1 / 10000) : S X ≤ S Y + 2 * rabs (X - Y) + 2 / 10 ^ 18 ∧ S Y ≤ S X + 2 * rabs (X - Y) + 2 / 10 ^ 18 := by
  have pb : piQ ≤ 314159266 / 100000000 ∧ 314159265 / 100000000 ≤ piQ := by decide +kernel
  obtain ⟨d1, d2⟩ := rabs_le.1 hd
  have dn := rabs_nonneg (X - Y)
  have t18 : (2 : Rat) / 10 ^ 18 = 1 / 10 ^ 18 + 1 / 10 ^ 18 := by decide +kernel
  have key : ∀ o : Rat, rabs (X - o) ≤ 78542 / 100000 → (o = 0 ∨ o = piQ / 2 ∨ o = piQ ∨ o = 3 * piQ / 2 ∨ o = 2 * piQ) → S X ≤ S Y + 2 * rabs (X - Y) + 2 / 10 ^ 18 ∧ S Y ≤ S X + 2 * rabs (X - Y) + 2 / 10 ^ 18 := by
    intro o ho hc
    obtain ⟨o1, o2⟩ := rabs_le.1 ho
    have zx : rabs (X - o) ≤ 393/500 := by grind
    have zy : rabs (Y - o) ≤ 393/500 := rabs_le.2 (by constructor <;> grind)
    obtain ⟨⟨q11, q12⟩, ⟨q21, q22⟩, ⟨q31, q32⟩, q41, q42⟩ := quart zx
    obtain ⟨⟨p11, p12⟩, ⟨p21, p22⟩, ⟨p31, p32⟩, p41, p42⟩ := quart zy
    have ls := (pv_lip zx zy sT).2
    have lc := (pv_lip zx zy cT).2
    have e : X - o - (Y - o) = X - Y := by grind
    rw [e] at ls lc
    have ms := Rat.mul_le_mul_of_nonneg_left lip_s dn
    have mc := Rat.mul_le_mul_of_nonneg_left lip_c dn
    obtain ⟨s1, s2⟩ := rabs_le.1 (show rabs (S (X - o) - S (Y - o)) ≤ 2 * rabs (X - Y) by unfold S; grind)
    obtain ⟨c1, c2⟩ := rabs_le.1 (show rabs (C (X - o) - C (Y - o)) ≤ 2 * rabs (X - Y) by unfold C; grind)
    have ex : X - o + o = X := by grind
    have ey : Y - o + o = Y := by grind
    rw [t18]
    generalize (1 : Rat) / 10 ^ 18 = d at *
    have d0 : 0 ≤ d := by grind
    rcases hc with rfl | rfl | rfl | rfl | rfl
    · have e0 : X - 0 = X := by grind
      have e1 : Y - 0 = Y := by grind
      rw [e0, e1] at s1 s2
      constructor <;> grind
    · rw [ex] at q11 q12
      rw [ey] at p11 p12
      constructor <;> grind
    · rw [ex] at q21 q22
      rw [ey] at p21 p22
      constructor <;> grind
    · rw [ex] at q31 q32
      rw [ey] at p31 p32
      constructor <;> grind
    · rw [ex] at q41 q42
      rw [ey] at p41 p42
      constructor <;> grind
  rcases (show X ≤ 7854/10000 ∨ (7854/10000 ≤ X ∧ X ≤ 235620/100000) ∨ (235620/100000 ≤ X ∧ X ≤ 392700/100000) ∨ (392700/100000 ≤ X ∧ X ≤ 549779/100000) ∨ 549779/100000 ≤ X by grind) with h | h | h | h | h
  · exact key 0 (rabs_le.2 (by constructor <;> grind)) (.inl rfl)
  · exact key (piQ / 2) (rabs_le.2 (by constructor <;> grind)) (.inr (.inl rfl))
  · exact key piQ (rabs_le.2 (by constructor <;> grind)) (.inr (.inr (.inl rfl)))
  · exact key (3 * piQ / 2) (rabs_le.2 (by constructor <;> grind)) (.inr (.inr (.inr (.inl rfl))))
  · exact key (2 * piQ) (rabs_le.2 (by constructor <;> grind)) (.inr (.inr (.inr (.inr rfl))))
theorem add_lt63 {x y r : Nat} {X Y : Rat} (hx : x < 9223372036854775808) (hy : y < 9223372036854775808) (nx : Num x X) (ny : Num y Y) (h : double.add x y = some r) : r < 9223372036854775808 := by
  obtain ⟨s, m, i, h1, _⟩ := nx
  obtain ⟨t, n, j, g1, _⟩ := ny
  obtain rfl := sign_of hx h1
  obtain rfl := sign_of hy g1
  unfold Reads at h1 g1
  unfold Format.add at h
  rw [h1, g1] at h
  have := Option.some.inj h
  rw [← this]
  have e : ∀ a b : Nat, (if signed false a 0 + signed false b 0 = 0 then false && false else decide (signed false a 0 + signed false b 0 < 0)) = false := by
    intro a b
    unfold signed
    simp only [Bool.false_eq_true, if_false, Nat.shiftLeft_zero]
    split
    · rfl
    · exact decide_eq_false (by omega)
  have e2 : ∀ (a k : Nat), signed false a k = signed false (a <<< k) 0 := by
    intro a k
    unfold signed
    simp only [Bool.false_eq_true, if_false, Nat.shiftLeft_zero]
  unfold Format.write
  dsimp only
  rw [e2 m, e2 n, e]
  exact nearest_lt63 _ _
def wUnit : Nat := 4815374002031689728
/-- The angle of a term in units, in floating point; the term. -/
def partX (t : Tm) (inst : Int) : Nat := fadd (fofI ((t.ph + grQ t.rt inst) % 1000000000)) (fdiv (fofI (grR t.rt inst)) wUnit)
def partW (t : Tm) (inst : Int) : Nat := fmul (fofI t.amp) (sinW (radW (partX t inst)))
/-- The exact angle of a term in units. -/
def partA (t : Tm) (inst : Int) : Rat := (((t.ph + grQ t.rt inst) % 1000000000 : Int) : Rat) + ((grR t.rt inst : Int) : Rat) / 86400000000000
theorem part_run {t : Tm} {inst : Int} (ht : TmOk t) :
    ∃ xr x q Y sq p, double.div (fofI (grR t.rt inst)) wUnit = some xr ∧ double.add (fofI ((t.ph + grQ t.rt inst) % 1000000000)) xr = some x ∧ RadP x q ∧ q < 9223372036854775808 ∧ Num q Y ∧ (q = 0 ∨ 0 < Y) ∧
      0 ≤ 2 * piQ * partA t inst / 1000000000 ∧ 2 * piQ * partA t inst / 1000000000 ≤ 7 ∧ Ap q (2 * piQ * partA t inst / 1000000000) (7 / 1000000000000000) ∧ sinW q = sq ∧ double.mul (fofI t.amp) sq = some p ∧ p = partW t inst ∧
      Ap p (t.amp * S (2 * piQ * partA t inst / 1000000000)) (26 / 1000000) := by
  have m0 := Int.emod_nonneg (t.ph + grQ t.rt inst) (show (1000000000 : Int) ≠ 0 by omega)
  have m1 := Int.emod_lt_of_pos (t.ph + grQ t.rt inst) (show (0 : Int) < 1000000000 by omega)
  have r0 : 0 ≤ grR t.rt inst := Int.emod_nonneg _ (by omega)
  have r1 : grR t.rt inst < 86400000000000 := Int.emod_lt_of_pos _ (by omega)
  unfold partA
  obtain ⟨a1, a2, -, -, -, -⟩ := ht
  have eW : partW t inst = fmul (fofI t.amp) (sinW (radW (fadd (fofI ((t.ph + grQ t.rt inst) % 1000000000)) (fdiv (fofI (grR t.rt inst)) wUnit)))) := rfl
  rw [eW]
  generalize (t.ph + grQ t.rt inst) % 1000000000 = n at *
  generalize grR t.rt inst = r at *
  have hn := fofI_num n (by omega) (by omega)
  have hr := fofI_num r (by omega) (by omega)
  have n63 := fofI_lt63 n m0
  have r63 := fofI_lt63 r r0
  have hu : Reads wUnit false 5529600000000000 (-6) := by unfold Reads; decide +kernel
  have uv : rv false 5529600000000000 (-6) = 86400000000000 := by decide +kernel
  have nu : Num wUnit 86400000000000 := ⟨_, _, _, hu, uv⟩
  have rr0 : (0 : Rat) ≤ (r : Rat) := by exact_mod_cast r0
  have rr1 : (r : Rat) ≤ 86399999999999 := by
    have := Rat.intCast_le_intCast.2 (show r ≤ 86399999999999 by omega)
    exact this
  have nn0 : (0 : Rat) ≤ (n : Rat) := by exact_mod_cast m0
  have nn1 : (n : Rat) ≤ 999999999 := by
    have := Rat.intCast_le_intCast.2 (show n ≤ 999999999 by omega)
    exact this
  have p0 : p2 ((0 : Nat) : Int) = 1 := by decide +kernel
  have u54 : p2 (((0 : Nat) : Int) - 54) ≤ 6 / 100000000000000000 := by decide +kernel
  have u53 : p2 (((0 : Nat) : Int) - 53) ≤ 12 / 100000000000000000 := by decide +kernel
  have n54 := Rat.le_of_lt (p2_pos (((0 : Nat) : Int) - 54))
  have n53 := Rat.le_of_lt (p2_pos (((0 : Nat) : Int) - 53))
  have p30 : p2 ((30 : Nat) : Int) = 1073741824 := by decide +kernel
  have u30 : p2 (((30 : Nat) : Int) - 53) ≤ 12 / 100000000 := by decide +kernel
  have p31 : p2 ((31 : Nat) : Int) = 2147483648 := by decide +kernel
  have u31 : p2 (((31 : Nat) : Int) - 53) ≤ 3 / 10000000 := by decide +kernel
  have dv : (r : Rat) / 86400000000000 = (r : Rat) * (1 / 86400000000000) := by rw [Rat.div_def, Rat.div_def]; grind
  obtain ⟨s, m, i, q1, q2⟩ := hr
  obtain ⟨xr, x1, x2⟩ := div_val 0 (by omega) q1 hu (by decide) (by rw [uv, q2, dv, p0]; grind) (by rw [uv, q2, dv, p0]; grind)
  rw [uv, q2, dv] at x2
  have xr63 := div_lt63 r63 (by decide +kernel) ⟨s, m, i, q1, q2⟩ nu (by decide +kernel) x1
  rw [dv]
  have rb : 0 ≤ (r : Rat) * (1 / 86400000000000) ∧ (r : Rat) * (1 / 86400000000000) ≤ 86399999999999 / 86400000000000 := by constructor <;> grind
  generalize (r : Rat) * (1 / 86400000000000) = R at *
  obtain ⟨X0, x3, x4, x5⟩ := x2.num
  obtain ⟨x, y1, y2⟩ := add_ap 30 (by omega) hn.ap x2 (by rw [p30]; grind) (by rw [p30]; grind)
  have x63 := add_lt63 n63 xr63 hn x3 y1
  have y3 := y2.mono (e' := 13 / 100000000) (by grind)
  obtain ⟨q, Y, z1, z2, z3, z4, z5, z6, z7, z8⟩ := sinU_run y3 x63 (by grind) (by grind) (by grind)
  have ha := fofI_num t.amp (by omega) (by omega)
  have aa1 : (t.amp : Rat) ≤ 1000000000 := Rat.intCast_le_intCast.2 a2
  have aa0 : -1000000000 ≤ (t.amp : Rat) := Rat.intCast_le_intCast.2 a1
  have sb := sin_bd z5 z6
  have t17 : (1 : Rat) / 10 ^ 17 ≤ 1 / 100 := by decide +kernel
  obtain ⟨p, k1, k2⟩ := mul_ap 1000000000 (101/100) 31 (by omega) ha.ap z8 aa1 (by grind) (by grind) (by grind) (by rw [p31]; grind)
  refine ⟨xr, x, q, Y, _, p, x1, y1, z1, z2, z3, z4, z5, z6, z7, rfl, k1, ?_, k2.mono (by grind)⟩
  rw [fdiv_of x1, fadd_of y1, radW_of z1, fmul_of k1]
end Go.Proofs.YtffnmfcaoldlhaaDoor
