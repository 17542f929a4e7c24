/- The rational function of math.xatan is near the arc of the tangent. No program in sight. -/
import Derived.Test.YtffnmfcaoldlhaaDoorPlainAng2
import Derived.Test.YtffnmfcaoldlhaaDoorFltB
set_option linter.unusedVariables false
set_option linter.unusedSimpArgs false
namespace Go.Proofs.YtffnmfcaoldlhaaDoor
def pcomp (p q : List Rat) : List Rat := p.foldr (fun c a => padd [c] (pmul q a)) []
theorem pv_one (c x : Rat) : pv [c] x = c := by unfold pv; simp; grind
theorem pv_comp (q : List Rat) (x : Rat) : ∀ p : List Rat, pv (pcomp p q) x = pv p (pv q x)
  | [] => rfl
  | c :: p => by
    have := pv_comp q x p
    show pv (padd [c] (pmul q (pcomp p q))) x = _
    rw [pv_add, pv_mul, this, pv_one, pv_cons]
def ppow (p : List Rat) : Nat → List Rat
  | 0 => [1]
  | n + 1 => pmul p (ppow p n)
theorem pv_pow (p : List Rat) (x : Rat) : ∀ n : Nat, pv (ppow p n) x = (pv p x) ^ n
  | 0 => by unfold ppow; rw [pv_one]; grind
  | n + 1 => by unfold ppow; rw [pv_mul, pv_pow p x n, Rat.pow_succ]; grind
/-- The first terms of the arc of a small tangent. -/
def atB : List Rat := [0, 1, 0, -1/3, 0, 1/5, 0, -1/7]
def s9 : List Rat := [0, 1, 0, -1/6, 0, 1/120, 0, -1/5040, 0, 1/362880]
def c8 : List Rat := [1, 0, -1/2, 0, 1/24, 0, -1/720, 0, 1/40320]
theorem near_s9 : pbd (padd sT (pscale (-1) s9)) (1/20) ≤ 1 / 10 ^ 18 := by decide +kernel
theorem near_c8 : pbd (padd cT (pscale (-1) c8)) (1/20) ≤ 1 / 10 ^ 18 := by decide +kernel
theorem small_at : pbd (padd (pcomp s9 atB) (pscale (-1) (0 :: pcomp c8 atB))) (9/200) ≤ 1 / 10 ^ 13 := by decide +kernel
theorem bd_at : pbd atB (9/200) ≤ 1/20 := by decide +kernel
theorem at_small {u : Rat} (hu : rabs u ≤ 9/200) : rabs (S (pv atB u) - u * C (pv atB u)) ≤ 101 / 1000000000000000 ∧ rabs (pv atB u) ≤ 1/20 := by
  have hb := pv_bd hu atB
  have hb2 : rabs (pv atB u) ≤ 1/20 := by have := bd_at; grind
  refine ⟨?_, hb2⟩
  have h := pv_bd hu (padd (pcomp s9 atB) (pscale (-1) (0 :: pcomp c8 atB)))
  rw [pv_add, pv_scale, pv_cons, pv_comp, pv_comp] at h
  have h := rabs_le.1 (show rabs (pv s9 (pv atB u) + -1 * (0 + u * pv c8 (pv atB u))) ≤ 1 / 10 ^ 13 by have := small_at; grind)
  have n1 := pv_near hb2 _ _ near_s9
  have n2 := pv_near hb2 _ _ near_c8
  have t1 : (1 : Rat) / 10 ^ 18 = 1 / 1000000000000000000 := by decide +kernel
  have t2 : (1 : Rat) / 10 ^ 13 = 1 / 10000000000000 := by decide +kernel
  rw [t1] at n1 n2
  rw [t2] at h
  unfold S C
  have m := rabs_le.1 (mul_rabs hu (show rabs (pv cT (pv atB u) - pv c8 (pv atB u)) ≤ 1 / 1000000000000000000 from rabs_le.2 ⟨by grind, by grind⟩))
  generalize pv s9 (pv atB u) = x1 at *
  generalize pv c8 (pv atB u) = x2 at *
  generalize pv sT (pv atB u) = x3 at *
  generalize pv cT (pv atB u) = x4 at *
  rw [rabs_le]
  constructor <;> grind
def aP0 : Nat := 13829429103926125972
def aP1 : Nat := 13848613196940411002
def aP2 : Nat := 13858350711815275123
def aP3 : Nat := 13861719834326579749
def aP4 : Nat := 13857635882265799822
def aQ0 : Nat := 4627690253511319612
def aQ1 : Nat := 4640010388282866213
def aQ2 : Nat := 4646322940342877755
def aQ3 : Nat := 4647246694406179306
def aQ4 : Nat := 4641049159275471596
def xQ : List Rat := [cv aQ4, 0, cv aQ3, 0, cv aQ2, 0, cv aQ1, 0, cv aQ0, 0, 1]
def xN : List Rat := 0 :: padd xQ [0, 0, cv aP4, 0, cv aP3, 0, cv aP2, 0, cv aP1, 0, cv aP0]
def ndD (t : Rat) : List Rat := [1 + t * t, t]
def ndB (t : Rat) : List Rat := padd (pmul [0, 1] (ppow (ndD t) 6)) (padd (pmul [0, 0, 0, -1/3] (ppow (ndD t) 4)) (padd (pmul [0, 0, 0, 0, 0, 1/5] (ppow (ndD t) 2)) [0, 0, 0, 0, 0, 0, 0, -1/7]))
def ndG (t a : Rat) : List Rat := padd (pmul (padd (pshift t xN) (pscale (-a) (pshift t xQ))) (ppow (ndD t) 7)) (pscale (-1) (pmul (pshift t xQ) (ndB t)))
structure NdOk (t a : Rat) : Prop where
  g : pbd (ndG t a) (9/200) ≤ 58 / 1000000000000
  s : rabs (S a - t * C a) ≤ 1 / 1000000000000000
  t0 : 0 ≤ t
  t1 : t ≤ 7/10
  a1 : rabs a ≤ 1
theorem xQ_ge (x : Rat) : 194 ≤ pv xQ x := by
  have sq : 0 ≤ x * x := by
    by_cases q : 0 ≤ x
    · exact Rat.mul_nonneg q q
    · have := Rat.mul_nonneg (show 0 ≤ -x by grind) (show 0 ≤ -x by grind); grind
  have p : ∀ {c r : Rat}, 0 ≤ c → 0 ≤ r → 0 ≤ c + x * (0 + x * r) := by
    intro c r h1 h2
    have := Rat.mul_nonneg sq h2
    grind
  have q0 : (194 : Rat) ≤ cv aQ4 := by decide +kernel
  have q1 : 0 ≤ cv aQ3 := by decide +kernel
  have q2 : 0 ≤ cv aQ2 := by decide +kernel
  have q3 : 0 ≤ cv aQ1 := by decide +kernel
  have q4 : 0 ≤ cv aQ0 := by decide +kernel
  have e1 : (0 : Rat) ≤ 1 + x * 0 := by grind
  have h := p q1 (p q2 (p q3 (p q4 e1)))
  have h2 := Rat.mul_nonneg sq h
  unfold xQ
  simp only [pv_cons]
  have e0 : pv [] x = 0 := rfl
  rw [e0]
  grind
theorem one_pow {D : Rat} (h : 1 ≤ D) : ∀ n : Nat, 1 ≤ D ^ n
  | 0 => by simp
  | n + 1 => by
    have := one_pow h n
    rw [Rat.pow_succ]
    have m := Rat.mul_nonneg (show 0 ≤ D ^ n - 1 by grind) (show 0 ≤ D - 1 by grind)
    grind
theorem rabs_of_mul {x m e : Rat} (hm : 1 ≤ m) (h : rabs (x * m) ≤ e) : rabs x ≤ e := by
  rw [rabs_mul] at h
  have h0 := rabs_nonneg x
  have e1 : rabs m = m := by unfold rabs; rw [if_pos (by grind)]
  rw [e1] at h
  have := Rat.mul_nonneg h0 (show 0 ≤ m - 1 by grind)
  grind
theorem node {t a x R : Rat} (hn : NdOk t a) (hx : rabs (x - t) ≤ 9/200) (x0 : 0 ≤ x) (hR : R * pv xQ x = pv xN x) : rabs (S R - x * C R) ≤ 2 / 1000000000000 ∧ rabs R ≤ 21/20 + 1/100 := by
  obtain ⟨h, hh⟩ : ∃ h, x - t = h := ⟨_, rfl⟩
  rw [hh] at hx
  have hxt : x = t + h := by grind
  have D1 : 1 ≤ 1 + t * x := by have := Rat.mul_nonneg hn.t0 x0; grind
  obtain ⟨D, hD⟩ : ∃ D, 1 + t * x = D := ⟨_, rfl⟩
  rw [hD] at D1
  have hDv : pv (ndD t) h = D := by
    unfold ndD
    rw [pv_cons, pv_one, ← hD, hxt]
    grind
  obtain ⟨u, hu⟩ : ∃ u, u * D = h := ⟨h / D, Rat.div_mul_cancel (by grind)⟩
  have hub : rabs u ≤ 9/200 := rabs_of_mul D1 (by rw [hu]; exact hx)
  obtain ⟨s1, s2⟩ := at_small hub
  have hB : pv (ndB t) h = D ^ 7 * pv atB u := by
    unfold ndB atB
    simp only [pv_add, pv_mul, pv_pow, hDv, pv_cons]
    have e0 : ∀ y, pv [] y = 0 := fun _ => rfl
    simp only [e0]
    rw [← hu]
    grind
  have hG := pv_bd hx (ndG t a)
  have hG2 : rabs (pv (ndG t a) h) ≤ 58 / 1000000000000 := by have := hn.g; grind
  have eG : pv (ndG t a) h = (R - (a + pv atB u)) * (pv xQ x * D ^ 7) := by
    unfold ndG
    simp only [pv_add, pv_mul, pv_scale, pv_pow, pv_shift, hDv, hB]
    have ex : h + t = x := by grind
    rw [ex, ← hR]
    grind
  rw [eG] at hG2
  have q1 := xQ_ge x
  have q2 := one_pow D1 7
  have hRb : rabs (R - (a + pv atB u)) ≤ 3 / 10000000000000 := by
    have m : rabs ((R - (a + pv atB u)) * 194) ≤ 58 / 1000000000000 := by
      refine rabs_of_mul (m := pv xQ x * D ^ 7 / 194) ?_ ?_
      · have m1 := Rat.mul_nonneg (show 0 ≤ pv xQ x - 194 by grind) (show 0 ≤ D ^ 7 - 1 by grind)
        grind
      · have e : (R - (a + pv atB u)) * 194 * (pv xQ x * D ^ 7 / 194) = (R - (a + pv atB u)) * (pv xQ x * D ^ 7) := by grind
        rw [e]; exact hG2
    have := rabs_le.1 m
    rw [rabs_le]
    constructor <;> grind
  generalize pv atB u = b at *
  have b1 := rabs_le.1 s2
  have r1 := rabs_le.1 hRb
  have a1 := rabs_le.1 hn.a1
  have hab : rabs a ≤ 32/5 := rabs_le.2 ⟨by grind, by grind⟩
  have hbb : rabs b ≤ 16/5 := rabs_le.2 ⟨by grind, by grind⟩
  have ad1 := rabs_le.1 (sin_add hab hbb)
  have ad2 := cos_add hab hbb
  have lip := sin_lipQ (x := R) (y := a + b) (rabs_le.2 ⟨by grind, by grind⟩) (rabs_le.2 ⟨by grind, by grind⟩)
  have x1 : x ≤ 4/5 := by have := hn.t1; have := rabs_le.1 hx; grind
  have xb : rabs x ≤ 4/5 := rabs_le.2 ⟨x1, by grind⟩
  have l1 := rabs_le.1 lip.1
  have l2 := rabs_le.1 (mul_rabs xb (show rabs (C R - C (a + b)) ≤ 6 / 10000000000000 by have := lip.2; grind))
  have l3 := rabs_le.1 (mul_rabs xb ad2)
  have cb := SC_bd (y := b) (by grind)
  have ca := SC_bd (y := a) hab
  have l4 := rabs_le.1 (mul_rabs hn.s cb.2)
  have l5 := rabs_le.1 (mul_rabs hn.s cb.1)
  have l6 := rabs_le.1 (mul_rabs xb (rabs_le.2 l5))
  have D2 : D ≤ 8/5 := by
    have m := Rat.mul_nonneg (show 0 ≤ 4/5 - x by grind) hn.t0
    have m2 := Rat.mul_nonneg x0 (show 0 ≤ 7/10 - t by have := hn.t1; grind)
    grind
  have l7 := mul_rabs (show rabs D ≤ 8/5 from rabs_le.2 ⟨D2, by grind⟩) s1
  have l8 := rabs_le.1 (mul_rabs ca.2 l7)
  have key : S a * C b + C a * S b - x * (C a * C b - S a * S b) = C a * (D * (S b - u * C b)) + (S a - t * C a) * C b + x * ((S a - t * C a) * S b) := by
    have e1 : u * D = x - t := by rw [hu]; exact hh.symm
    have e2 : C a * (D * (S b - u * C b)) = C a * (D * S b - (u * D) * C b) := by grind
    rw [e2, e1, ← hD]
    grind
  constructor
  · rw [rabs_le]
    generalize C a * (D * (S b - u * C b)) = z1 at *
    generalize (S a - t * C a) * C b = z2 at *
    generalize x * ((S a - t * C a) * S b) = z3 at *
    constructor <;> grind
  · rw [rabs_le]
    constructor <;> grind
theorem nd0 : NdOk (9/200) (449696618523275861207608426 / 10 ^ 28) := ⟨by decide +kernel, by decide +kernel, by decide +kernel, by decide +kernel, by decide +kernel⟩
theorem nd1 : NdOk (27/200) (1341887279524205317652155279 / 10 ^ 28) := ⟨by decide +kernel, by decide +kernel, by decide +kernel, by decide +kernel, by decide +kernel⟩
theorem nd2 : NdOk (9/40) (2213144423477912931182797444 / 10 ^ 28) := ⟨by decide +kernel, by decide +kernel, by decide +kernel, by decide +kernel, by decide +kernel⟩
theorem nd3 : NdOk (63/200) (3051608246158600927095771295 / 10 ^ 28) := ⟨by decide +kernel, by decide +kernel, by decide +kernel, by decide +kernel, by decide +kernel⟩
theorem nd4 : NdOk (81/200) (3848092765458611737888959898 / 10 ^ 28) := ⟨by decide +kernel, by decide +kernel, by decide +kernel, by decide +kernel, by decide +kernel⟩
theorem nd5 : NdOk (99/200) (4596396144303821751201168258 / 10 ^ 28) := ⟨by decide +kernel, by decide +kernel, by decide +kernel, by decide +kernel, by decide +kernel⟩
theorem nd6 : NdOk (117/200) (5293170697190560172275445919 / 10 ^ 28) := ⟨by decide +kernel, by decide +kernel, by decide +kernel, by decide +kernel, by decide +kernel⟩
theorem nd7 : NdOk (27/40) (5937496667107711363616624289 / 10 ^ 28) := ⟨by decide +kernel, by decide +kernel, by decide +kernel, by decide +kernel, by decide +kernel⟩
/-- The rational function and the arc of the tangent. -/
theorem at_near0 {x R : Rat} (x0 : 0 ≤ x) (x1 : x ≤ 18/25) (hR : R * pv xQ x = pv xN x) : rabs (S R - x * C R) ≤ 2 / 1000000000000 ∧ rabs R ≤ 21/20 + 1/100 := by
  by_cases h0 : x ≤ 9/100
  · exact node nd0 (rabs_le.2 ⟨by grind, by grind⟩) x0 hR
  by_cases h1 : x ≤ 9/50
  · exact node nd1 (rabs_le.2 ⟨by grind, by grind⟩) x0 hR
  by_cases h2 : x ≤ 27/100
  · exact node nd2 (rabs_le.2 ⟨by grind, by grind⟩) x0 hR
  by_cases h3 : x ≤ 9/25
  · exact node nd3 (rabs_le.2 ⟨by grind, by grind⟩) x0 hR
  by_cases h4 : x ≤ 9/20
  · exact node nd4 (rabs_le.2 ⟨by grind, by grind⟩) x0 hR
  by_cases h5 : x ≤ 27/50
  · exact node nd5 (rabs_le.2 ⟨by grind, by grind⟩) x0 hR
  by_cases h6 : x ≤ 63/100
  · exact node nd6 (rabs_le.2 ⟨by grind, by grind⟩) x0 hR
  exact node nd7 (rabs_le.2 ⟨by grind, by grind⟩) x0 hR
theorem xQ_even (x : Rat) : pv xQ (-x) = pv xQ x := by
  have h := pv_stretch (-1) xQ 1 x
  have e : pstretch (-1) 1 xQ = xQ := by decide +kernel
  rw [e] at h
  have e2 : -1 * x = -x := by grind
  rw [e2] at h
  grind
theorem xN_odd (x : Rat) : pv xN (-x) = -pv xN x := by
  have h := pv_stretch (-1) xN 1 x
  have e : pstretch (-1) 1 xN = pscale (-1) xN := by decide +kernel
  rw [e, pv_scale] at h
  have e2 : -1 * x = -x := by grind
  rw [e2] at h
  grind
theorem at_near {x R : Rat} (hx : rabs x ≤ 18/25) (hR : R * pv xQ x = pv xN x) : rabs (S R - x * C R) ≤ 2 / 1000000000000 ∧ rabs R ≤ 21/20 + 1/100 := by
  have h := rabs_le.1 hx
  by_cases x0 : 0 ≤ x
  · exact at_near0 x0 h.1 hR
  · have := at_near0 (x := -x) (R := -R) (by grind) (by grind) (by rw [xQ_even, xN_odd]; grind)
    rw [S_neg, C_neg, rabs_neg] at this
    have e : -S R - -x * C R = -(S R - x * C R) := by grind
    rw [e, rabs_neg] at this
    exact this
end Go.Proofs.YtffnmfcaoldlhaaDoor
