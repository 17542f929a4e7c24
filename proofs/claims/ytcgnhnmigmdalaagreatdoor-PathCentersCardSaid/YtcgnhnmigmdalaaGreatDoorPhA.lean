/- The whole root by its bits, as a function that the kernel can run; it is the only one. No program in sight. What path.Center answers, as one function of the instant. The example of pathWorks: the lunation 24719 has points, the lunation 24720 has no eclipse. No program in sight. Bounds of path.Center's numbers. No program in sight. Bounds of products of wide intervals, for path.Center. No program in sight. The numbers of path.Center in order and within bounds. No program in sight. -/
import Derived.Test.YtcgnhnmigmdalaaGreatDoorPlA
import Derived.Test.YtcgnhnmigmdalaaGreatDoorWkP
import Derived.Test.YtcgnhnmigmdalaaGreatDoorSmA
import Derived.Test.YtcgnhnmigmdalaaGreatDoorTrC
import Derived.Test.YtcgnhnmigmdalaaGreatDoorTrB
import Derived.Test.YtcgnhnmigmdalaaGreatDoorTrD
import Derived.Test.YtcgnhnmigmdalaaGreatDoorEcB
import Derived.Test.YtcgnhnmigmdalaaGreatDoorEqB
set_option linter.unusedVariables false
set_option linter.unusedSimpArgs false
namespace Go.Proofs.YtcgnhnmigmdalaaGreatDoor
section
def isqB : Nat → Int → Int → Int
  | 0, _, z => z
  | k + 1, n, z => if (z + 2 ^ k) * (z + 2 ^ k) ≤ n then isqB k n (z + 2 ^ k) else isqB k n z
theorem isqB_ok : ∀ (k : Nat) (n z : Int), 0 ≤ z → z * z ≤ n → n < (z + 2 ^ k) * (z + 2 ^ k) → 0 ≤ isqB k n z ∧ isqB k n z * isqB k n z ≤ n ∧ n < (isqB k n z + 1) * (isqB k n z + 1)
  | 0, n, z, h0, h1, h2 => ⟨h0, h1, h2⟩
  | k + 1, n, z, h0, h1, h2 => by
    have hp : (0 : Int) ≤ 2 ^ k := Int.le_of_lt (Int.pow_pos (by decide))
    have e : z + 2 ^ k + 2 ^ k = z + 2 ^ (k + 1) := by rw [Int.pow_succ]; omega
    unfold isqB
    split
    · rename_i h
      exact isqB_ok k n (z + 2 ^ k) (by omega) h (by rw [e]; exact h2)
    · rename_i h
      exact isqB_ok k n z h0 h1 (by omega)
def isq (n : Int) : Int := isqB 30 n 0
theorem isq_ok {n : Int} (h0 : 0 ≤ n) (h1 : n ≤ 1000000000000000000) : 0 ≤ isq n ∧ isq n * isq n ≤ n ∧ n < (isq n + 1) * (isq n + 1) :=
  isqB_ok 30 n 0 (by decide) (by omega) (by
    have : ((0 : Int) + 2 ^ 30) * (0 + 2 ^ 30) = 1152921504606846976 := by decide
    omega)
theorem root_only {p q n : Int} (p0 : 0 ≤ p) (p1 : p * p ≤ n) (q0 : 0 ≤ q) (q2 : n < (q + 1) * (q + 1)) : p ≤ q := by
  by_cases h : p ≤ q
  · exact h
  · exfalso
    have := Int.mul_le_mul (show q + 1 ≤ p by omega) (show q + 1 ≤ p by omega) (by omega) (by omega)
    omega
/-- The lower end of trig.Root's answer. -/
theorem isq_eq {p n : Int} (h0 : 0 ≤ n) (h1 : n ≤ 1000000000000000000) (p0 : 0 ≤ p) (p1 : p * p ≤ n) (p2 : n < (p + 1) * (p + 1)) : p = isq n := by
  obtain ⟨a, b, c⟩ := isq_ok h0 h1
  have := root_only p0 p1 a c
  have := root_only a b p0 p2
  omega
/-- The upper end. -/
def isqU (n : Int) : Int := if isq n * isq n < n then isq n + 1 else isq n
theorem isqU_eq {q n : Int} (h0 : 0 ≤ n) (h1 : n ≤ 1000000000000000000) (q0 : 0 ≤ q) (q1 : n ≤ q * q) (q2 : q = 0 ∨ (q - 1) * (q - 1) < n) : q = isqU n := by
  obtain ⟨a, b, c⟩ := isq_ok h0 h1
  unfold isqU
  generalize isq n = r at *
  have up : r ≤ q := by
    by_cases h : r ≤ q
    · exact h
    · exfalso
      have := Int.mul_le_mul (show q + 1 ≤ r by omega) (show q + 1 ≤ r by omega) (by omega) (by omega)
      have e : (q + 1) * (q + 1) = q * q + 2 * q + 1 := by grind
      omega
  have dn : q ≤ r + 1 := by
    rcases q2 with q2 | q2
    · omega
    · by_cases h : q ≤ r + 1
      · exact h
      · exfalso
        have := Int.mul_le_mul (show r + 1 ≤ q - 1 by omega) (show r + 1 ≤ q - 1 by omega) (by omega) (by omega)
        omega
  split
  · rename_i h
    by_cases e : q = r
    · subst e; omega
    · omega
  · rename_i h
    have en : n = r * r := by omega
    by_cases e : q = r
    · exact e
    · exfalso
      have eq1 : q = r + 1 := by omega
      rcases q2 with q2 | q2
      · omega
      · rw [eq1, show r + 1 - 1 = r by omega] at q2
        omega
end
section
/-- The offsets of the shadow. -/
def pxB (t : Int) : Int := if 1000000000 < elLo t + elHi t then 1000000000 else 0
def pxLo (t : Int) : Int := 377 * (elLo t - pxB t)
def pxHi (t : Int) : Int := 377 * (elHi t - pxB t)
def pyLo (t : Int) : Int := 377 * northLo t
def pyHi (t : Int) : Int := 377 * northHi t
/-- The square of an interval. -/
def sqLo (a b : Int) : Int := if a ≤ 0 ∧ 0 ≤ b then 0 else pLo a b a b 1000000000
def sqHi (a b : Int) : Int := pHi a b a b 1000000000
def psLo (t : Int) : Int := sqLo (pxLo t) (pxHi t) + sqLo (pyLo t) (pyHi t)
def psHi (t : Int) : Int := sqHi (pxLo t) (pxHi t) + sqHi (pyLo t) (pyHi t)
def pzLo (t : Int) : Int := isq ((1000000000 - psHi t) * 1000000000)
def pzHi (t : Int) : Int := isqU ((1000000000 - psLo t) * 1000000000)
/-- Sine and cosine of the sun's longitude. -/
def psA (t : Int) : Int := sovLo (sunLo t) (sunHi t)
def psB (t : Int) : Int := sovHi (sunLo t) (sunHi t)
def pcA (t : Int) : Int := sovLo (covB (sunLo t)) (covE (sunLo t) (sunHi t))
def pcB (t : Int) : Int := sovHi (covB (sunLo t)) (covE (sunLo t) (sunHi t))
def ptL (a b c d : Int) : Int := pLo a b c d 1000000000
def ptH (a b c d : Int) : Int := pHi a b c d 1000000000
def pvLo (t : Int) : Int := ptL (pzLo t) (pzHi t) (psA t) (psB t) + ptL (pxLo t) (pxHi t) (pcA t) (pcB t)
def pvHi (t : Int) : Int := ptH (pzLo t) (pzHi t) (psA t) (psB t) + ptH (pxLo t) (pxHi t) (pcA t) (pcB t)
def p1Lo (t : Int) : Int := ptL (pzLo t) (pzHi t) (pcA t) (pcB t) - ptH (pxLo t) (pxHi t) (psA t) (psB t)
def p1Hi (t : Int) : Int := ptH (pzLo t) (pzHi t) (pcA t) (pcB t) - ptL (pxLo t) (pxHi t) (psA t) (psB t)
def p2Lo (t : Int) : Int := ptL (pvLo t) (pvHi t) 917482416 917482417 - ptH (pyLo t) (pyHi t) 397776337 397776338
def p2Hi (t : Int) : Int := ptH (pvLo t) (pvHi t) 917482416 917482417 - ptL (pyLo t) (pyHi t) 397776337 397776338
def p3Lo (t : Int) : Int := ptL (pvLo t) (pvHi t) 397776337 397776338 + ptL (pyLo t) (pyHi t) 917482416 917482417
def p3Hi (t : Int) : Int := ptH (pvLo t) (pvHi t) 397776337 397776338 + ptH (pyLo t) (pyHi t) 917482416 917482417
/-- Where the offsets are out of reach; where the error is open. -/
def pFar (t : Int) : Prop := 2000000000 < pxLo t ∨ pxHi t < -2000000000 ∨ 2000000000 < pyLo t ∨ pyHi t < -2000000000
instance (t : Int) : Decidable (pFar t) := by unfold pFar; infer_instance
def pArcOpen (t : Int) : Prop := (p2Lo t ≤ 0 ∧ 0 ≤ p2Hi t ∧ p1Lo t ≤ 0 ∧ 0 ≤ p1Hi t) ∨ 400000000 < arcHi (p2Lo t) (p2Hi t) (p1Lo t) (p1Hi t) - arcLo (p2Lo t) (p2Hi t) (p1Lo t) (p1Hi t)
instance (t : Int) : Decidable (pArcOpen t) := by unfold pArcOpen; infer_instance
/-- The error of path.Center at an instant in reach. -/
def pErr (t : Int) : Int := if pFar t then 6 else if 1000000000 < psLo t then 6 else if 1000000000 < psHi t then 11 else if pArcOpen t then 11 else 0
end
section
theorem path_lo : (phR 24719 0).lo = 63070053545382 := by decide +kernel
theorem path_fix : pErr 63070053545382 = 0 ∧ pErr (63070053545382 + 600000) = 0 ∧ pErr (63070053545382 + 1200000) = 0 ∧ pErr (63070053545382 + 1800000) = 0 := by decide +kernel
theorem path_none : ePar 0 ≤ eLeast (eL0 24720 0) (eH0 24720 0) := by decide +kernel
end
section
theorem ratHi_sq (a : Int) : ratHi a a 1000000000 = qUp (a * a) 1000000000 := by
  have e : absI a * absI a = a * a := by
    unfold absI
    split
    · grind
    · rfl
  rw [ratHi_pos (by unfold negB; simp), e]
theorem sq_of_up {a : Int} (h : qUp (a * a) 1000000000 ≤ 1000000000) : a * a ≤ 1000000000000000000 := by
  unfold qUp LIM at h
  generalize a * a = P at *
  split at h
  · omega
  · split at h <;> omega
/-- A square's upper end holds the squares of both ends. -/
theorem sq_ends {a b : Int} (h : sqHi a b ≤ 1000000000) : a * a ≤ 1000000000000000000 ∧ b * b ≤ 1000000000000000000 := by
  unfold sqHi pHi at h
  have h1 : ratHi a a 1000000000 ≤ 1000000000 := by omega
  have h2 : ratHi b b 1000000000 ≤ 1000000000 := by omega
  rw [ratHi_sq] at h1 h2
  exact ⟨sq_of_up h1, sq_of_up h2⟩
theorem sq_root {a : Int} (h : a * a ≤ 1000000000000000000) : -1000000000 ≤ a ∧ a ≤ 1000000000 := by
  constructor
  · by_cases q : -1000000000 ≤ a
    · exact q
    · exfalso
      have := Int.mul_le_mul (show 1000000001 ≤ -a by omega) (show 1000000001 ≤ -a by omega) (by decide) (by omega)
      have e : -a * -a = a * a := by grind
      omega
  · by_cases q : a ≤ 1000000000
    · exact q
    · exfalso
      have := Int.mul_le_mul (show 1000000001 ≤ a by omega) (show 1000000001 ≤ a by omega) (by decide) (by omega)
      omega
theorem sqHi_nn (a b : Int) : 0 ≤ sqHi a b := by
  unfold sqHi pHi
  have h := (qUp_bd (P := a * a) (d := 1000000000) (by
    rcases Int.le_total 0 a with h | h
    · exact Int.mul_nonneg h h
    · have := Int.mul_nonneg (show 0 ≤ -a by omega) (show 0 ≤ -a by omega)
      have e : -a * -a = a * a := by grind
      omega) (by decide)).1
  rw [ratHi_sq]
  omega
theorem ratLo_same {a b : Int} (h : (0 < a ∧ 0 < b) ∨ (a < 0 ∧ b < 0)) : 0 ≤ ratLo a b 1000000000 := by
  rw [ratLo_pos (by unfold negB; rcases h with ⟨h1, h2⟩ | ⟨h1, h2⟩ <;> simp <;> omega)]
  exact (qDn_bd (Int.mul_nonneg (absI_nn a) (absI_nn b)) (by decide)).1
theorem sqLo_nn {a b : Int} (h : a ≤ b) : 0 ≤ sqLo a b := by
  unfold sqLo
  split
  · omega
  · unfold pLo
    have h1 := ratLo_same (a := a) (b := a) (by omega)
    have h2 := ratLo_same (a := a) (b := b) (by omega)
    have h3 := ratLo_same (a := b) (b := a) (by omega)
    have h4 := ratLo_same (a := b) (b := b) (by omega)
    omega
theorem el_le (t : Int) : elLo t ≤ elHi t ∧ 0 ≤ elLo t ∧ elLo t < 1000000000 ∧ elHi t - elLo t ≤ 44006 := by
  obtain ⟨-, -, -, a, -, -, b⟩ := moon_facts t
  obtain ⟨-, -, -, c, -, -, d⟩ := sun_facts t
  have e : elHi t = elLo t + (moonHi t - sunLo t) - (moonLo t - sunHi t) := rfl
  have f : elLo t = (moonLo t - sunHi t) % 1000000000 := rfl
  omega
theorem north_le (t : Int) : northLo t ≤ northHi t := by
  obtain ⟨a, b, -⟩ := north_facts t
  omega
theorem px_le (t : Int) : pxLo t ≤ pxHi t ∧ pyLo t ≤ pyHi t ∧ -400000000000 ≤ pxLo t ∧ pxHi t ≤ 400000000000 ∧ pxHi t - pxLo t ≤ 16590262 := by
  have a := el_le t
  have b := north_le t
  unfold pxLo pxHi pyLo pyHi pxB
  split <;> omega
/-- Where the squares' sum is at most one, the offsets are too. -/
theorem ps_sp {t : Int} (h : psHi t ≤ 1000000000) : Sp1 (pxLo t) (pxHi t) ∧ Sp1 (pyLo t) (pyHi t) := by
  have n1 := sqHi_nn (pxLo t) (pxHi t)
  have n2 := sqHi_nn (pyLo t) (pyHi t)
  obtain ⟨o1, o2, -⟩ := px_le t
  unfold psHi at h
  obtain ⟨a, b⟩ := sq_ends (a := pxLo t) (b := pxHi t) (by omega)
  obtain ⟨c, d⟩ := sq_ends (a := pyLo t) (b := pyHi t) (by omega)
  exact ⟨⟨o1, (sq_root a).1, (sq_root b).2⟩, ⟨o2, (sq_root c).1, (sq_root d).2⟩⟩
theorem ps_nn (t : Int) : 0 ≤ psLo t := by
  obtain ⟨o1, o2, -⟩ := px_le t
  have a := sqLo_nn o1
  have b := sqLo_nn o2
  unfold psLo
  omega
end
section
theorem rat_bd {a b C : Int} (h : absI a * absI b ≤ C * 1000000000) : -C ≤ ratLo a b 1000000000 ∧ ratLo a b 1000000000 ≤ C ∧ -C ≤ ratHi a b 1000000000 ∧ ratHi a b 1000000000 ≤ C ∧ ratLo a b 1000000000 ≤ ratHi a b 1000000000 := by
  have hn := Int.mul_nonneg (absI_nn a) (absI_nn b)
  unfold ratLo ratHi qUp qDn LIM
  generalize absI a * absI b = P at *
  split <;> (repeat' split) <;> omega
theorem abs_mul_bd {a b A B C : Int} (a0 : -A ≤ a) (a1 : a ≤ A) (b0 : -B ≤ b) (b1 : b ≤ B) (h : A * B ≤ C * 1000000000) : absI a * absI b ≤ C * 1000000000 := by
  have h1 := absI_bd a0 a1
  have h2 := absI_bd b0 b1
  have := Int.mul_le_mul h1 h2 (absI_nn b) (by omega)
  omega
/-- A product of two intervals within A and B lies within C. -/
theorem pt_bd {al ah bl bh A B C : Int} (a0 : -A ≤ al) (a1 : al ≤ A) (a2 : -A ≤ ah) (a3 : ah ≤ A) (b0 : -B ≤ bl) (b1 : bl ≤ B) (b2 : -B ≤ bh) (b3 : bh ≤ B) (h : A * B ≤ C * 1000000000) :
    -C ≤ ptL al ah bl bh ∧ ptL al ah bl bh ≤ ptH al ah bl bh ∧ ptH al ah bl bh ≤ C := by
  have r1 := rat_bd (abs_mul_bd a0 a1 b0 b1 h)
  have r2 := rat_bd (abs_mul_bd a0 a1 b2 b3 h)
  have r3 := rat_bd (abs_mul_bd a2 a3 b0 b1 h)
  have r4 := rat_bd (abs_mul_bd a2 a3 b2 b3 h)
  unfold ptL ptH pLo pHi
  omega
theorem isq_mono {m n : Int} (h0 : 0 ≤ m) (h : m ≤ n) (h1 : n ≤ 1000000000000000000) : isq m ≤ isq n := by
  obtain ⟨a, b, -⟩ := isq_ok h0 (by omega)
  obtain ⟨c, -, d⟩ := isq_ok (n := n) (by omega) h1
  exact root_only a (by omega) c d
/-- The part towards the sun. -/
theorem pz_sp {t : Int} (h : psHi t ≤ 1000000000) (hs : psLo t ≤ psHi t) : 0 ≤ pzLo t ∧ pzLo t ≤ pzHi t ∧ pzHi t ≤ 1000000000 := by
  have n := ps_nn t
  unfold pzLo pzHi isqU
  have b0 : 0 ≤ (1000000000 - psHi t) * 1000000000 := by omega
  have b1 : (1000000000 - psHi t) * 1000000000 ≤ (1000000000 - psLo t) * 1000000000 := by omega
  have b2 : (1000000000 - psLo t) * 1000000000 ≤ 1000000000000000000 := by omega
  have m := isq_mono b0 b1 b2
  obtain ⟨p, -, -⟩ := isq_ok b0 (by omega)
  obtain ⟨q, q1, -⟩ := isq_ok (n := (1000000000 - psLo t) * 1000000000) (by omega) b2
  generalize isq ((1000000000 - psLo t) * 1000000000) = r at *
  have r9 := sq_root (a := r) (by omega)
  refine ⟨p, by split <;> omega, ?_⟩
  split
  · rename_i hlt
    by_cases e : r = 1000000000
    · rw [e] at hlt; omega
    · omega
  · omega
end
section
theorem psq_le {a b : Int} (h : a ≤ b) (h0 : -20000000000000 ≤ a) (h1 : b ≤ 20000000000000) : sqLo a b ≤ sqHi a b ∧ sqHi a b ≤ 400000000000000000 := by
  have p := pt_bd (al := a) (ah := b) (bl := a) (bh := b) (A := 20000000000000) (B := 20000000000000) (C := 400000000000000000) (by omega) (by omega) (by omega) (by omega) (by omega) (by omega) (by omega) (by omega) (by decide)
  have n := sqHi_nn a b
  have e1 : ptL a b a b = pLo a b a b 1000000000 := rfl
  have e2 : ptH a b a b = sqHi a b := rfl
  rw [e1, e2] at p
  unfold sqLo
  split <;> omega
theorem north_big (t : Int) : -20000000000000 ≤ pyLo t ∧ pyHi t ≤ 20000000000000 := by
  obtain ⟨a, b, c, d, e⟩ := north_facts t
  unfold pyLo pyHi
  generalize northV t = v at *
  omega
theorem ps_le (t : Int) : psLo t ≤ psHi t ∧ psHi t ≤ 800000000000000000 := by
  obtain ⟨o1, o2, o3, o4, -⟩ := px_le t
  obtain ⟨n1, n2⟩ := north_big t
  have a := psq_le o1 (by omega) (by omega)
  have b := psq_le o2 n1 n2
  unfold psLo psHi
  omega
structure PB (l h m : Int) : Prop where
  o : l ≤ h
  b0 : -m ≤ l
  b1 : h ≤ m
theorem pc_all {t : Int} (h : psHi t ≤ 1000000000) : PB (pvLo t) (pvHi t) 2000000000 ∧ PB (p1Lo t) (p1Hi t) 2000000000 ∧ PB (p2Lo t) (p2Hi t) 3000000000 ∧ PB (p3Lo t) (p3Hi t) 3000000000 := by
  obtain ⟨z0, z1, z2⟩ := pz_sp h (ps_le t).1
  obtain ⟨⟨x0, x1, x2⟩, ⟨y0, y1, y2⟩⟩ := ps_sp h
  obtain ⟨-, -, -, -, -, -, so⟩ := sun_facts t
  obtain ⟨s0, s1, s2⟩ : Sp1 (psA t) (psB t) := sov_sp _ _ so
  obtain ⟨c0, c1, c2⟩ : Sp1 (pcA t) (pcB t) := cov_sp so
  have zs := pt_bd (al := pzLo t) (ah := pzHi t) (bl := psA t) (bh := psB t) (A := 1000000000) (B := 1000000000) (C := 1000000000) (by omega) (by omega) (by omega) (by omega) (by omega) (by omega) (by omega) (by omega) (by decide)
  have zc := pt_bd (al := pzLo t) (ah := pzHi t) (bl := pcA t) (bh := pcB t) (A := 1000000000) (B := 1000000000) (C := 1000000000) (by omega) (by omega) (by omega) (by omega) (by omega) (by omega) (by omega) (by omega) (by decide)
  have xs := pt_bd (al := pxLo t) (ah := pxHi t) (bl := psA t) (bh := psB t) (A := 1000000000) (B := 1000000000) (C := 1000000000) (by omega) (by omega) (by omega) (by omega) (by omega) (by omega) (by omega) (by omega) (by decide)
  have xc := pt_bd (al := pxLo t) (ah := pxHi t) (bl := pcA t) (bh := pcB t) (A := 1000000000) (B := 1000000000) (C := 1000000000) (by omega) (by omega) (by omega) (by omega) (by omega) (by omega) (by omega) (by omega) (by decide)
  have v : PB (pvLo t) (pvHi t) 2000000000 := by
    unfold pvLo pvHi
    constructor <;> omega
  have q1 : PB (p1Lo t) (p1Hi t) 2000000000 := by
    unfold p1Lo p1Hi
    constructor <;> omega
  obtain ⟨v0, v1, v2⟩ := v
  have vc := pt_bd (al := pvLo t) (ah := pvHi t) (bl := 917482416) (bh := 917482417) (A := 2000000000) (B := 1000000000) (C := 2000000000) (by omega) (by omega) (by omega) (by omega) (by omega) (by omega) (by omega) (by omega) (by decide)
  have vs := pt_bd (al := pvLo t) (ah := pvHi t) (bl := 397776337) (bh := 397776338) (A := 2000000000) (B := 1000000000) (C := 2000000000) (by omega) (by omega) (by omega) (by omega) (by omega) (by omega) (by omega) (by omega) (by decide)
  have yc := pt_bd (al := pyLo t) (ah := pyHi t) (bl := 917482416) (bh := 917482417) (A := 1000000000) (B := 1000000000) (C := 1000000000) (by omega) (by omega) (by omega) (by omega) (by omega) (by omega) (by omega) (by omega) (by decide)
  have ys := pt_bd (al := pyLo t) (ah := pyHi t) (bl := 397776337) (bh := 397776338) (A := 1000000000) (B := 1000000000) (C := 1000000000) (by omega) (by omega) (by omega) (by omega) (by omega) (by omega) (by omega) (by omega) (by decide)
  refine ⟨⟨v0, v1, v2⟩, q1, ?_, ?_⟩
  · unfold p2Lo p2Hi
    constructor <;> omega
  · unfold p3Lo p3Hi
    constructor <;> omega
end
end Go.Proofs.YtcgnhnmigmdalaaGreatDoor
