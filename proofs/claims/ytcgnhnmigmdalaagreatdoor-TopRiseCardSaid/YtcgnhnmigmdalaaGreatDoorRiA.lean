/- Sines of sums of whole angles: plain. A pair that turns: between two places at one height, where it goes up at the first and down at the second, it is higher. Plain. Small angles: a pair that turns a little. Plain. The sun's height by whole angles. Plain. How a height turns with the two angles; what stands at the limit. Plain. The sun is up from an hour behind its rising till an hour ahead of its setting. Plain. The sun is up from an hour behind its rising till an hour ahead of its setting: joined. Plain. -/
import Derived.Test.YtcgnhnmigmdalaaGreatDoorLkA
import Derived.Test.YtcgnhnmigmdalaaGreatDoorEqB
set_option linter.unusedVariables false
set_option linter.unusedSimpArgs false
namespace Go.Proofs.YtcgnhnmigmdalaaGreatDoor
section
open Ieee
theorem mul_gap {x y X Y e : Rat} (hx : rabs (x - X) ≤ e) (hy : rabs (y - Y) ≤ e) (bx : rabs x ≤ 2) (bY : rabs Y ≤ 2) : rabs (x * y - X * Y) ≤ 4 * e := by
  have h := rabs_add (x * (y - Y)) ((x - X) * Y)
  rw [rabs_mul, rabs_mul] at h
  have h1 := Rat.mul_le_mul_of_nonneg_right bx (rabs_nonneg (y - Y))
  have h2 := Rat.mul_le_mul_of_nonneg_left bY (rabs_nonneg (x - X))
  rw [show x * y - X * Y = x * (y - Y) + (x - X) * Y by grind]
  grind
theorem emod_split (n : Int) : ((n % 1000000000 : Int) : Rat) = (n : Rat) - ((n / 1000000000 : Int) : Rat) * 1000000000 := by
  have := turn_split n
  grind
theorem siU_minus (m n : Int) : rabs (siU (m - n) - (siU m * coU n - coU m * siU n)) ≤ 5 / 100000000000 ∧ rabs (coU (m - n) - (coU m * coU n + siU m * siU n)) ≤ 5 / 100000000000 := by
  obtain ⟨a0, a1⟩ := emod_bd m
  obtain ⟨z0, z1⟩ := emod_bd n
  obtain ⟨h0, h1⟩ := emod_bd (m - n)
  have em := emod_split m
  have en := emod_split n
  have eh := emod_split (m - n)
  have r : ∀ k : Int, 0 ≤ k → k < 1000000000 → (0 : Rat) ≤ (k : Rat) ∧ (k : Rat) ≤ 1000000000 := fun k p q => by
    have p1 := icast p
    have q1 := icast (show k ≤ 1000000000 by omega)
    push_cast at p1 q1
    exact ⟨p1, q1⟩
  obtain ⟨a0', a1'⟩ := r _ a0 a1
  obtain ⟨z0', z1'⟩ := r _ z0 z1
  obtain ⟨h0', h1'⟩ := r _ h0 h1
  obtain ⟨s1, s2⟩ := sc_minus (j := m / 1000000000 - n / 1000000000 - (m - n) / 1000000000) a0' a1' z0' z1' h0' h1' (by rw [em, en, eh]; push_cast; grind)
  have bm := siU_b m
  have bn := siU_b n
  have bh := siU_b (m - n)
  have cm := coU_b m
  have cn := coU_b n
  have ch := coU_b (m - n)
  obtain ⟨-, ls, -⟩ := siU_circ m
  obtain ⟨-, ln, lc⟩ := siU_circ n
  obtain ⟨-, -, lcm⟩ := siU_circ m
  obtain ⟨o1, o2⟩ := sc_one a0' a1'
  obtain ⟨o3, o4⟩ := sc_one z0' z1'
  have z : rabs (siU m - S (tq * ((m % 1000000000 : Int) : Rat))) ≤ 3 / 10000000000000 := by rw [bm]; exact rabs_le.2 ⟨by grind, by grind⟩
  have zn : rabs (siU n - S (tq * ((n % 1000000000 : Int) : Rat))) ≤ 3 / 10000000000000 := by rw [bn]; exact rabs_le.2 ⟨by grind, by grind⟩
  have p1 := mul_gap z cn (by grind) (by grind)
  have p2 := mul_gap cm zn (by grind) (by grind)
  have p3 := mul_gap cm cn (by grind) (by grind)
  have p4 := mul_gap z zn (by grind) (by grind)
  clear z zn em en eh
  rw [bh]
  generalize S (tq * ((m % 1000000000 : Int) : Rat)) = sa at *
  generalize C (tq * ((m % 1000000000 : Int) : Rat)) = ca at *
  generalize S (tq * ((n % 1000000000 : Int) : Rat)) = sz at *
  generalize C (tq * ((n % 1000000000 : Int) : Rat)) = cz at *
  generalize S (tq * (((m - n) % 1000000000 : Int) : Rat)) = sh at *
  generalize C (tq * (((m - n) % 1000000000 : Int) : Rat)) = c9 at *
  have s1 := rabs_le.1 s1
  have s2 := rabs_le.1 s2
  have p1 := rabs_le.1 p1
  have p2 := rabs_le.1 p2
  have p3 := rabs_le.1 p3
  have p4 := rabs_le.1 p4
  have ch := rabs_le.1 ch
  exact ⟨rabs_le.2 ⟨by grind, by grind⟩, rabs_le.2 ⟨by grind, by grind⟩⟩
theorem siU_zero : rabs (siU 0) ≤ 1 / 1000000000000 ∧ rabs (coU 0 - 1) ≤ 1 / 1000000000000 := by decide +kernel
theorem siU_neg (n : Int) : rabs (siU (-n) + siU n) ≤ 6 / 100000000000 ∧ rabs (coU (-n) - coU n) ≤ 6 / 100000000000 := by
  obtain ⟨h1, h2⟩ := siU_minus 0 n
  rw [show (0 : Int) - n = -n by omega] at h1 h2
  obtain ⟨z1, z2⟩ := siU_zero
  obtain ⟨-, ln, lc⟩ := siU_circ n
  have p1 := mul_gap (x := siU 0) (X := 0) (y := coU n) (Y := coU n) (e := 1 / 1000000000000) (by rw [show siU 0 - 0 = siU 0 by grind]; exact z1) (by rw [show coU n - coU n = 0 by grind]; decide +kernel) (by grind) (by grind)
  have p2 := mul_gap (x := coU 0) (X := 1) (y := siU n) (Y := siU n) (e := 1 / 1000000000000) z2 (by rw [show siU n - siU n = 0 by grind]; decide +kernel) (by have := rabs_le.1 z2; exact rabs_le.2 ⟨by grind, by grind⟩) (by grind)
  have p3 := mul_gap (x := coU 0) (X := 1) (y := coU n) (Y := coU n) (e := 1 / 1000000000000) z2 (by rw [show coU n - coU n = 0 by grind]; decide +kernel) (by have := rabs_le.1 z2; exact rabs_le.2 ⟨by grind, by grind⟩) (by grind)
  have p4 := mul_gap (x := siU 0) (X := 0) (y := siU n) (Y := siU n) (e := 1 / 1000000000000) (by rw [show siU 0 - 0 = siU 0 by grind]; exact z1) (by rw [show siU n - siU n = 0 by grind]; decide +kernel) (by grind) (by grind)
  have h1 := rabs_le.1 h1
  have h2 := rabs_le.1 h2
  have p1 := rabs_le.1 p1
  have p2 := rabs_le.1 p2
  have p3 := rabs_le.1 p3
  have p4 := rabs_le.1 p4
  exact ⟨rabs_le.2 ⟨by grind, by grind⟩, rabs_le.2 ⟨by grind, by grind⟩⟩
theorem mul_tiny {x e : Rat} (hx : rabs x ≤ 1 + 2 / 100000000000) (he : rabs e ≤ 6 / 100000000000) : rabs (x * e) ≤ 7 / 100000000000 := by
  rw [rabs_mul]
  have h1 := Rat.mul_le_mul_of_nonneg_right hx (rabs_nonneg e)
  grind
theorem siU_plus (m n : Int) : rabs (siU (m + n) - (siU m * coU n + coU m * siU n)) ≤ 2 / 10000000000 ∧ rabs (coU (m + n) - (coU m * coU n - siU m * siU n)) ≤ 2 / 10000000000 := by
  obtain ⟨h1, h2⟩ := siU_minus m (-n)
  rw [show m - -n = m + n by omega] at h1 h2
  obtain ⟨q1, q2⟩ := siU_neg n
  obtain ⟨-, ls, lc⟩ := siU_circ m
  have ls : rabs (siU m) ≤ 1 + 2 / 100000000000 := by grind
  have q1' : rabs (siU (-n) - -siU n) ≤ 6 / 100000000000 := by rw [show siU (-n) - -siU n = siU (-n) + siU n by grind]; exact q1
  have p1 := rabs_le.1 (mul_tiny ls q2)
  have p2 := rabs_le.1 (mul_tiny lc q1')
  have p3 := rabs_le.1 (mul_tiny lc q2)
  have p4 := rabs_le.1 (mul_tiny ls q1')
  have h1 := rabs_le.1 h1
  have h2 := rabs_le.1 h2
  exact ⟨rabs_le.2 ⟨by grind, by grind⟩, rabs_le.2 ⟨by grind, by grind⟩⟩
/-- Between two places that do not enclose the lowest point a sine is not below both ends. -/
theorem siU_least {lo hi n : Int} {c : Rat} (h1 : lo ≤ n) (h2 : n ≤ hi) (hg : hi - lo < (750000000 - lo) % 1000000000) (c1 : c ≤ siU lo) (c2 : c ≤ siU hi) : c - 1 / 100000000000 ≤ siU n := by
  rcases siU_low h1 h2 hg with h | h <;> grind
end
section
open Ieee
def rP (P Q : Rat) (n : Int) : Rat := P * coU n + Q * siU n
def rQ (P Q : Rat) (n : Int) : Rat := Q * coU n - P * siU n
theorem mul_small {x e A E : Rat} (hx : rabs x ≤ A) (he : rabs e ≤ E) : rabs (x * e) ≤ A * E := by
  rw [rabs_mul]
  have h1 := Rat.mul_le_mul_of_nonneg_right hx (rabs_nonneg e)
  have h0 : 0 ≤ A := by have := rabs_nonneg x; grind
  have h2 := Rat.mul_le_mul_of_nonneg_left he h0
  grind
theorem rP_half {P Q : Rat} (hP : rabs P ≤ 11/10) (hQ : rabs Q ≤ 11/10) (x : Int) : rabs (rP P Q (x + x) - P - 2 * siU x * rQ P Q x) ≤ 1 / 100000000 := by
  obtain ⟨h1, h2⟩ := siU_plus x x
  obtain ⟨h3, -, -⟩ := siU_circ x
  unfold rP rQ
  have m1 := rabs_le.1 (mul_small hP h2)
  have m2 := rabs_le.1 (mul_small hQ h1)
  have m3 := rabs_le.1 (mul_small hP h3)
  refine rabs_le.2 ⟨?_, ?_⟩ <;> grind
theorem rQ_mid {P Q : Rat} (hQ : rabs Q ≤ 11/10) (h x : Int) : rabs (siU h * rQ P Q x - (Q * siU (h - x) + rQ P Q h * siU x)) ≤ 1 / 100000000 := by
  obtain ⟨h1, -⟩ := siU_minus h x
  unfold rQ
  have m1 := rabs_le.1 (mul_small hQ h1)
  refine rabs_le.2 ⟨?_, ?_⟩ <;> grind
theorem rP_dot (P Q : Rat) (n : Int) : P * rP P Q n + Q * rQ P Q n = (P * P + Q * Q) * coU n := by unfold rP rQ; grind
theorem rP_sq (P Q : Rat) (n : Int) : rP P Q n * rP P Q n + rQ P Q n * rQ P Q n = (P * P + Q * Q) * (siU n * siU n + coU n * coU n) := by unfold rP rQ; grind
theorem siU_fix : siU 20880000 ≥ 1308 / 10000 ∧ siU 354120000 ≥ 7 / 10 ∧ siU 62500000 ≥ 3826 / 10000 ∧ siU 125000000 ≥ 7071 / 10000 ∧ siU 375000000 ≥ 7071 / 10000 := by decide +kernel
theorem siU_a {x : Int} (h1 : 20880000 ≤ x) (h2 : x ≤ 354120000) : 1307 / 10000 ≤ siU x := by
  obtain ⟨a, b, -, -, -⟩ := siU_fix
  have := siU_least (lo := 20880000) (hi := 354120000) (c := 1308 / 10000) h1 h2 (by decide) a (by grind)
  grind
theorem siU_b2 {x : Int} (h1 : 62500000 ≤ x) (h2 : x ≤ 354120000) : 3825 / 10000 ≤ siU x := by
  obtain ⟨-, b, a, -, -⟩ := siU_fix
  have := siU_least (lo := 62500000) (hi := 354120000) (c := 3826 / 10000) h1 h2 (by decide) a (by grind)
  grind
theorem siU_c {x : Int} (h1 : 125000000 ≤ x) (h2 : x ≤ 375000000) : 707 / 1000 ≤ siU x := by
  obtain ⟨-, -, -, a, b⟩ := siU_fix
  have := siU_least (lo := 125000000) (hi := 375000000) (c := 7071 / 10000) h1 h2 (by decide) a b
  grind
theorem sq_leR {x A : Rat} (h : rabs x ≤ A) : x * x ≤ A * A := by
  have := rabs_le.1 (mul_small h h)
  exact this.1
theorem lift_prod {sx sy Q0 Qh : Rat} (hQ : 7171 / 10000 ≤ Q0) (hh : -(324 / 10000) ≤ Qh) (x0 : 1307 / 10000 ≤ sx) (x1 : sx ≤ 10001 / 10000) (y0 : 1307 / 10000 ≤ sy) (y1 : sy ≤ 10001 / 10000) (hc : 3825 / 10000 ≤ sx ∨ 3825 / 10000 ≤ sy) : 310 / 10000 ≤ sx * (Q0 * sy + Qh * sx) := by
  have a1 : 0 ≤ sx := by grind
  have a2 : 0 ≤ sy := by grind
  have b1 := Rat.mul_le_mul_of_nonneg_right hQ a2
  have b2 := Rat.mul_le_mul_of_nonneg_right hh a1
  have b3 : 7171 / 10000 * sy - 324 / 10000 * sx ≤ Q0 * sy + Qh * sx := by grind
  have b4 := Rat.mul_le_mul_of_nonneg_left b3 a1
  rcases hc with h | h
  · have c1 := Rat.mul_le_mul_of_nonneg_left y0 a1
    have c2 := Rat.mul_nonneg (show 0 ≤ sx - 3825 / 10000 by grind) (show 0 ≤ 10001 / 10000 - sx by grind)
    grind
  · have c1 := Rat.mul_le_mul_of_nonneg_left h a1
    have c2 := Rat.mul_nonneg (show 0 ≤ sx - 1307 / 10000 by grind) (show 0 ≤ 10001 / 10000 - sx by grind)
    grind
theorem rise_mid {P Q : Rat} {h x : Int} (hP : rabs P ≤ 5723 / 10000) (hQ0 : 7171 / 10000 ≤ Q) (hQ1 : Q ≤ 11/10) (r1 : 84177 / 100000 ≤ P * P + Q * Q) (r2 : P * P + Q * Q ≤ 10001 / 10000)
    (e1 : P - 457 / 10000 ≤ rP P Q (h + h)) (e2 : rabs (rP P Q (h + h)) ≤ 6180 / 10000) (hq : rQ P Q (h + h) < 0) (h0 : 0 ≤ h) (h1 : h ≤ 502000000) (x0 : 20880000 ≤ x) (x1 : 20880000 ≤ h - x) :
    P + 618 / 10000 ≤ rP P Q (x + x) := by
  have hQ : rabs Q ≤ 11/10 := rabs_le.2 ⟨hQ1, by grind⟩
  have hP' : rabs P ≤ 11/10 := by grind
  -- how far down it goes at the second place
  have s1 := rP_sq P Q (h + h)
  obtain ⟨k1, -, -⟩ := siU_circ (h + h)
  have k1 := rabs_le.1 k1
  have s2 := sq_leR e2
  have q1 : rQ P Q (h + h) ≤ -(678 / 1000) := by
    refine Rat.not_lt.1 fun hn => ?_
    have t1 : rabs (rQ P Q (h + h)) ≤ 678 / 1000 := rabs_le.2 ⟨by grind, by grind⟩
    have t2 := sq_leR t1
    have t3 := Rat.mul_le_mul_of_nonneg_left (show 1 - 1 / 1000000 ≤ siU (h + h) * siU (h + h) + coU (h + h) * coU (h + h) by grind) (show 0 ≤ P * P + Q * Q by grind)
    grind
  -- the angle between
  have d1 := rP_dot P Q (h + h)
  have d2 := rabs_le.1 (mul_small hP e2)
  have d3 := Rat.mul_le_mul_of_nonneg_left q1 (show 0 ≤ Q by grind)
  have c1 : coU (h + h) ≤ -(13 / 100) := by
    refine Rat.not_lt.1 fun hn => ?_
    have t1 := Rat.mul_le_mul_of_nonneg_left (Rat.le_of_lt hn) (show 0 ≤ P * P + Q * Q by grind)
    grind
  have hlo : 125000000 ≤ h := by
    refine Int.not_lt.1 fun hn => ?_
    have := coU_up (n := h + h) (by omega) (by omega)
    grind
  have hhi : h ≤ 375000000 := by
    refine Int.not_lt.1 fun hn => ?_
    have t := coU_up (n := h + h - 1000000000) (by omega) (by omega)
    have e : coU (h + h - 1000000000) = coU (h + h) := by
      unfold coU
      exact siU_eq (k := -1) (by omega)
    rw [e] at t
    grind
  have sh := siU_c hlo hhi
  obtain ⟨-, lh, -⟩ := siU_circ h
  obtain ⟨-, lx, -⟩ := siU_circ x
  obtain ⟨-, ly, -⟩ := siU_circ (h - x)
  have lh := rabs_le.1 lh
  have lx := rabs_le.1 lx
  have ly := rabs_le.1 ly
  have f1 := rabs_le.1 (rP_half hP' hQ h)
  have hh : -(324 / 10000) ≤ rQ P Q h := by
    refine Rat.not_lt.1 fun hn => ?_
    have t := Rat.mul_le_mul_of_nonneg_right sh (show 0 ≤ -rQ P Q h by grind)
    grind
  have gx := siU_a (x := x) x0 (by omega)
  have gy := siU_a (x := h - x) x1 (by omega)
  have gc : 3825 / 10000 ≤ siU x ∨ 3825 / 10000 ≤ siU (h - x) := by
    by_cases q : 62500000 ≤ x
    · exact .inl (siU_b2 q (by omega))
    · exact .inr (siU_b2 (by omega) (by omega))
  have lp := lift_prod hQ0 hh gx (by grind) gy (by grind) gc
  have f2 := rabs_le.1 (rP_half hP' hQ x)
  have f3 := mul_small (A := 11/10) (show rabs (siU x) ≤ 11/10 from rabs_le.2 ⟨by grind, by grind⟩) (rQ_mid (P := P) hQ h x)
  have f3 := rabs_le.1 f3
  refine Rat.not_lt.1 fun hn => ?_
  have t1 : siU x * rQ P Q x ≤ 3091 / 100000 := by grind
  have t0 : 0 ≤ siU h := by grind
  have t2 : siU h * (siU x * rQ P Q x) ≤ 3092 / 100000 := by
    by_cases z : 0 ≤ siU x * rQ P Q x
    · have := Rat.mul_le_mul_of_nonneg_right lh.1 z
      grind
    · have := Rat.mul_nonneg t0 (show 0 ≤ -(siU x * rQ P Q x) by grind)
      grind
  grind
end
section
open Ieee
theorem sT_cut : sT = 0 :: sT.tail ∧ cT = 1 :: cT.tail ∧ pbd (padd sT.tail (pscale (-1) [1])) (95/10000) ≤ 1 / 50000 ∧ pbd cT.tail (95/10000) ≤ 48 / 10000 := by decide +kernel
theorem S_linR {x : Rat} (x0 : 0 ≤ x) (x1 : x ≤ 95/10000) : (1 - 1 / 50000) * x ≤ S x ∧ 1 - 48 / 10000 * x ≤ C x := by
  obtain ⟨e1, e2, b1, b2⟩ := sT_cut
  have hx : rabs x ≤ 95/10000 := rabs_le.2 ⟨x1, by grind⟩
  have h1 := (pv_near hx sT.tail [1] b1).2
  have h2 := (rabs_le.1 (pv_bd hx cT.tail)).2
  have p1 : pv [1] x = 1 := by rw [pv_cons]; show 1 + x * 0 = 1; grind
  rw [p1] at h1
  have s : S x = x * pv sT.tail x := by
    unfold S
    rw [e1, pv_cons]
    show 0 + x * pv sT.tail x = _
    grind
  have c : C x = 1 + x * pv cT.tail x := by
    unfold C
    rw [e2, pv_cons]
    rfl
  have m1 := Rat.mul_le_mul_of_nonneg_left (show 1 - 1 / 50000 ≤ pv sT.tail x by grind) x0
  have m2 := Rat.mul_le_mul_of_nonneg_left (show -(48 / 10000) ≤ pv cT.tail x by grind) x0
  rw [s, c]
  constructor <;> grind
theorem siU_small {g : Int} (h0 : 0 ≤ g) (h1 : g ≤ 1500000) : (1 - 1 / 50000) * (tq * g) ≤ siU g ∧ 1 - 48 / 10000 * (tq * g) - 1 / 1000000000000 ≤ coU g ∧ 0 ≤ tq * g ∧ tq * g ≤ 95/10000 := by
  obtain ⟨t1, t2, -⟩ := tq_num
  have g0 : (0 : Rat) ≤ (g : Rat) := by have := icast h0; push_cast at this; exact this
  have g1 : (g : Rat) ≤ 1500000 := by have := icast h1; push_cast at this; exact this
  have b := siU_b g
  have c := rabs_le.1 (coU_b g)
  rw [show g % 1000000000 = g by omega] at b c
  have y0 : 0 ≤ tq * (g : Rat) := Rat.mul_nonneg (by grind) g0
  have y1 : tq * (g : Rat) ≤ 95/10000 := by
    have m1 := Rat.mul_le_mul_of_nonneg_right t2 g0
    grind
  obtain ⟨s1, s2⟩ := S_linR y0 y1
  exact ⟨by rw [b]; exact s1, by grind, y0, y1⟩
/-- Where it goes down it was higher a little before. -/
theorem dir_down {P Q : Rat} {g : Int} (hP : rabs P ≤ 5723 / 10000) (hQ : Q ≤ -(7171 / 10000)) (hQ1 : -(11/10) ≤ Q) (h0 : 0 ≤ g) (h1 : g ≤ 1500000) : P + 714 / 1000 * (tq * g) - 2 / 10000000000 ≤ rP P Q (-g) := by
  obtain ⟨s, c, y0, y1⟩ := siU_small h0 h1
  obtain ⟨n1, n2⟩ := siU_neg g
  obtain ⟨-, -, l⟩ := siU_circ g
  have l := rabs_le.1 l
  unfold rP
  have m1 := rabs_le.1 (mul_small hP n2)
  have m2 := rabs_le.1 (mul_small (x := Q) (A := 11/10) (rabs_le.2 ⟨by grind, hQ1⟩) n1)
  have m3 := Rat.mul_le_mul_of_nonneg_right (show 7171 / 10000 ≤ -Q by grind) (show 0 ≤ siU g by have := Rat.mul_nonneg (show (0 : Rat) ≤ 1 - 1/50000 by decide +kernel) y0; grind)
  have m4 : rabs (1 - coU g) ≤ 48 / 10000 * (tq * g) + 3 / 100000000000 := rabs_le.2 ⟨by grind, by have := Rat.mul_nonneg (show (0 : Rat) ≤ 48/10000 by decide +kernel) y0; grind⟩
  have m5 := rabs_le.1 (mul_small hP m4)
  grind
theorem dir_up {P Q : Rat} {g : Int} (hP : rabs P ≤ 5723 / 10000) (hQ : 7171 / 10000 ≤ Q) (h0 : 0 ≤ g) (h1 : g ≤ 1500000) : P + 714 / 1000 * (tq * g) - 2 / 10000000000 ≤ rP P Q g := by
  obtain ⟨s, c, y0, y1⟩ := siU_small h0 h1
  obtain ⟨-, -, l⟩ := siU_circ g
  have l := rabs_le.1 l
  unfold rP
  have m3 := Rat.mul_le_mul_of_nonneg_right hQ (show 0 ≤ siU g by have := Rat.mul_nonneg (show (0 : Rat) ≤ 1 - 1/50000 by decide +kernel) y0; grind)
  have m4 : rabs (1 - coU g) ≤ 48 / 10000 * (tq * g) + 3 / 100000000000 := rabs_le.2 ⟨by grind, by have := Rat.mul_nonneg (show (0 : Rat) ≤ 48/10000 by decide +kernel) y0; grind⟩
  have m5 := rabs_le.1 (mul_small hP m4)
  grind
end
section
open Ieee
/-- The height of a sun at longitude N, seen at latitude lat under the sidereal angle G. -/
def hgt (lat N G : Int) : Rat := siU lat * (se9 * siU N) + coU lat * (coU G * coU N + siU G * (ce9 * siU N))
theorem eps_fine : 9174 / 10000 ≤ ce9 ∧ ce9 ≤ 9175 / 10000 ∧ 3977 / 10000 ≤ se9 ∧ se9 ≤ 39778 / 100000 ∧ rabs (se9 * se9 + ce9 * ce9 - 1) ≤ 1 / 1000000000 := by decide +kernel
theorem eps_low : 8417711 / 10000000 ≤ ce9 * ce9 := by decide +kernel
end
section
open Ieee
theorem nn_sq (x : Rat) : 0 ≤ x * x := by rw [← rabs_sq]; exact Rat.mul_nonneg (rabs_nonneg x) (rabs_nonneg x)
theorem lip1 {A B : Rat} (h : A * A + B * B ≤ 1 + 1 / 100000000) {n d : Int} (d0 : 0 ≤ d) (d1 : d ≤ 1500000) : rabs (rP A B (n + d) - rP A B n) ≤ 632 / 100000000000 * (d : Rat) + 5 / 10000000000 := by
  obtain ⟨p1, p2⟩ := siU_plus n d
  obtain ⟨k1, -, -⟩ := siU_circ n
  obtain ⟨s, c, y0, y1⟩ := siU_small d0 d1
  obtain ⟨-, -, lc⟩ := siU_circ d
  obtain ⟨t1, t2, -⟩ := tq_num
  have g0 : (0 : Rat) ≤ (d : Rat) := by have := icast d0; push_cast at this; exact this
  have ls := siU_lip (m := 0) (n := d) d0
  rw [show d - 0 = d by omega] at ls
  obtain ⟨z, -⟩ := siU_zero
  have sqA := nn_sq A
  have sqB := nn_sq B
  have bA : rabs A ≤ 1 + 1 / 10000000 := sq_rabs (by grind) (by grind)
  have bB : rabs B ≤ 1 + 1 / 10000000 := sq_rabs (by grind) (by grind)
  have e := rP_sq A B n
  have k1 := rabs_le.1 k1
  have m0 := Rat.mul_le_mul_of_nonneg_left (show siU n * siU n + coU n * coU n ≤ 1 + 1 / 10000000000 by grind) (show 0 ≤ A * A + B * B by grind)
  have sp := nn_sq (rP A B n)
  have sq := nn_sq (rQ A B n)
  have bP : rabs (rP A B n) ≤ 1 + 1 / 10000000 := sq_rabs (by grind) (by grind)
  have bQ : rabs (rQ A B n) ≤ 1 + 1 / 10000000 := sq_rabs (by grind) (by grind)
  have y2 := Rat.mul_le_mul_of_nonneg_right t2 g0
  have ls := rabs_le.1 ls
  have z := rabs_le.1 z
  have lc := rabs_le.1 lc
  have s0 : 0 ≤ siU d := by have := Rat.mul_nonneg (show (0 : Rat) ≤ 1 - 1/50000 by decide +kernel) y0; grind
  have q1 : rabs (siU d) ≤ 628320 / 100000000000000 * (d : Rat) + 2 / 100000000000 := rabs_le.2 ⟨by grind, by grind⟩
  have q2 : rabs (coU d - 1) ≤ 48 / 10000 * (628319 / 100000000000000 * (d : Rat)) + 3 / 100000000000 := rabs_le.2 ⟨by grind, by grind⟩
  have f1 := rabs_le.1 (mul_small bP q2)
  have f2 := rabs_le.1 (mul_small bQ q1)
  have f3 := rabs_le.1 (mul_small bA p2)
  have f4 := rabs_le.1 (mul_small bB p1)
  have id : rP A B (n + d) - rP A B n = rP A B n * (coU d - 1) + rQ A B n * siU d + A * (coU (n + d) - (coU n * coU d - siU n * siU d)) + B * (siU (n + d) - (siU n * coU d + coU n * siU d)) := by unfold rP rQ; grind
  rw [id]
  exact rabs_le.2 ⟨by grind, by grind⟩
theorem lip2 {A B : Rat} (h : A * A + B * B ≤ 1 + 1 / 100000000) {n m : Int} (d0 : n ≤ m) (d1 : m ≤ n + 3000000) : rabs (rP A B m - rP A B n) ≤ 632 / 100000000000 * ((m - n : Int) : Rat) + 1 / 1000000000 := by
  by_cases q : m - n ≤ 1500000
  · have := lip1 h (n := n) (d := m - n) (by omega) q
    rw [show n + (m - n) = m by omega] at this
    grind
  · have a := rabs_le.1 (lip1 h (n := n) (d := 1500000) (by decide) (by decide))
    have b := lip1 h (n := n + 1500000) (d := m - n - 1500000) (by omega) (by omega)
    rw [show n + 1500000 + (m - n - 1500000) = m by omega] at b
    have b := rabs_le.1 b
    push_cast at a b ⊢
    exact rabs_le.2 ⟨by grind, by grind⟩
/-- The height as a pair that the longitude turns. -/
theorem hgt_N (lat N G : Int) : hgt lat N G = rP (coU lat * coU G) (siU lat * se9 + coU lat * siU G * ce9) N := by unfold hgt rP; grind
/-- The height as a pair that the sidereal angle turns. -/
theorem hgt_G (lat N G : Int) : hgt lat N G = siU lat * (se9 * siU N) + coU lat * rP (coU N) (ce9 * siU N) G := by unfold hgt rP; grind
theorem norm_N (lat G : Int) : coU lat * coU G * (coU lat * coU G) + (siU lat * se9 + coU lat * siU G * ce9) * (siU lat * se9 + coU lat * siU G * ce9) ≤ 1 + 1 / 100000000 := by
  obtain ⟨k1, -, -⟩ := siU_circ lat
  obtain ⟨k2, -, -⟩ := siU_circ G
  obtain ⟨e1, e2, e3, e4, e5⟩ := eps_fine
  have k1 := rabs_le.1 k1
  have k2 := rabs_le.1 k2
  have e5 := rabs_le.1 e5
  have s1 := nn_sq (siU lat * ce9 - coU lat * siU G * se9)
  have s2 := nn_sq (coU lat)
  have s3 := nn_sq (siU lat)
  have s4 := nn_sq (coU lat * siU G)
  have m1 := Rat.mul_le_mul_of_nonneg_left (show coU G * coU G ≤ 1 + 3 / 100000000000 - siU G * siU G by grind) s2
  have m2 := Rat.mul_le_mul_of_nonneg_left (show se9 * se9 + ce9 * ce9 ≤ 1 + 1 / 1000000000 by grind) (show 0 ≤ siU lat * siU lat + coU lat * siU G * (coU lat * siU G) by grind)
  have m3 := Rat.mul_le_mul_of_nonneg_left (show siU G * siU G ≤ 1 + 3 / 100000000000 by have := nn_sq (coU G); grind) s2
  grind
theorem norm_G (N : Int) : coU N * coU N + ce9 * siU N * (ce9 * siU N) ≤ 1 + 1 / 100000000 ∧ 84177 / 100000 + 1 / 1000000000 ≤ coU N * coU N + ce9 * siU N * (ce9 * siU N) := by
  obtain ⟨k1, -, -⟩ := siU_circ N
  obtain ⟨e1, e2, e3, e4, e5⟩ := eps_fine
  have k1 := rabs_le.1 k1
  have e5 := rabs_le.1 e5
  have s1 := nn_sq (siU N)
  have s2 := nn_sq (coU N)
  have c1 : ce9 * ce9 ≤ 1 := by
    have := nn_sq se9
    have := Rat.mul_le_mul_of_nonneg_left e2 (show 0 ≤ ce9 by grind)
    grind
  have c2 : 8417711 / 10000000 ≤ ce9 * ce9 := eps_low
  have m1 := Rat.mul_le_mul_of_nonneg_right c1 s1
  have m2 := Rat.mul_le_mul_of_nonneg_right c2 s1
  constructor <;> grind
theorem N_lip {lat N M G : Int} (h : N ≤ M) (h' : M ≤ N + 3000000) : rabs (hgt lat M G - hgt lat N G) ≤ 632 / 100000000000 * ((M - N : Int) : Rat) + 1 / 1000000000 := by
  rw [hgt_N, hgt_N]
  exact lip2 (norm_N lat G) h h'
theorem N_lip1 {lat N M G : Int} (h : N ≤ M) (h' : M ≤ N + 1500000) : rabs (hgt lat M G - hgt lat N G) ≤ 632 / 100000000000 * ((M - N : Int) : Rat) + 5 / 10000000000 := by
  rw [hgt_N, hgt_N]
  have := lip1 (norm_N lat G) (n := N) (d := M - N) (by omega) (by omega)
  rw [show N + (M - N) = M by omega] at this
  exact this
theorem lat_num {lat : Int} (h1 : -150000000 < lat) (h2 : lat < 150000000) : 587785 / 1000000 ≤ coU lat ∧ rabs (siU lat) ≤ 80902 / 100000 := by
  have a : 5877852 / 10000000 ≤ siU 100000000 ∧ 5877852 / 10000000 ≤ siU 400000000 := by decide +kernel
  have b := siU_least (lo := 100000000) (hi := 400000000) (n := lat + 250000000) (by omega) (by omega) (by decide) a.1 a.2
  have c : 587785 / 1000000 ≤ coU lat := by unfold coU; grind
  obtain ⟨k, -, -⟩ := siU_circ lat
  have k := rabs_le.1 k
  have m := Rat.mul_le_mul_of_nonneg_left c (show 0 ≤ coU lat by grind)
  exact ⟨c, sq_rabs (by grind) (by grind)⟩
/-- What stands at the limit, up to two minutes. -/
theorem at_limit {lat N G : Int} (h1 : -150000000 < lat) (h2 : lat < 150000000) (a : -(1455 / 100000) ≤ hgt lat N G) (b : hgt lat N G ≤ 1455 / 100000) :
    rabs (rP (coU N) (ce9 * siU N) G) ≤ 5723 / 10000 ∧ 84177 / 100000 ≤ rP (coU N) (ce9 * siU N) G * rP (coU N) (ce9 * siU N) G + rQ (coU N) (ce9 * siU N) G * rQ (coU N) (ce9 * siU N) G ∧
    rP (coU N) (ce9 * siU N) G * rP (coU N) (ce9 * siU N) G + rQ (coU N) (ce9 * siU N) G * rQ (coU N) (ce9 * siU N) G ≤ 10001 / 10000 ∧ (7171 / 10000 ≤ rQ (coU N) (ce9 * siU N) G ∨ rQ (coU N) (ce9 * siU N) G ≤ -(7171 / 10000)) ∧ rabs (rQ (coU N) (ce9 * siU N) G) ≤ 11 / 10 := by
  obtain ⟨c, s⟩ := lat_num h1 h2
  rw [hgt_G] at a b
  obtain ⟨n1, n2⟩ := norm_G N
  obtain ⟨k, -, -⟩ := siU_circ G
  have k := rabs_le.1 k
  obtain ⟨e1, e2, e3, e4, -⟩ := eps_fine
  obtain ⟨-, l, -⟩ := siU_circ N
  have z1 : rabs (se9 * siU N) ≤ 397781 / 1000000 := by
    have := mul_small (x := se9) (A := 39778 / 100000) (rabs_le.2 ⟨by grind, by grind⟩) l
    grind
  have z2 := rabs_le.1 (mul_small s z1)
  have e := rP_sq (coU N) (ce9 * siU N) G
  generalize rP (coU N) (ce9 * siU N) G = P at *
  generalize rQ (coU N) (ce9 * siU N) G = Q at *
  generalize coU N * coU N + ce9 * siU N * (ce9 * siU N) = r at *
  have p1 : rabs P ≤ 5723 / 10000 := by
    refine rabs_le.2 ⟨Rat.not_lt.1 fun hn => ?_, Rat.not_lt.1 fun hn => ?_⟩
    · have m := Rat.mul_le_mul_of_nonneg_right c (show 0 ≤ P by grind)
      grind
    · have m := Rat.mul_le_mul_of_nonneg_right c (show 0 ≤ -P by grind)
      grind
  have r0 : 0 ≤ r := by grind
  have m1 := Rat.mul_le_mul_of_nonneg_left (show 1 - 1 / 10000000000 ≤ siU G * siU G + coU G * coU G by grind) r0
  have m2 := Rat.mul_le_mul_of_nonneg_left (show siU G * siU G + coU G * coU G ≤ 1 + 1 / 10000000000 by grind) r0
  have sp := sq_leR p1
  have sp0 := nn_sq P
  have q0 : rabs Q ≤ 11 / 10 := sq_rabs (by grind) (by grind)
  refine ⟨p1, by grind, by grind, ?_, q0⟩
  by_cases q : 7171 / 10000 ≤ Q
  · exact .inl q
  · right
    refine Rat.not_lt.1 fun hn => ?_
    have := sq_leR (x := Q) (A := 7171 / 10000) (rabs_le.2 ⟨by grind, by grind⟩)
    grind
end
section
open Ieee
/-- The pair of the sun held at longitude N, under the sidereal angle G. -/
def pR (N G : Int) : Rat := rP (coU N) (ce9 * siU N) G
def qR (N G : Int) : Rat := rQ (coU N) (ce9 * siU N) G
theorem hgt_p (lat N G : Int) : hgt lat N G = siU lat * (se9 * siU N) + coU lat * pR N G := hgt_G lat N G
theorem two_small {A B e f : Rat} (hA : rabs A ≤ 11/10) (hB : rabs B ≤ 11/10) (he : rabs e ≤ 2 / 10000000000) (hf : rabs f ≤ 2 / 10000000000) : rabs (A * e + B * f) ≤ 5 / 10000000000 := by
  have a := rabs_le.1 (mul_small hA he)
  have b := rabs_le.1 (mul_small hB hf)
  exact rabs_le.2 ⟨by grind, by grind⟩
theorem xy_bd (N : Int) : rabs (coU N) ≤ 11/10 ∧ rabs (ce9 * siU N) ≤ 11/10 := by
  obtain ⟨-, l1, l2⟩ := siU_circ N
  obtain ⟨e1, e2, -⟩ := eps_fine
  have := mul_small (x := ce9) (A := 1) (rabs_le.2 ⟨by grind, by grind⟩) l1
  exact ⟨by grind, by grind⟩
theorem pR_turn (N G n : Int) : rabs (pR N (G + n) - rP (pR N G) (qR N G) n) ≤ 5 / 10000000000 := by
  obtain ⟨p1, p2⟩ := siU_plus G n
  obtain ⟨bA, bB⟩ := xy_bd N
  have t := two_small bA bB p2 p1
  have e : pR N (G + n) - rP (pR N G) (qR N G) n = coU N * (coU (G + n) - (coU G * coU n - siU G * siU n)) + ce9 * siU N * (siU (G + n) - (siU G * coU n + coU G * siU n)) := by unfold pR qR rP rQ; grind
  rw [e]; exact t
theorem qR_turn (N G n : Int) : rabs (qR N (G + n) - rQ (pR N G) (qR N G) n) ≤ 5 / 10000000000 := by
  obtain ⟨p1, p2⟩ := siU_plus G n
  obtain ⟨bA, bB⟩ := xy_bd N
  have t := rabs_le.1 (two_small bB bA p2 p1)
  have t2 := rabs_le.1 (two_small bB (show rabs (-coU N) ≤ 11/10 by rw [rabs_neg]; exact bA) p2 p1)
  have e : qR N (G + n) - rQ (pR N G) (qR N G) n = ce9 * siU N * (coU (G + n) - (coU G * coU n - siU G * siU n)) + -coU N * (siU (G + n) - (siU G * coU n + coU G * siU n)) := by unfold qR pR rP rQ; grind
  rw [e]
  exact rabs_le.2 ⟨by grind, by grind⟩
theorem qR_lip {N M G : Int} (h : N ≤ M) (h' : M ≤ N + 3000000) : rabs (qR M G - qR N G) ≤ 4 / 100 := by
  have a := siU_lip (m := N) (n := M) h
  have b := siU_lip (m := N + 250000000) (n := M + 250000000) (by omega)
  rw [show M + 250000000 - (N + 250000000) = M - N by omega] at b
  have d := icast (show M - N ≤ 3000000 by omega)
  push_cast at a b d
  obtain ⟨-, l1, l2⟩ := siU_circ G
  obtain ⟨e1, e2, -⟩ := eps_fine
  have a' : rabs (siU M - siU N) ≤ 19 / 1000 := by grind
  have b' : rabs (coU M - coU N) ≤ 19 / 1000 := by unfold coU; grind
  have m1 := mul_small (x := ce9) (A := 1) (rabs_le.2 ⟨by grind, by grind⟩) a'
  have m2 := rabs_le.1 (mul_small l2 m1)
  have m3 := rabs_le.1 (mul_small l1 b')
  have e : qR M G - qR N G = coU G * (ce9 * (siU M - siU N)) - siU G * (coU M - coU N) := by unfold qR rQ; grind
  rw [e]
  exact rabs_le.2 ⟨by grind, by grind⟩
theorem N_any {lat N M G k : Int} (h : N - k ≤ M) (h' : M ≤ N + k) (hk : k ≤ 1500000) : rabs (hgt lat M G - hgt lat N G) ≤ 632 / 100000000000 * (k : Rat) + 5 / 10000000000 := by
  rcases Int.le_total N M with q | q
  · have a := N_lip1 (lat := lat) (G := G) q (by omega)
    have b := icast (show M - N ≤ k by omega)
    grind
  · have a := rabs_le.1 (N_lip1 (lat := lat) (G := G) q (by omega))
    have b := icast (show N - M ≤ k by omega)
    exact rabs_le.2 ⟨by grind, by grind⟩
/-- Between two places near each other the height changes little. -/
theorem hgt_near {lat N M G H k : Int} (h : N - k ≤ M) (h' : M ≤ N + k) (hk : k ≤ 1500000) (g : G ≤ H) (g' : H ≤ G + 1500000) : rabs (hgt lat M H - hgt lat N G) ≤ 632 / 100000000000 * (k : Rat) + 632 / 100000000000 * ((H - G : Int) : Rat) + 2 / 1000000000 := by
  have a := rabs_le.1 (N_any (lat := lat) (G := H) h h' hk)
  have b := lip1 (norm_G N).1 (n := G) (d := H - G) (by omega) (by omega)
  rw [show G + (H - G) = H by omega] at b
  obtain ⟨-, -, l⟩ := siU_circ lat
  have c := rabs_le.1 (mul_small l b)
  have g0 : (0 : Rat) ≤ ((H - G : Int) : Rat) := by have := icast (show 0 ≤ H - G by omega); push_cast at this ⊢; exact this
  have e : hgt lat N H - hgt lat N G = coU lat * (rP (coU N) (ce9 * siU N) H - rP (coU N) (ce9 * siU N) G) := by rw [hgt_G, hgt_G]; grind
  have g1 := icast (show H - G ≤ 1500000 by omega)
  push_cast at g1 g0 a b c ⊢
  exact rabs_le.2 ⟨by grind, by grind⟩
/-- Where the height goes up between a and b, a little apart, the pair goes up at b. -/
theorem up_at {lat N M G H k : Int} (c : 587785 / 1000000 ≤ coU lat) (h : N - k ≤ M) (h' : M ≤ N + k) (hk : k ≤ 1500000) (g : G ≤ H) (g' : H ≤ G + 1500000) (hp : rabs (pR M H) ≤ 5723 / 10000) (hq : rabs (qR M H) ≤ 11/10) (hor : 7171 / 10000 ≤ qR M H ∨ qR M H ≤ -(7171 / 10000))
    (hs : 632 / 100000000000 * (k : Rat) + 12 / 10000000000 < 2636 / 1000000000000 * ((H - G : Int) : Rat)) (hl : hgt lat N G < hgt lat M H) : 7171 / 10000 ≤ qR M H := by
  rcases hor with q | q
  · exact q
  · exfalso
    have hq := rabs_le.1 hq
    have d := dir_down hp q hq.2 (g := H - G) (by omega) (by omega)
    have t := rabs_le.1 (pR_turn M H (-(H - G)))
    rw [show H + -(H - G) = G by omega] at t
    have n := rabs_le.1 (N_any (lat := lat) (G := G) h h' hk)
    obtain ⟨t1, t2, -⟩ := tq_num
    have g0 : (0 : Rat) ≤ ((H - G : Int) : Rat) := by have := icast (show 0 ≤ H - G by omega); push_cast at this ⊢; exact this
    have y := Rat.mul_le_mul_of_nonneg_right t1 g0
    obtain ⟨-, -, l⟩ := siU_circ lat
    have l := rabs_le.1 l
    have f : pR M H + 714 / 1000 * (628318 / 100000000000000 * ((H - G : Int) : Rat)) - 7 / 10000000000 ≤ pR M G := by grind
    have m := Rat.mul_le_mul_of_nonneg_right c (show 0 ≤ pR M G - pR M H + 7 / 10000000000 by grind)
    have e : hgt lat M G - hgt lat M H = coU lat * (pR M G - pR M H) := by rw [hgt_p, hgt_p]; grind
    grind
/-- Where it goes down between a and b the pair goes down at a. -/
theorem down_at {lat N M G H k : Int} (c : 587785 / 1000000 ≤ coU lat) (h : N - k ≤ M) (h' : M ≤ N + k) (hk : k ≤ 1500000) (g : G ≤ H) (g' : H ≤ G + 1500000) (hp : rabs (pR N G) ≤ 5723 / 10000) (hor : 7171 / 10000 ≤ qR N G ∨ qR N G ≤ -(7171 / 10000))
    (hs : 632 / 100000000000 * (k : Rat) + 12 / 10000000000 < 2636 / 1000000000000 * ((H - G : Int) : Rat)) (hl : hgt lat M H < hgt lat N G) : qR N G ≤ -(7171 / 10000) := by
  rcases hor with q | q
  · exfalso
    have d := dir_up hp q (g := H - G) (by omega) (by omega)
    have t := rabs_le.1 (pR_turn N G (H - G))
    rw [show G + (H - G) = H by omega] at t
    have n := rabs_le.1 (N_any (lat := lat) (G := H) h h' hk)
    obtain ⟨t1, t2, -⟩ := tq_num
    have g0 : (0 : Rat) ≤ ((H - G : Int) : Rat) := by have := icast (show 0 ≤ H - G by omega); push_cast at this ⊢; exact this
    have y := Rat.mul_le_mul_of_nonneg_right t1 g0
    obtain ⟨-, -, l⟩ := siU_circ lat
    have l := rabs_le.1 l
    have f : pR N G + 714 / 1000 * (628318 / 100000000000000 * ((H - G : Int) : Rat)) - 7 / 10000000000 ≤ pR N H := by grind
    have m := Rat.mul_le_mul_of_nonneg_right c (show 0 ≤ pR N H - pR N G + 7 / 10000000000 by grind)
    have e : hgt lat N H - hgt lat N G = coU lat * (pR N H - pR N G) := by rw [hgt_p, hgt_p]; grind
    grind
  · exact q
end
section
open Ieee
/-- What two minutes do to the angles. -/
structure TwoMin (sL gL : Int → Int) (lon x y : Int) (k : Int) : Prop where
  n0 : sL x - k ≤ sL y
  n1 : sL y ≤ sL x + k
  k1 : k ≤ 1500000
  g0 : gL x + lon ≤ gL y + lon
  g1 : gL y + lon ≤ gL x + lon + 1500000
  s : 632 / 100000000000 * (k : Rat) + 12 / 10000000000 < 2636 / 1000000000000 * ((gL y + lon - (gL x + lon) : Int) : Rat)
  u : 632 / 100000000000 * (k : Rat) + 632 / 100000000000 * ((gL y + lon - (gL x + lon) : Int) : Rat) + 2 / 1000000000 ≤ 886 / 100000
/-- How the angles grow. -/
structure Grows (sL gL : Int → Int) : Prop where
  sun : ∀ {x y : Int}, x ≤ y → 2644 * (y - x) - 259200 ≤ 86400 * (sL y - sL x) ∧ 86400 * (sL y - sL x) ≤ 2832 * (y - x) + 259200
  sid : ∀ {x y : Int}, x ≤ y → 1002737909350806 * (y - x) - 259200000000000 ≤ 86400000000000 * (gL y - gL x) ∧ 86400000000000 * (gL y - gL x) ≤ 1002737909350806 * (y - x) + 259200000000000
theorem two_min {sL gL : Int → Int} (hg : Grows sL gL) (lon : Int) {x y : Int} (h0 : x < y) (h1 : y ≤ x + 120000) : ∃ k, TwoMin sL gL lon x y k := by
  obtain ⟨a, b⟩ := hg.sun (Int.le_of_lt h0)
  obtain ⟨c, d⟩ := hg.sid (Int.le_of_lt h0)
  refine ⟨(2832 * (y - x) + 259200) / 86400, by omega, by omega, by omega, by omega, by omega, ?_, ?_⟩
  · have k0 := icast (show 86400 * ((2832 * (y - x) + 259200) / 86400) ≤ 2832 * (y - x) + 259200 by omega)
    have c' := icast c
    have e := icast (show 1 ≤ y - x by omega)
    generalize (2832 * (y - x) + 259200) / 86400 = k at *
    push_cast at k0 c' e ⊢
    grind
  · have k0 := icast (show 86400 * ((2832 * (y - x) + 259200) / 86400) ≤ 2832 * (y - x) + 259200 by omega)
    have d' := icast d
    have e := icast (show y - x ≤ 120000 by omega)
    generalize (2832 * (y - x) + 259200) / 86400 = k at *
    push_cast at k0 d' e ⊢
    grind
theorem one_num : rabs (siU 1) ≤ 1 / 10000000 ∧ rabs (coU 1 - 1) ≤ 1 / 10000000 := by decide +kernel
theorem qR_one {N G : Int} (hp : rabs (pR N G) ≤ 11/10) (h : qR N (G + 1) ≤ -(6 / 10)) : qR N G ≤ -(1 / 2) := by
  have t := rabs_le.1 (qR_turn N G 1)
  obtain ⟨s, c⟩ := one_num
  have c := rabs_le.1 c
  have m := rabs_le.1 (mul_small hp s)
  refine Rat.not_lt.1 fun hn => ?_
  have e : rQ (pR N G) (qR N G) 1 = qR N G * coU 1 - pR N G * siU 1 := rfl
  rw [e] at t
  by_cases z : 0 ≤ qR N G
  · have := Rat.mul_nonneg z (show 0 ≤ coU 1 by grind)
    grind
  · have := Rat.mul_le_mul_of_nonneg_left (show coU 1 ≤ 11/10 by grind) (show 0 ≤ -qR N G by grind)
    grind
theorem pR_bd (N G : Int) : rabs (pR N G) ≤ 11/10 := by
  have e := rP_sq (coU N) (ce9 * siU N) G
  obtain ⟨n1, -⟩ := norm_G N
  obtain ⟨k, -, -⟩ := siU_circ G
  have k := rabs_le.1 k
  have q0 := nn_sq (rQ (coU N) (ce9 * siU N) G)
  have r0 := nn_sq (coU N)
  have r1 := nn_sq (ce9 * siU N)
  have m := Rat.mul_le_mul_of_nonneg_left (show siU G * siU G + coU G * coU G ≤ 1 + 1 / 10000000000 by grind) (show 0 ≤ coU N * coU N + ce9 * siU N * (ce9 * siU N) by grind)
  exact sq_rabs (by grind) (by unfold pR; grind)
/-- Half an angle twice is the angle, up to a unit. -/
theorem pR_half (N G n : Int) : rabs (pR N (G + n) - rP (pR N G) (qR N G) (n / 2 + n / 2)) ≤ 1 / 100000000 := by
  have t := rabs_le.1 (pR_turn N G (n / 2 + n / 2))
  have l := rabs_le.1 (lip1 (norm_G N).1 (n := G + (n / 2 + n / 2)) (d := n - (n / 2 + n / 2)) (by omega) (by omega))
  rw [show G + (n / 2 + n / 2) + (n - (n / 2 + n / 2)) = G + n by omega] at l
  have d := icast (show n - (n / 2 + n / 2) ≤ 1 by omega)
  push_cast at d l
  unfold pR at t ⊢
  push_cast at t
  exact rabs_le.2 ⟨by grind, by grind⟩
theorem qR_half {N G n : Int} (h : qR N (G + n) ≤ -(6 / 10)) : rQ (pR N G) (qR N G) (n / 2 + n / 2) < 0 := by
  have t := rabs_le.1 (qR_turn N G (n / 2 + n / 2))
  rcases (show n = n / 2 + n / 2 ∨ n = n / 2 + n / 2 + 1 by omega) with e | e
  · rw [← e] at t ⊢
    grind
  · have q := qR_one (N := N) (G := G + (n / 2 + n / 2)) (pR_bd _ _) (by rw [show G + (n / 2 + n / 2) + 1 = G + n by omega]; exact h)
    grind
theorem rise_abs {sL gL U0 U1 : Int → Int} (hg : Grows sL gL) {lon lat al ah bl bh t : Int} (hin : ∀ x, InU (U0 x) (U1 x) (hgt lat (sL x) (gL x + lon)) (93/100)) (hw : ∀ x, U1 x - U0 x ≤ 138300) (h1 : -150000000 < lat) (h2 : lat < 150000000) (a0 : al < ah) (a1 : ah ≤ al + 120000) (b0 : bl < bh) (b1 : bh ≤ bl + 120000) (ab : ah + 7200000 < bl) (day : bl ≤ ah + 86400000) (t0 : ah + 3600000 ≤ t) (t1 : t ≤ bl - 3600000)
    (ua : U1 al < -14543900) (va : -14543900 < U0 ah) (vb : -14543900 < U0 bl) (ub : U1 bh < -14543900) : 0 < U0 t := by
  obtain ⟨c, -⟩ := lat_num h1 h2
  obtain ⟨-, ia⟩ := hin al
  obtain ⟨ia2, -⟩ := hin ah
  obtain ⟨ib, -⟩ := hin bl
  obtain ⟨-, ib2⟩ := hin bh
  obtain ⟨-, it⟩ := hin t
  have wd := icast (hw t)
  have ua := icast (show U1 al ≤ -14543901 by omega)
  have va := icast (show -14543899 ≤ U0 ah by omega)
  have vb := icast (show -14543899 ≤ U0 bl by omega)
  have ub := icast (show U1 bh ≤ -14543901 by omega)
  push_cast at ua va vb ub wd
  obtain ⟨ka, A⟩ := two_min hg lon a0 a1
  obtain ⟨kb, B⟩ := two_min hg lon b0 b1
  have na := rabs_le.1 (hgt_near (lat := lat) A.n0 A.n1 A.k1 A.g0 A.g1)
  have nb := rabs_le.1 (hgt_near (lat := lat) B.n0 B.n1 B.k1 B.g0 B.g1)
  have Au := A.u
  have Bu := B.u
  obtain ⟨sab0, sab1⟩ := hg.sun (x := ah) (y := bl) (by omega)
  obtain ⟨gab0, gab1⟩ := hg.sid (x := ah) (y := bl) (by omega)
  obtain ⟨sat0, sat1⟩ := hg.sun (x := ah) (y := t) (by omega)
  obtain ⟨gat0, gat1⟩ := hg.sid (x := ah) (y := t) (by omega)
  obtain ⟨gtb0, gtb1⟩ := hg.sid (x := t) (y := bl) (by omega)
  -- the two directions
  obtain ⟨pa, ra1, ra2, ora, qa⟩ := at_limit (N := sL ah) (G := gL ah + lon) h1 h2 (by grind) (by grind)
  have Qa := up_at c A.n0 A.n1 A.k1 A.g0 A.g1 pa qa ora A.s (by grind)
  obtain ⟨pb, -, -, orb, -⟩ := at_limit (N := sL bl) (G := gL bl + lon) h1 h2 (by grind) (by grind)
  have Qb := down_at c B.n0 B.n1 B.k1 B.g0 B.g1 pb orb B.s (by grind)
  have lq := rabs_le.1 (qR_lip (N := sL ah) (M := sL bl) (G := gL bl + lon) (by omega) (by omega))
  have Qb' : qR (sL ah) (gL bl + lon) ≤ -(6 / 10) := by grind
  -- the sun held at a
  have db := rabs_le.1 (N_lip (lat := lat) (N := sL ah) (M := sL bl) (G := gL bl + lon) (by omega) (by omega))
  have dt := rabs_le.1 (N_lip (lat := lat) (N := sL ah) (M := sL t) (G := gL t + lon) (by omega) (by omega))
  have eb := icast (show sL bl - sL ah ≤ 2832003 by omega)
  have et := icast (show sL t - sL ah ≤ 2832003 by omega)
  push_cast at eb et db dt
  have Ha := hgt_p lat (sL ah) (gL ah + lon)
  have Hb := hgt_p lat (sL ah) (gL bl + lon)
  have Ht := hgt_p lat (sL ah) (gL t + lon)
  obtain ⟨β, hβ⟩ : ∃ β, β = gL bl - gL ah := ⟨_, rfl⟩
  obtain ⟨α, hα⟩ : ∃ α, α = gL t - gL ah := ⟨_, rfl⟩
  have fb := rabs_le.1 (pR_half (sL ah) (gL ah + lon) β)
  have fq := qR_half (N := sL ah) (G := gL ah + lon) (n := β) (by rw [show gL ah + lon + β = gL bl + lon by omega]; exact Qb')
  have ft := rabs_le.1 (pR_half (sL ah) (gL ah + lon) α)
  rw [show gL ah + lon + β = gL bl + lon by omega] at fb
  rw [show gL ah + lon + α = gL t + lon by omega] at ft
  have h0 : 0 ≤ β / 2 := by omega
  have h9 : β / 2 ≤ 502000000 := by omega
  have x0 : 20880000 ≤ α / 2 := by omega
  have x1 : 20880000 ≤ β / 2 - α / 2 := by omega
  clear sab0 sab1 gab0 gab1 sat0 sat1 gat0 gat1 gtb0 gtb1 hβ hα
  have pa' := rabs_le.1 pa
  change pR (sL ah) (gL ah + lon) ≤ 5723 / 10000 ∧ -(5723 / 10000) ≤ pR (sL ah) (gL ah + lon) at pa'
  have e0 : pR (sL ah) (gL ah + lon) - 456 / 10000 ≤ pR (sL ah) (gL bl + lon) := by
    refine Rat.not_lt.1 fun hn => ?_
    have m := Rat.mul_le_mul_of_nonneg_right c (show 0 ≤ pR (sL ah) (gL ah + lon) - 456 / 10000 - pR (sL ah) (gL bl + lon) by grind)
    grind
  have e9 : pR (sL ah) (gL bl + lon) ≤ pR (sL ah) (gL ah + lon) + 456 / 10000 := by
    refine Rat.not_lt.1 fun hn => ?_
    have m := Rat.mul_le_mul_of_nonneg_right c (show 0 ≤ pR (sL ah) (gL bl + lon) - (pR (sL ah) (gL ah + lon) + 456 / 10000) by grind)
    grind
  have top := rise_mid (h := β / 2) (x := α / 2) pa Qa (rabs_le.1 qa).1 ra1 ra2 (show pR (sL ah) (gL ah + lon) - 457 / 10000 ≤ rP (pR (sL ah) (gL ah + lon)) (qR (sL ah) (gL ah + lon)) (β / 2 + β / 2) by grind) (rabs_le.2 ⟨by show rP (pR (sL ah) (gL ah + lon)) (qR (sL ah) (gL ah + lon)) (β / 2 + β / 2) ≤ _; grind, by show _ ≤ rP (pR (sL ah) (gL ah + lon)) (qR (sL ah) (gL ah + lon)) (β / 2 + β / 2); grind⟩) fq h0 h9 x0 x1
  change pR (sL ah) (gL ah + lon) + 618 / 10000 ≤ rP (pR (sL ah) (gL ah + lon)) (qR (sL ah) (gL ah + lon)) (α / 2 + α / 2) at top
  have up : 6179 / 100000 ≤ pR (sL ah) (gL t + lon) - pR (sL ah) (gL ah + lon) := by grind
  have m := Rat.mul_le_mul_of_nonneg_left up (show 0 ≤ coU lat by grind)
  have r' : ∀ {p q : Int}, (p : Rat) < (q : Rat) → p < q := fun h => by exact_mod_cast h
  refine r' ?_
  push_cast
  grind
end
end Go.Proofs.YtcgnhnmigmdalaaGreatDoor
