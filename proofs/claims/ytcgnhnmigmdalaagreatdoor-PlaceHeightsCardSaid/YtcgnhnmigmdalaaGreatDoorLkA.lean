/- A direction between two angles has an angle; a number between two sines is a sine. No program in sight. The sidereal angle: the program's interval and the reference's argument; what place.look computes. No program in sight. What place.look computes. No program in sight. The intervals of place.look hold the parts of every direction whose angles they hold. No program in sight. The intervals of place.look hold the parts of a direction that the intervals of its coordinates hold, up to a unit. No program in sight. -/
import Derived.Test.YtcgnhnmigmdalaaGreatDoorEqB
import Derived.Test.YtcgnhnmigmdalaaGreatDoorSmA
set_option linter.unusedVariables false
set_option linter.unusedSimpArgs false
namespace Go.Proofs.YtcgnhnmigmdalaaGreatDoor
section
open Ieee
def coU (n : Int) : Rat := siU (n + 250000000)
theorem step_nat (g : Int → Rat) (lo : Int) : ∀ d : Nat, 0 ≤ g lo → g (lo + d) < 0 → ∃ n, lo ≤ n ∧ n < lo + d ∧ 0 ≤ g n ∧ g (n + 1) < 0
  | 0, h0, h1 => by
    exfalso
    rw [show lo + ((0 : Nat) : Int) = lo by omega] at h1
    grind
  | d + 1, h0, h1 => by
    by_cases h : 0 ≤ g (lo + d)
    · refine ⟨lo + d, by omega, by omega, h, ?_⟩
      rw [show lo + (d : Int) + 1 = lo + ((d + 1 : Nat) : Int) by omega]; exact h1
    · obtain ⟨n, n1, n2, n3, n4⟩ := step_nat g lo d h0 (by grind)
      exact ⟨n, n1, by omega, n3, n4⟩
theorem step_int (g : Int → Rat) {lo hi : Int} (h : lo ≤ hi) (h0 : 0 ≤ g lo) (h1 : g hi < 0) : ∃ n, lo ≤ n ∧ n < hi ∧ 0 ≤ g n ∧ g (n + 1) < 0 := by
  obtain ⟨d, hd⟩ : ∃ d : Nat, hi = lo + d := ⟨(hi - lo).toNat, by omega⟩
  rw [hd] at h1 ⊢
  exact step_nat g lo d h0 h1
theorem lerp {a b : Rat} (h0 : 0 ≤ a) (h1 : b < 0) : ∃ lam : Rat, 0 ≤ lam ∧ lam ≤ 1 ∧ (1 - lam) * a + lam * b = 0 := by
  have hp : 0 < a - b := by grind
  have e : a / (a - b) * (a - b) = a := Rat.div_mul_cancel (by grind)
  obtain ⟨q, hq⟩ : ∃ q, q = a / (a - b) := ⟨_, rfl⟩
  rw [← hq] at e
  refine ⟨q, ?_, ?_, by grind⟩
  · exact Rat.le_of_mul_le_mul_right (show 0 * (a - b) ≤ q * (a - b) by grind) hp
  · exact Rat.le_of_mul_le_mul_right (show q * (a - b) ≤ 1 * (a - b) by grind) hp
theorem siU_b (n : Int) : siU n = S (tq * ((n % 1000000000 : Int) : Rat)) := by unfold siU; rw [angU_tq]
theorem coU_b (n : Int) : rabs (coU n - C (tq * ((n % 1000000000 : Int) : Rat))) ≤ 3 / 10000000000000 := by
  obtain ⟨b0, b1⟩ := emod_bd n
  have h := siU_cos b0 b1
  have e : siU (n % 1000000000 + 250000000) = coU n := by unfold coU siU; rw [show (n % 1000000000 + 250000000) % 1000000000 = (n + 250000000) % 1000000000 by omega]
  rw [e, angU_tq] at h
  exact h
theorem turn_end : rabs (S (tq * 1000000000) - S (tq * 0)) ≤ 1 / 1000000000000 ∧ rabs (C (tq * 1000000000) - C (tq * 0)) ≤ 1 / 1000000000000 := by decide +kernel
/-- The next whole angle. -/
theorem next_b (n : Int) : rabs (siU (n + 1) - S (tq * (((n % 1000000000 : Int) : Rat) + 1))) ≤ 1 / 1000000000000 ∧ rabs (coU (n + 1) - C (tq * (((n % 1000000000 : Int) : Rat) + 1))) ≤ 2 / 1000000000000 := by
  obtain ⟨b0, b1⟩ := emod_bd n
  have hs := siU_b (n + 1)
  have hc := coU_b (n + 1)
  by_cases h : n % 1000000000 + 1 < 1000000000
  · have e : (n + 1) % 1000000000 = n % 1000000000 + 1 := by omega
    rw [e] at hs hc
    push_cast at hs hc
    rw [hs]
    have z : ∀ x : Rat, rabs (x - x) ≤ 1 / 1000000000000 := fun x => by rw [show x - x = 0 by grind]; decide +kernel
    exact ⟨z _, by grind⟩
  · have e : (n + 1) % 1000000000 = 0 := by omega
    have e2 : n % 1000000000 = 999999999 := by omega
    have c2 : (((999999999 : Int) : Rat) + 1) = 1000000000 := by decide +kernel
    rw [e2, c2]
    rw [e] at hs hc
    have c0 : ((0 : Int) : Rat) = 0 := rfl
    rw [c0] at hs hc
    obtain ⟨t1, t2⟩ := turn_end
    have t1 := rabs_le.1 t1
    have t2 := rabs_le.1 t2
    have hc := rabs_le.1 hc
    rw [hs]
    constructor
    · exact rabs_le.2 ⟨by grind, by grind⟩
    · exact rabs_le.2 ⟨by grind, by grind⟩
theorem co_lip {m n : Int} (h : m ≤ n) (hw : n - m ≤ 1000000) : rabs (siU n - siU m) ≤ 629 / 100000 ∧ rabs (coU n - coU m) ≤ 629 / 100000 := by
  have w := icast hw
  have c : ((1000000 : Int) : Rat) = 1000000 := rfl
  rw [c] at w
  have k1 := siU_lip h
  have k2 := siU_lip (m := m + 250000000) (n := n + 250000000) (by omega)
  rw [show n + 250000000 - (m + 250000000) = n - m by omega] at k2
  unfold coU
  constructor <;> grind
/-- An angle between two whole angles next to each other. -/
structure Mid (n : Int) (lam z : Rat) : Prop where
  z0 : 0 ≤ z
  z1 : z ≤ 1000000000
  e : z + ((n / 1000000000 : Int) : Rat) * 1000000000 = (n : Rat) + lam
  s : rabs (S (tq * z) - ((1 - lam) * siU n + lam * siU (n + 1))) ≤ 3 / 1000000000000
  c : rabs (C (tq * z) - ((1 - lam) * coU n + lam * coU (n + 1))) ≤ 4 / 1000000000000
theorem mid_ex (n : Int) {lam : Rat} (l0 : 0 ≤ lam) (l1 : lam ≤ 1) : ∃ z, Mid n lam z := by
  obtain ⟨b0, b1⟩ := emod_bd n
  have B0 := icast b0
  have B1 := icast (show n % 1000000000 ≤ 999999999 by omega)
  have c0 : ((0 : Int) : Rat) = 0 := rfl
  have c1 : ((999999999 : Int) : Rat) = 999999999 := rfl
  rw [c0] at B0
  rw [c1] at B1
  have ts := turn_split n
  have hs := siU_b n
  have hc := rabs_le.1 (coU_b n)
  obtain ⟨ns, nc⟩ := next_b n
  have ns := rabs_le.1 ns
  have nc := rabs_le.1 nc
  obtain ⟨ls, lc⟩ := sc_line (a := ((n % 1000000000 : Int) : Rat)) (lam := lam) B0 (by grind) l0 l1
  have ls := rabs_le.1 ls
  have lc := rabs_le.1 lc
  rw [← hs] at ls
  generalize ((n % 1000000000 : Int) : Rat) = b at *
  refine ⟨b + lam, by grind, by grind, by grind, ?_, ?_⟩
  · generalize S (tq * (b + 1)) = s1 at *
    have m1 := Rat.mul_le_mul_of_nonneg_left ns.1 l0
    have m2 := Rat.mul_le_mul_of_nonneg_left ns.2 l0
    rw [rabs_le]
    constructor <;> grind
  · generalize C (tq * (b + 1)) = s1 at *
    have m1 := Rat.mul_le_mul_of_nonneg_left nc.1 l0
    have m2 := Rat.mul_le_mul_of_nonneg_left nc.2 l0
    have m3 := Rat.mul_le_mul_of_nonneg_left hc.1 (show 0 ≤ 1 - lam by grind)
    have m4 := Rat.mul_le_mul_of_nonneg_left hc.2 (show 0 ≤ 1 - lam by grind)
    rw [rabs_le]
    constructor <;> grind
theorem lerp_near {a b x lam d : Rat} (l0 : 0 ≤ lam) (l1 : lam ≤ 1) (ha : rabs (a - x) ≤ d) (hb : rabs (b - x) ≤ d) : rabs ((1 - lam) * a + lam * b - x) ≤ d := by
  have ha := rabs_le.1 ha
  have hb := rabs_le.1 hb
  have m1 := Rat.mul_le_mul_of_nonneg_left ha.1 (show 0 ≤ 1 - lam by grind)
  have m2 := Rat.mul_le_mul_of_nonneg_left ha.2 (show 0 ≤ 1 - lam by grind)
  have m3 := Rat.mul_le_mul_of_nonneg_left hb.1 l0
  have m4 := Rat.mul_le_mul_of_nonneg_left hb.2 l0
  rw [rabs_le]
  constructor <;> grind
/-- What is said of the angle found. -/
structure HeadZ (lo hi : Int) (X Y γ z : Rat) : Prop where
  z0 : 0 ≤ z
  z1 : z ≤ 1000000000
  k : ∃ k : Int, (lo : Rat) ≤ z + (k : Rat) * 1000000000 ∧ z + (k : Rat) * 1000000000 ≤ (hi : Rat)
  g : rabs (C (tq * z) * Y - S (tq * z) * X) ≤ γ
  s : rabs (S (tq * z) - siU lo) ≤ 63 / 10000
  c : rabs (C (tq * z) - coU lo) ≤ 63 / 10000
theorem head_at {lo hi n : Int} {X Y β lam : Rat} (hw : hi - lo ≤ 1000000) (n0 : lo ≤ n) (n1 : (n : Rat) + lam ≤ (hi : Rat)) (l0 : 0 ≤ lam) (l1 : lam ≤ 1) (bx : rabs X ≤ 101/100) (bY : rabs Y ≤ 101/100) (nh : n ≤ hi) (nh1 : lam = 0 ∨ n + 1 ≤ hi)
    (hg : rabs ((1 - lam) * (coU n * Y - siU n * X) + lam * (coU (n + 1) * Y - siU (n + 1) * X)) ≤ β) : ∃ z, HeadZ lo hi X Y (β + 1 / 100000000000) z := by
  obtain ⟨z, z0, z1, e, hs, hc⟩ := mid_ex n l0 l1
  have N0 := icast n0
  refine ⟨z, z0, z1, ⟨n / 1000000000, by rw [e]; grind, by rw [e]; exact n1⟩, ?_, ?_, ?_⟩
  · have m1 := rabs_le.1 (mul_rabs hc bY)
    have m2 := rabs_le.1 (mul_rabs hs bx)
    have hg := rabs_le.1 hg
    clear hs hc bx bY
    rw [rabs_le]
    constructor <;> grind
  · have a := (co_lip n0 (by omega)).1
    have b : rabs ((1 - lam) * siU n + lam * siU (n + 1) - siU lo) ≤ 629 / 100000 := by
      rcases nh1 with h | h
      · rw [h, show (1 - 0) * siU n + 0 * siU (n + 1) = siU n by grind]; exact a
      · exact lerp_near l0 l1 a (co_lip (show lo ≤ n + 1 by omega) (by omega)).1
    have hs := rabs_le.1 hs
    have b := rabs_le.1 b
    rw [rabs_le]
    constructor <;> grind
  · have a := (co_lip n0 (by omega)).2
    have b : rabs ((1 - lam) * coU n + lam * coU (n + 1) - coU lo) ≤ 629 / 100000 := by
      rcases nh1 with h | h
      · rw [h, show (1 - 0) * coU n + 0 * coU (n + 1) = coU n by grind]; exact a
      · exact lerp_near l0 l1 a (co_lip (show lo ≤ n + 1 by omega) (by omega)).2
    have hc := rabs_le.1 hc
    have b := rabs_le.1 b
    rw [rabs_le]
    constructor <;> grind
theorem head_ex {lo hi : Int} {X Y β : Rat} (hh : lo ≤ hi) (hw : hi - lo ≤ 1000000) (b0 : 0 ≤ β) (g0 : -β ≤ coU lo * Y - siU lo * X) (g1 : -β ≤ siU hi * X - coU hi * Y) (bx : rabs X ≤ 101/100) (bY : rabs Y ≤ 101/100) : ∃ z, HeadZ lo hi X Y (β + 1 / 100000000000) z := by
  have zz : (0 : Rat) ≤ 0 := Rat.le_refl
  have z1 : (0 : Rat) ≤ 1 := by decide +kernel
  have pick : ∀ u v : Rat, (1 - 0) * u + 0 * v = u := fun u v => by grind
  by_cases h0 : coU lo * Y - siU lo * X < 0
  · refine head_at (n := lo) (lam := 0) hw (Int.le_refl _) (by have := icast hh; grind) zz z1 bx bY hh (.inl rfl) ?_
    rw [pick, rabs_le]
    constructor <;> grind
  · by_cases h1 : 0 ≤ coU hi * Y - siU hi * X
    · refine head_at (n := hi) (lam := 0) hw hh (by grind) zz z1 bx bY (Int.le_refl _) (.inl rfl) ?_
      rw [pick, rabs_le]
      constructor <;> grind
    · obtain ⟨n, n0, n1, n2, n3⟩ := step_int (fun n => coU n * Y - siU n * X) hh (by grind) (by grind)
      obtain ⟨lam, l0, l1, le⟩ := lerp n2 n3
      have N1 := icast (show n + 1 ≤ hi by omega)
      push_cast at N1
      refine head_at (n := n) (lam := lam) hw n0 (by grind) l0 l1 bx bY (by omega) (.inr (by omega)) ?_
      (try simp only at le)
      rw [le]
      rw [rabs_le]
      constructor <;> grind
/-- A number between the sines of two declinations is the sine of one between them. -/
structure DecZ (lo hi : Int) (Z γ z : Rat) : Prop where
  z0 : 0 ≤ z
  z1 : z ≤ 1000000000
  k : ∃ k : Int, (lo : Rat) ≤ z + (k : Rat) * 1000000000 ∧ z + (k : Rat) * 1000000000 ≤ (hi : Rat)
  g : rabs (S (tq * z) - Z) ≤ γ
  c : -(1 / 100000000000) ≤ C (tq * z)
theorem coU_up {n : Int} (h1 : -250000000 ≤ n) (h2 : n ≤ 250000000) : -(2 / 10000000000000) ≤ coU n := by
  unfold coU siU
  rw [show (n + 250000000) % 1000000000 = n + 250000000 by omega, angU_tq]
  have c1 : ((n + 250000000 : Int) : Rat) = (n : Rat) + 250000000 := by push_cast; rfl
  have a1 := tq_le (icast (show 0 ≤ n + 250000000 by omega))
  have a2 := tq_le (icast (show n + 250000000 ≤ 500000000 by omega))
  have k1 : tq * ((500000000 : Int) : Rat) = piQ := by decide +kernel
  have k0 : tq * ((0 : Int) : Rat) = 0 := by decide +kernel
  rw [k0] at a1
  rw [k1] at a2
  exact S_up2 a1 a2
theorem dec_at {lo hi n : Int} {Z β lam : Rat} (h1 : -250000000 ≤ lo) (h2 : hi ≤ 250000000) (n0 : lo ≤ n) (n1 : (n : Rat) + lam ≤ (hi : Rat)) (l0 : 0 ≤ lam) (l1 : lam ≤ 1) (nh : n ≤ hi) (nh1 : lam = 0 ∨ n + 1 ≤ hi)
    (hg : rabs ((1 - lam) * (Z - siU n) + lam * (Z - siU (n + 1))) ≤ β) : ∃ z, DecZ lo hi Z (β + 1 / 100000000000) z := by
  obtain ⟨z, z0, z1, e, hs, hc⟩ := mid_ex n l0 l1
  have N0 := icast n0
  refine ⟨z, z0, z1, ⟨n / 1000000000, by rw [e]; grind, by rw [e]; exact n1⟩, ?_, ?_⟩
  · have hg := rabs_le.1 hg
    have hs := rabs_le.1 hs
    rw [rabs_le]
    constructor <;> grind
  · have hc := rabs_le.1 hc
    have a := coU_up (n := n) (by omega) (by omega)
    have m1 := Rat.mul_le_mul_of_nonneg_left a (show 0 ≤ 1 - lam by grind)
    rcases nh1 with h | h
    · rw [h] at hc m1
      grind
    · have b := coU_up (n := n + 1) (by omega) (by omega)
      have m2 := Rat.mul_le_mul_of_nonneg_left b l0
      grind
theorem dec_ex {lo hi : Int} {Z β : Rat} (h1 : -250000000 ≤ lo) (h2 : hi ≤ 250000000) (hh : lo ≤ hi) (b0 : 0 ≤ β) (g0 : siU lo ≤ Z + β) (g1 : Z ≤ siU hi + β) : ∃ z, DecZ lo hi Z (β + 1 / 100000000000) z := by
  have zz : (0 : Rat) ≤ 0 := Rat.le_refl
  have z1 : (0 : Rat) ≤ 1 := by decide +kernel
  have pick : ∀ u v : Rat, (1 - 0) * u + 0 * v = u := fun u v => by grind
  by_cases c0 : Z - siU lo < 0
  · refine dec_at (n := lo) (lam := 0) h1 h2 (Int.le_refl _) (by have := icast hh; grind) zz z1 hh (.inl rfl) ?_
    rw [pick, rabs_le]
    constructor <;> grind
  · by_cases c1 : 0 ≤ Z - siU hi
    · refine dec_at (n := hi) (lam := 0) h1 h2 hh (by grind) zz z1 (Int.le_refl _) (.inl rfl) ?_
      rw [pick, rabs_le]
      constructor <;> grind
    · obtain ⟨n, n0, n1, n2, n3⟩ := step_int (fun n => Z - siU n) hh (by grind) (by grind)
      obtain ⟨lam, l0, l1, le⟩ := lerp n2 n3
      have N1 := icast (show n + 1 ≤ hi by omega)
      push_cast at N1
      refine dec_at (n := n) (lam := lam) h1 h2 n0 (by grind) l0 l1 (by omega) (.inr (by omega)) ?_
      (try simp only at le)
      rw [le]
      rw [rabs_le]
      constructor <;> grind
/-- A direction with an angle: its parts are a length times the cosine and the sine. -/
theorem radial {s c X Y γ : Rat} (hc : rabs (s * s + c * c - 1) ≤ 1 / 100000000000) (bs : rabs s ≤ 1 + 1 / 100000000000) (bc : rabs c ≤ 1 + 1 / 100000000000) (bx : rabs X ≤ 101/100) (bY : rabs Y ≤ 101/100) (hg : rabs (c * Y - s * X) ≤ γ) (g1 : γ ≤ 1/100) :
    rabs (X - (c * X + s * Y) * c) ≤ γ + 3 / 100000000000 ∧ rabs (Y - (c * X + s * Y) * s) ≤ γ + 3 / 100000000000 := by
  have m1 := rabs_le.1 (mul_rabs hc bx)
  have m2 := rabs_le.1 (mul_rabs hc bY)
  have m3 := rabs_le.1 (mul_rabs bs hg)
  have m4 := rabs_le.1 (mul_rabs bc hg)
  have g0 : 0 ≤ γ := Rat.le_trans (rabs_nonneg _) hg
  have e1 : X - (c * X + s * Y) * c = -(s * (c * Y - s * X)) - (s * s + c * c - 1) * X := by grind
  have e2 : Y - (c * X + s * Y) * s = c * (c * Y - s * X) - (s * s + c * c - 1) * Y := by grind
  rw [e1, e2]
  clear e1 e2 hg bs bc bx bY hc
  constructor
  · rw [rabs_le]
    constructor <;> grind
  · rw [rabs_le]
    constructor <;> grind
end
section
open Ieee
def sdA (t : Int) : Int := angLo 275313108 1002737909350806 [] 0 t
def sdB (t : Int) : Int := angHi 275313108 1002737909350806 [] 0 t
theorem sid_e : sumE 275313108 1002737909350806 [] 0 = 0 := by decide +kernel
def sidLo (lon t : Int) : Int := (sdA t + lon) % 1000000000
def sidHi (lon t : Int) : Int := (sdA t + lon) % 1000000000 + (sdB t + lon) - (sdA t + lon)
def refSid (lon t : Int) : Int := (argV 1002737909350806 t + (275313108 + lon) * 1000000) % 1000000000000000
/-- An argument in the unit of the sums. -/
def unitA (a : Int) : Int := a / 1000000 * 1048576 + a % 1000000 * 1048576 / 1000000
theorem unit_of (A n : Int) (a0 : 0 ≤ A) (a1 : A < 1000000000000000) : unitA ((A + n * 1000000) % 1000000000000000) = (n * 1048576 + A / 1000000 * 1048576 + A % 1000000 * 1048576 / 1000000) % 1048576000000000 := by
  unfold unitA
  have e1 : (A + n * 1000000) % 1000000000000000 = 1000000 * ((A / 1000000 + n) % 1000000000) + A % 1000000 := by omega
  have q0 : 0 ≤ A / 1000000 := by omega
  have q1 : A / 1000000 < 1000000000 := by omega
  have r0 : 0 ≤ A % 1000000 := by omega
  have r1 : A % 1000000 < 1000000 := by omega
  rw [e1]
  generalize A / 1000000 = q at *
  generalize A % 1000000 = ρ at *
  clear e1 a0 a1
  have k0 := Int.emod_nonneg (q + n) (show (1000000000 : Int) ≠ 0 by omega)
  have k1 := Int.emod_lt_of_pos (q + n) (show (0 : Int) < 1000000000 by omega)
  have kk : q + n = 1000000000 * ((q + n) / 1000000000) + (q + n) % 1000000000 := (Int.mul_ediv_add_emod _ _).symm
  generalize (q + n) / 1000000000 = d at *
  generalize (q + n) % 1000000000 = m at *
  have e2 : (1000000 * m + ρ) / 1000000 = m := by omega
  have e3 : (1000000 * m + ρ) % 1000000 = ρ := by omega
  rw [e2, e3]
  have f0 : 0 ≤ ρ * 1048576 / 1000000 := by omega
  have f1 : ρ * 1048576 / 1000000 < 1048576 := by omega
  generalize ρ * 1048576 / 1000000 = f at *
  clear e2 e3 r0 r1
  have e4 : n * 1048576 + q * 1048576 + f = m * 1048576 + f + 1048576000000000 * d := by omega
  rw [e4, Int.add_mul_emod_self_left]
  omega
theorem whole_nil (m r t : Int) : wholeV m r [] t = (m * 1048576 + argV r t / 1000000 * 1048576 + argV r t % 1000000 * 1048576 / 1000000) % 1048576000000000 := by
  have e : refAt m [] t ([] : List Tm).length = m * 1048576 := rfl
  unfold wholeV
  rw [e]
/-- What is known of the sidereal interval. -/
structure SidOk (lon t : Int) : Prop where
  l0 : 0 ≤ sidLo lon t
  l1 : sidLo lon t < 1000000000
  o : sidLo lon t ≤ sidHi lon t
  w : sidHi lon t - sidLo lon t ≤ 1
  r : (unitA (refSid lon t) - sidLo lon t * 1048576 + 2000) % 1048576000000000 ≤ (sidHi lon t - sidLo lon t) * 1048576 + 4000
  u0 : 0 ≤ unitA (refSid lon t)
  u1 : unitA (refSid lon t) < 1048576000000000
  a0 : 0 ≤ refSid lon t
  a1 : refSid lon t < 1000000000000000
theorem sid_ok (lon t : Int) : SidOk lon t := by
  obtain ⟨v1, v2, v3, v4, v5⟩ := ang_contains (inst := t) (sumOk_of sid_e)
  have v6 := ang_contains2 (inst := t) (sumOk_of sid_e) (by decide)
  have hb : bndAt 0 ([] : List Tm) = 0 := by decide +kernel
  rw [hb] at v4
  obtain ⟨g0, g1⟩ := argV_bd 1002737909350806 t
  have ew := whole_nil 275313108 1002737909350806 t
  have eu := unit_of (argV 1002737909350806 t) (275313108 + lon) g0 g1
  have er : refSid lon t = (argV 1002737909350806 t + (275313108 + lon) * 1000000) % 1000000000000000 := rfl
  rw [← er] at eu
  have r0 : 0 ≤ refSid lon t := by rw [er]; omega
  have r1 : refSid lon t < 1000000000000000 := by rw [er]; omega
  generalize argV 1002737909350806 t / 1000000 * 1048576 = X at *
  generalize argV 1002737909350806 t % 1000000 * 1048576 / 1000000 = Y at *
  have sl : sidLo lon t = (sdA t + lon) % 1000000000 := rfl
  have sh : sidHi lon t = (sdA t + lon) % 1000000000 + (sdB t + lon) - (sdA t + lon) := rfl
  change (_ : Int) ≤ sdA t at v1
  change sdA t < _ at v2
  change sdB t - sdA t ≤ _ at v4
  change (_ - sdA t * 1048576 + 2000) % _ ≤ (sdB t - sdA t - _) * _ + _ at v6
  clear v3 v5 er g0 g1 hb
  generalize wholeV 275313108 1002737909350806 [] t = W at *
  generalize hU : unitA (refSid lon t) = U at *
  generalize sdA t = a at *
  generalize sdB t = b at *
  refine ⟨by omega, by omega, by omega, by omega, ?_, by rw [hU]; omega, by rw [hU]; omega, r0, r1⟩
  rw [sl, sh, hU]
  have e1 : (U - (a + lon) % 1000000000 * 1048576 + 2000) % 1048576000000000 = (W - 0 * 1048576 - a * 1048576 + 2000) % 1048576000000000 := by omega
  rw [e1]
  omega
theorem sid_contains (lon t : Int) : (unitA (refSid lon t) - 0 * 1048576 - sidLo lon t * 1048576 + 8192) % 1048576000000000 ≤ (sidHi lon t - sidLo lon t - 2 * 0) * 1048576 + 16384 := by
  obtain ⟨l0, l1, o, w, r, u0, u1, -, -⟩ := sid_ok lon t
  generalize unitA (refSid lon t) = U at *
  generalize sidLo lon t = lo at *
  generalize sidHi lon t = hi at *
  have h0 : 0 ≤ (U - lo * 1048576 + 2000) % 1048576000000000 := by omega
  have e : (U - 0 * 1048576 - lo * 1048576 + 8192) % 1048576000000000 = ((U - lo * 1048576 + 2000) % 1048576000000000 + 6192) % 1048576000000000 := by omega
  rw [e]
  generalize (U - lo * 1048576 + 2000) % 1048576000000000 = K at *
  omega
theorem sid_zero : sidLo 0 0 ≤ 275313108 ∧ 275313108 ≤ sidHi 0 0 ∧ sidHi 0 0 - sidLo 0 0 ≤ 1 := by
  have k := (sid_ok 0 0).w
  have e : sidLo 0 0 = 275313108 := by decide +kernel
  have o := (sid_ok 0 0).o
  omega
end
section
open Ieee
def cvL (a b : Int) : Int := sovLo (covB a) (covE a b)
def cvH (a b : Int) : Int := sovHi (covB a) (covE a b)
def cfL (lat : Int) : Int := sineLo (lat % 1000000000 + 250000000)
def cfH (lat : Int) : Int := sineHi (lat % 1000000000 + 250000000)
/-- The part towards the meridian, and that to the west. -/
def lkN0 (h0 h1 d0 d1 : Int) : Int := pLo (cvL d0 d1) (cvH d0 d1) (cvL h0 h1) (cvH h0 h1) 1000000000
def lkN1 (h0 h1 d0 d1 : Int) : Int := pHi (cvL d0 d1) (cvH d0 d1) (cvL h0 h1) (cvH h0 h1) 1000000000
def lkE0 (h0 h1 d0 d1 : Int) : Int := pLo (cvL d0 d1) (cvH d0 d1) (sovLo h0 h1) (sovHi h0 h1) 1000000000
def lkE1 (h0 h1 d0 d1 : Int) : Int := pHi (cvL d0 d1) (cvH d0 d1) (sovLo h0 h1) (sovHi h0 h1) 1000000000
def lkA0 (lat d0 d1 : Int) : Int := pLo (sineLo lat) (sineHi lat) (sovLo d0 d1) (sovHi d0 d1) 1000000000
def lkA1 (lat d0 d1 : Int) : Int := pHi (sineLo lat) (sineHi lat) (sovLo d0 d1) (sovHi d0 d1) 1000000000
def lkB0 (lat h0 h1 d0 d1 : Int) : Int := pLo (cfL lat) (cfH lat) (lkN0 h0 h1 d0 d1) (lkN1 h0 h1 d0 d1) 1000000000
def lkB1 (lat h0 h1 d0 d1 : Int) : Int := pHi (cfL lat) (cfH lat) (lkN0 h0 h1 d0 d1) (lkN1 h0 h1 d0 d1) 1000000000
def lkC0 (lat d0 d1 : Int) : Int := pLo (cfL lat) (cfH lat) (sovLo d0 d1) (sovHi d0 d1) 1000000000
def lkC1 (lat d0 d1 : Int) : Int := pHi (cfL lat) (cfH lat) (sovLo d0 d1) (sovHi d0 d1) 1000000000
def lkD0 (lat h0 h1 d0 d1 : Int) : Int := pLo (sineLo lat) (sineHi lat) (lkN0 h0 h1 d0 d1) (lkN1 h0 h1 d0 d1) 1000000000
def lkD1 (lat h0 h1 d0 d1 : Int) : Int := pHi (sineLo lat) (sineHi lat) (lkN0 h0 h1 d0 d1) (lkN1 h0 h1 d0 d1) 1000000000
def up0 (lat h0 h1 d0 d1 : Int) : Int := clipL (lkA0 lat d0 d1 + lkB0 lat h0 h1 d0 d1)
def up1 (lat h0 h1 d0 d1 : Int) : Int := clipH (lkA1 lat d0 d1 + lkB1 lat h0 h1 d0 d1)
def ea0 (h0 h1 d0 d1 : Int) : Int := clipL (-lkE1 h0 h1 d0 d1)
def ea1 (h0 h1 d0 d1 : Int) : Int := clipH (-lkE0 h0 h1 d0 d1)
def no0 (lat h0 h1 d0 d1 : Int) : Int := clipL (lkC0 lat d0 d1 - lkD1 lat h0 h1 d0 d1)
def no1 (lat h0 h1 d0 d1 : Int) : Int := clipH (lkC1 lat d0 d1 - lkD0 lat h0 h1 d0 d1)
theorem clip_sp {a b : Int} (h : a ≤ b) : Sp1 (clipL a) (clipH b) := by
  unfold clipL clipH
  exact ⟨by omega, by omega, by omega⟩
theorem sine_sp (a : Int) : Sp1 (sineLo a) (sineHi a) := by
  have h := sine_bd a
  exact ⟨h.o, h.b0, h.b1⟩
/-- All intervals of place.look are intervals of sines. -/
structure LkSp (lat h0 h1 d0 d1 : Int) : Prop where
  sF : Sp1 (sineLo lat) (sineHi lat)
  cF : Sp1 (cfL lat) (cfH lat)
  sH : Sp1 (sovLo h0 h1) (sovHi h0 h1)
  cH : Sp1 (cvL h0 h1) (cvH h0 h1)
  sD : Sp1 (sovLo d0 d1) (sovHi d0 d1)
  cD : Sp1 (cvL d0 d1) (cvH d0 d1)
  N : Sp1 (lkN0 h0 h1 d0 d1) (lkN1 h0 h1 d0 d1)
  E : Sp1 (lkE0 h0 h1 d0 d1) (lkE1 h0 h1 d0 d1)
  A : Sp1 (lkA0 lat d0 d1) (lkA1 lat d0 d1)
  B : Sp1 (lkB0 lat h0 h1 d0 d1) (lkB1 lat h0 h1 d0 d1)
  Cc : Sp1 (lkC0 lat d0 d1) (lkC1 lat d0 d1)
  D : Sp1 (lkD0 lat h0 h1 d0 d1) (lkD1 lat h0 h1 d0 d1)
  U : Sp1 (up0 lat h0 h1 d0 d1) (up1 lat h0 h1 d0 d1)
  Ea : Sp1 (ea0 h0 h1 d0 d1) (ea1 h0 h1 d0 d1)
  No : Sp1 (no0 lat h0 h1 d0 d1) (no1 lat h0 h1 d0 d1)
theorem lk_sp (lat : Int) {h0 h1 d0 d1 : Int} (hh : h0 ≤ h1) (hd : d0 ≤ d1) : LkSp lat h0 h1 d0 d1 := by
  have sF := sine_sp lat
  have cF : Sp1 (cfL lat) (cfH lat) := sine_sp _
  have sH := sov_sp _ _ hh
  have cH : Sp1 (cvL h0 h1) (cvH h0 h1) := cov_sp hh
  have sD := sov_sp _ _ hd
  have cD : Sp1 (cvL d0 d1) (cvH d0 d1) := cov_sp hd
  have N : Sp1 (lkN0 h0 h1 d0 d1) (lkN1 h0 h1 d0 d1) := prod_sp cD cH
  have E : Sp1 (lkE0 h0 h1 d0 d1) (lkE1 h0 h1 d0 d1) := prod_sp cD sH
  have A : Sp1 (lkA0 lat d0 d1) (lkA1 lat d0 d1) := prod_sp sF sD
  have B : Sp1 (lkB0 lat h0 h1 d0 d1) (lkB1 lat h0 h1 d0 d1) := prod_sp cF N
  have Cc : Sp1 (lkC0 lat d0 d1) (lkC1 lat d0 d1) := prod_sp cF sD
  have D : Sp1 (lkD0 lat h0 h1 d0 d1) (lkD1 lat h0 h1 d0 d1) := prod_sp sF N
  refine ⟨sF, cF, sH, cH, sD, cD, N, E, A, B, Cc, D, clip_sp ?_, clip_sp ?_, clip_sp ?_⟩
  · have := A.o; have := B.o; omega
  · have := E.o; omega
  · have := Cc.o; have := D.o; omega
end
section
open Ieee
theorem sc_neg_turn {θ : Rat} (h0 : -1000000000 ≤ θ) (h1 : θ ≤ 0) : rabs (S (tq * (θ + 1000000000)) - S (tq * θ)) ≤ 1 / 1000000000000 ∧ rabs (C (tq * (θ + 1000000000)) - C (tq * θ)) ≤ 1 / 1000000000000 := by
  have hp := pi_num
  have q := tq_le h0
  have q' := tq_le h1
  have z : tq * 0 = 0 := by grind
  rw [z] at q'
  have e : tq * (θ + 1000000000) = tq * θ + 2 * piQ := by rw [← tq_turn]; grind
  have t1 : tq * 500000000 = piQ := tq_num.2.2.2.2.2.2.2
  by_cases h : -500000000 ≤ θ
  · have k := tq_le h
    have t2 : tq * -500000000 = -piQ := by rw [← t1]; grind
    rw [t2] at k
    rw [e]
    exact sin_turn (x := tq * θ) (rabs_le.2 ⟨by grind, by grind⟩)
  · have k := tq_le (show θ + 1000000000 ≤ 500000000 by grind)
    have k0 := tq_le (show 0 ≤ θ + 1000000000 by grind)
    rw [z] at k0
    rw [t1] at k
    obtain ⟨a, b⟩ := sin_turn (x := -(tq * (θ + 1000000000))) (rabs_le.2 ⟨by grind, by grind⟩)
    rw [show -(tq * (θ + 1000000000)) + 2 * piQ = -(tq * θ) by rw [e]; grind, S_neg, S_neg] at a
    rw [show -(tq * (θ + 1000000000)) + 2 * piQ = -(tq * θ) by rw [e]; grind, C_neg, C_neg] at b
    have a := rabs_le.1 a
    have b := rabs_le.1 b
    constructor
    · rw [rabs_le]; constructor <;> grind
    · rw [rabs_le]; constructor <;> grind
/-- The sine at an angle from minus a turn to a turn, and at the one from 0 on. -/
theorem sc_any {θ z : Rat} {j : Int} (h0 : -1000000000 ≤ θ) (h1 : θ ≤ 1000000000) (z0 : 0 ≤ z) (z1 : z ≤ 1000000000) (e : z = θ + (j : Rat) * 1000000000) : rabs (S (tq * z) - S (tq * θ)) ≤ 4 / 1000000000000 ∧ rabs (C (tq * z) - C (tq * θ)) ≤ 4 / 1000000000000 := by
  have zz : rabs (0 : Rat) ≤ 0 := by decide +kernel
  by_cases h : 0 ≤ θ
  · have k := sc_turns (z := z) (b := θ) (j := j) (μ := 0) (by grind) (by grind) (by grind) (by grind) (by rw [e, show θ + (j : Rat) * 1000000000 - θ - (j : Rat) * 1000000000 = 0 by grind]; exact zz) (by grind)
    exact ⟨by have := k.1; grind, by have := k.2; grind⟩
  · have k := sc_turns (z := z) (b := θ + 1000000000) (j := j - 1) (μ := 0) (by grind) (by grind) (by grind) (by grind) (by rw [e]; push_cast; rw [show θ + (j : Rat) * 1000000000 - (θ + 1000000000) - ((j : Rat) - 1) * 1000000000 = 0 by grind]; exact zz) (by grind)
    obtain ⟨n1, n2⟩ := sc_neg_turn h0 (by grind)
    have k1 := rabs_le.1 k.1
    have k2 := rabs_le.1 k.2
    have n1 := rabs_le.1 n1
    have n2 := rabs_le.1 n2
    exact ⟨rabs_le.2 ⟨by grind, by grind⟩, rabs_le.2 ⟨by grind, by grind⟩⟩
/-- The sine and the cosine of a difference. -/
theorem sc_minus {a z h : Rat} {j : Int} (a0 : 0 ≤ a) (a1 : a ≤ 1000000000) (z0 : 0 ≤ z) (z1 : z ≤ 1000000000) (h0 : 0 ≤ h) (h1 : h ≤ 1000000000) (e : h = a - z + (j : Rat) * 1000000000) :
    rabs (S (tq * h) - (S (tq * a) * C (tq * z) - C (tq * a) * S (tq * z))) ≤ 3 / 100000000000 ∧ rabs (C (tq * h) - (C (tq * a) * C (tq * z) + S (tq * a) * S (tq * z))) ≤ 3 / 100000000000 := by
  have hp := pi_num
  obtain ⟨z', jz, e1, b1, b2⟩ : ∃ (z' : Rat) (jz : Int), z = z' + (jz : Rat) * 1000000000 ∧ -500000000 ≤ z' ∧ z' ≤ 500000000 := by
    by_cases q : z ≤ 500000000
    · exact ⟨z, 0, by rw [show ((0 : Int) : Rat) = 0 from rfl]; grind, by grind, q⟩
    · exact ⟨z - 1000000000, 1, by rw [show ((1 : Int) : Rat) = 1 from rfl]; grind, by grind, by grind⟩
  obtain ⟨a', ja, e2, c1, c2⟩ : ∃ (a' : Rat) (ja : Int), a = a' + (ja : Rat) * 1000000000 ∧ -500000000 ≤ a' ∧ a' ≤ 500000000 := by
    by_cases q : a ≤ 500000000
    · exact ⟨a, 0, by rw [show ((0 : Int) : Rat) = 0 from rfl]; grind, by grind, q⟩
    · exact ⟨a - 1000000000, 1, by rw [show ((1 : Int) : Rat) = 1 from rfl]; grind, by grind, by grind⟩
  obtain ⟨s1, s2⟩ := sc_any (θ := z') (z := z) (by grind) (by grind) z0 z1 e1
  obtain ⟨s3, s4⟩ := sc_any (θ := a') (z := a) (by grind) (by grind) a0 a1 e2
  obtain ⟨s5, s6⟩ := sc_any (θ := a' - z') (z := h) (j := j + ja - jz) (by grind) (by grind) h0 h1 (by push_cast; grind)
  have t1 : tq * 500000000 = piQ := tq_num.2.2.2.2.2.2.2
  have t2 : tq * -500000000 = -piQ := by rw [← t1]; grind
  have k1 := tq_le b1
  have k2 := tq_le b2
  have k3 := tq_le c1
  have k4 := tq_le c2
  rw [t1] at k2 k4
  rw [t2] at k1 k3
  have hz : rabs (tq * z') ≤ 16/5 := rabs_le.2 ⟨by grind, by grind⟩
  have ha : rabs (tq * a') ≤ 32/5 := rabs_le.2 ⟨by grind, by grind⟩
  have hz2 : rabs (-(tq * z')) ≤ 16/5 := by rw [rabs_neg]; exact hz
  have p1 := sin_sub ha hz
  have p2 := cos_add ha hz2
  rw [S_neg, C_neg] at p2
  have ee : tq * (a' - z') = tq * a' - tq * z' := by grind
  have ee2 : tq * a' + -(tq * z') = tq * a' - tq * z' := by grind
  rw [ee2] at p2
  rw [ee] at s5 s6
  have bz := SC_bd (y := tq * z') (by grind)
  have ba := sc_one a0 a1
  have m1 := rabs_le.1 (mul_rabs ba.1 s1)
  have m2 := rabs_le.1 (mul_rabs ba.1 s2)
  have m3 := rabs_le.1 (mul_rabs ba.2 s1)
  have m4 := rabs_le.1 (mul_rabs ba.2 s2)
  have m5 := rabs_le.1 (mul_rabs s3 bz.1)
  have m6 := rabs_le.1 (mul_rabs s3 bz.2)
  have m7 := rabs_le.1 (mul_rabs s4 bz.1)
  have m8 := rabs_le.1 (mul_rabs s4 bz.2)
  have s5 := rabs_le.1 s5
  have s6 := rabs_le.1 s6
  have p1 := rabs_le.1 p1
  have p2 := rabs_le.1 p2
  clear s1 s2 s3 s4 hz ha hz2 bz ba k1 k2 k3 k4 t1 t2 ee ee2 e1 e2 e
  generalize S (tq * a) = sa at *
  generalize C (tq * a) = ca at *
  generalize S (tq * z) = sz at *
  generalize C (tq * z) = cz at *
  generalize S (tq * a') = sa' at *
  generalize C (tq * a') = ca' at *
  generalize S (tq * z') = sz' at *
  generalize C (tq * z') = cz' at *
  constructor
  · rw [rabs_le]; constructor <;> grind
  · rw [rabs_le]; constructor <;> grind
theorem sine_in (a : Int) : InU (sineLo a) (sineHi a) (siU a) (1/1000) := by
  have h := sine_bd a
  have l := h.l1
  have u := h.h1
  unfold InU siU
  constructor <;> grind
theorem cosine_in (a : Int) : InU (cfL a) (cfH a) (coU a) (1/1000) := by
  have h := sine_in (a % 1000000000 + 250000000)
  have e : siU (a % 1000000000 + 250000000) = coU a := by unfold coU siU; rw [show (a % 1000000000 + 250000000) % 1000000000 = (a + 250000000) % 1000000000 by omega]
  rw [e] at h
  exact h
theorem siU_circ (a : Int) : rabs (siU a * siU a + coU a * coU a - 1) ≤ 3 / 100000000000 ∧ rabs (siU a) ≤ 1 + 1 / 100000000000 ∧ rabs (coU a) ≤ 1 + 2 / 100000000000 := by
  have hs := siU_b a
  have hc := coU_b a
  obtain ⟨b0, b1⟩ := emod_bd a
  have B0 := icast b0
  have B1 := icast (show a % 1000000000 ≤ 1000000000 by omega)
  rw [show ((0 : Int) : Rat) = 0 from rfl] at B0
  rw [show ((1000000000 : Int) : Rat) = 1000000000 from rfl] at B1
  have c := rabs_le.1 (circT B0 B1)
  have o := sc_one B0 B1
  rw [← hs] at c o
  generalize C (tq * ((a % 1000000000 : Int) : Rat)) = k at *
  have o2 := rabs_le.1 o.2
  have hc' := rabs_le.1 hc
  have bk : rabs (coU a + k) ≤ 21/10 := rabs_le.2 ⟨by grind, by grind⟩
  have m := rabs_le.1 (mul_rabs hc bk)
  have e : (coU a - k) * (coU a + k) = coU a * coU a - k * k := by grind
  rw [e] at m
  refine ⟨rabs_le.2 ⟨by grind, by grind⟩, o.1, rabs_le.2 ⟨by grind, by grind⟩⟩
theorem clipU_in {a b : Int} {x ε : Rat} (h : InU a b x ε) (hx : rabs x ≤ 1 + 6 / 100000000000) (e0 : 6/100 ≤ ε) : InU (clipL a) (clipH b) x ε := by
  have hx := rabs_le.1 hx
  unfold InU at *
  have c1 : ((1000000000 : Int) : Rat) = 1000000000 := rfl
  have c2 : ((-1000000000 : Int) : Rat) = -1000000000 := rfl
  constructor
  · rcases (show clipL a = -1000000000 ∨ clipL a ≤ a by unfold clipL; omega) with q | q
    · rw [q, c2]; grind
    · have := icast q; grind
  · rcases (show clipH b = 1000000000 ∨ b ≤ clipH b by unfold clipH; omega) with q | q
    · rw [q, c1]; grind
    · have := icast q; grind
/-- Parts of a direction of length 1 turned by an angle. -/
theorem turn_bd {s c a b r : Rat} (hc : rabs (s * s + c * c - 1) ≤ r) (hr : r ≤ 1 / 1000000000) (hu : a * a + b * b ≤ 1 + r) : rabs (s * a + c * b) ≤ 1 + 2 * r := by
  have hc := rabs_le.1 hc
  have r0 : 0 ≤ r := by grind
  have sq : ∀ z : Rat, 0 ≤ z * z := fun z => by rw [← rabs_sq]; exact Rat.mul_nonneg (rabs_nonneg z) (rabs_nonneg z)
  have k := sq (s * b - c * a)
  have e : (s * a + c * b) * (s * a + c * b) = (s * s + c * c) * (a * a + b * b) - (s * b - c * a) * (s * b - c * a) := by grind
  have a0 : 0 ≤ a * a + b * b := by have := sq a; have := sq b; grind
  have m := Rat.mul_le_mul_of_nonneg_right (show s * s + c * c ≤ 1 + r by grind) a0
  have m2 := Rat.mul_le_mul_of_nonneg_left hu (show 0 ≤ 1 + r by grind)
  have rr := Rat.mul_nonneg r0 r0
  refine sq_rabs (show 0 ≤ 1 + 2 * r by grind) ?_
  rw [e]
  have g : (1 + r) * (1 + r) ≤ (1 + 2 * r) * (1 + 2 * r) := by grind
  refine Rat.le_trans ?_ g
  have k2 : (s * s + c * c) * (a * a + b * b) ≤ (1 + r) * (1 + r) := Rat.le_trans m m2
  clear m m2 e hu hc
  generalize (s * s + c * c) * (a * a + b * b) = u at *
  generalize (s * b - c * a) * (s * b - c * a) = v at *
  grind
def tUp (lat : Int) (s n : Rat) : Rat := siU lat * s + coU lat * n
def tNo (lat : Int) (s n : Rat) : Rat := coU lat * s - siU lat * n
theorem look_in (lat : Int) {h0 h1 d0 d1 kh kd : Int} {zh zd : Rat} (hh : h0 ≤ h1) (hd : d0 ≤ d1) (a0 : 0 ≤ zh) (a1 : zh ≤ 1000000000) (b0 : 0 ≤ zd) (b1 : zd ≤ 1000000000)
    (p1 : (h0 : Rat) - 1/500 ≤ zh + (kh : Rat) * 1000000000) (p2 : zh + (kh : Rat) * 1000000000 ≤ (h1 : Rat) + 1/500) (p3 : (d0 : Rat) - 1/500 ≤ zd + (kd : Rat) * 1000000000) (p4 : zd + (kd : Rat) * 1000000000 ≤ (d1 : Rat) + 1/500) :
    InU (up0 lat h0 h1 d0 d1) (up1 lat h0 h1 d0 d1) (tUp lat (S (tq * zd)) (C (tq * zd) * C (tq * zh))) (8/100) ∧ InU (ea0 h0 h1 d0 d1) (ea1 h0 h1 d0 d1) (-(C (tq * zd) * S (tq * zh))) (6/100) ∧ InU (no0 lat h0 h1 d0 d1) (no1 lat h0 h1 d0 d1) (tNo lat (S (tq * zd)) (C (tq * zd) * C (tq * zh))) (8/100) := by
  have sp := lk_sp lat hh hd
  have sH := (over_any hh a0 a1 p1 p2).1
  have cH := cov_any hh a0 a1 p1 p2
  have sD := (over_any hd b0 b1 p3 p4).1
  have cD := cov_any hd b0 b1 p3 p4
  have sF := sine_in lat
  have cF := cosine_in lat
  obtain ⟨cc, ns, nc⟩ := siU_circ lat
  have nd := sc_one b0 b1
  have nh := sc_one a0 a1
  have nd1 : rabs (C (tq * zd)) ≤ 1 + 1 / 10000000 := by have := nd.2; grind
  have nf1 : rabs (siU lat) ≤ 1 + 1 / 10000000 := by grind
  have nf2 : rabs (coU lat) ≤ 1 + 1 / 10000000 := by grind
  have N := times_in sp.cD sp.cH cD cH (by grind) (by grind) (by grind) (by grind) nd1
  have E := times_in sp.cD sp.sH cD sH (by grind) (by grind) (by grind) (by grind) nd1
  have A := times_in sp.sF sp.sD sF sD (by grind) (by grind) (by grind) (by grind) nf1
  have B := times_in sp.cF sp.N cF N (by grind) (by grind) (by grind) (by grind) nf2
  have Cc := times_in sp.cF sp.sD cF sD (by grind) (by grind) (by grind) (by grind) nf2
  have D := times_in sp.sF sp.N sF N (by grind) (by grind) (by grind) (by grind) nf1
  have c1 := rabs_le.1 (circT b0 b1)
  have c2 := rabs_le.1 (circT a0 a1)
  have sq : ∀ z : Rat, 0 ≤ z * z := fun z => by rw [← rabs_sq]; exact Rat.mul_nonneg (rabs_nonneg z) (rabs_nonneg z)
  have key : ∀ u : Rat, u * u ≤ 1 + 1 / 100000000000 → S (tq * zd) * S (tq * zd) + C (tq * zd) * u * (C (tq * zd) * u) ≤ 1 + 3 / 100000000000 := by
    intro u hu
    have k := Rat.mul_le_mul_of_nonneg_left hu (sq (C (tq * zd)))
    have k2 := sq (S (tq * zd))
    grind
  have q1 := key (C (tq * zh)) (by have := sq (S (tq * zh)); grind)
  have e1 := turn_bd (s := siU lat) (c := coU lat) (a := S (tq * zd)) (b := C (tq * zd) * C (tq * zh)) cc (by grind) q1
  have e2 := turn_bd (s := coU lat) (c := -siU lat) (a := S (tq * zd)) (b := C (tq * zd) * C (tq * zh)) (by rw [show coU lat * coU lat + -siU lat * -siU lat - 1 = siU lat * siU lat + coU lat * coU lat - 1 by grind]; exact cc) (by grind) q1
  have e3 : rabs (-(C (tq * zd) * S (tq * zh))) ≤ 1 + 6 / 100000000000 := by
    rw [rabs_neg]
    have := mul_rabs nd.2 nh.1
    grind
  have U := InU.add A B
  have W := InU.sub Cc D
  refine ⟨clipU_in (InU.mono U (by grind)) (by unfold tUp; grind) (by grind), clipU_in (InU.mono (InU.neg E) (by grind)) e3 (by grind), clipU_in (InU.mono W (by grind)) (by unfold tNo; rw [show coU lat * S (tq * zd) - siU lat * (C (tq * zd) * C (tq * zh)) = coU lat * S (tq * zd) + -siU lat * (C (tq * zd) * C (tq * zh)) by grind]; grind) (by grind)⟩
end
section
open Ieee
theorem cauchy {s c a b R : Rat} (hc : rabs (s * s + c * c - 1) ≤ 1 / 1000000000) (R0 : 0 ≤ R) (h : (a * a + b * b) * (1 + 1 / 1000000000) ≤ R * R) : rabs (s * a + c * b) ≤ R := by
  have hc := rabs_le.1 hc
  have sq : ∀ z : Rat, 0 ≤ z * z := fun z => by rw [← rabs_sq]; exact Rat.mul_nonneg (rabs_nonneg z) (rabs_nonneg z)
  have k := sq (s * b - c * a)
  have e : (s * a + c * b) * (s * a + c * b) = (s * s + c * c) * (a * a + b * b) - (s * b - c * a) * (s * b - c * a) := by grind
  have a0 : 0 ≤ a * a + b * b := by have := sq a; have := sq b; grind
  have m := Rat.mul_le_mul_of_nonneg_right (show s * s + c * c ≤ 1 + 1 / 1000000000 by grind) a0
  refine sq_rabs R0 ?_
  rw [e]
  clear e hc
  generalize (s * s + c * c) * (a * a + b * b) = u at *
  generalize (s * b - c * a) * (s * b - c * a) = v at *
  generalize a * a + b * b = n at *
  grind
theorem sq_bd {x b : Rat} (h : rabs x ≤ b) : x * x ≤ b * b := by
  have := sq_le_sq (rabs_nonneg x) h
  rw [rabs_sq] at this; exact this
/-- A direction told by two angles, up to small errors. -/
structure DirA (X Y Z z zd : Rat) : Prop where
  z0 : 0 ≤ z
  z1 : z ≤ 1000000000
  d0 : 0 ≤ zd
  d1 : zd ≤ 1000000000
  p : ∃ ρ g : Rat, rabs (X - (ρ * C (tq * z) - g * S (tq * z))) ≤ 2 / 100000000000 ∧ rabs (Y - (ρ * S (tq * z) + g * C (tq * z))) ≤ 2 / 100000000000 ∧ rabs g ≤ 53 / 100000000000 ∧ rabs (ρ - C (tq * zd)) ≤ 19 / 100000000000
  q : rabs (Z - S (tq * zd)) ≤ 25 / 100000000000
/-- The parts of a direction seen from a place, by the sidereal angle. -/
def vOut (θ X Y : Rat) : Rat := C (tq * θ) * X + S (tq * θ) * Y
def vSide (θ X Y : Rat) : Rat := C (tq * θ) * Y - S (tq * θ) * X
theorem turn_dir {X Y Z z zd θ zh : Rat} {j : Int} (h : DirA X Y Z z zd) (t0 : 0 ≤ θ) (t1 : θ ≤ 1000000000) (h0 : 0 ≤ zh) (h1 : zh ≤ 1000000000) (e : zh = θ - z + (j : Rat) * 1000000000) :
    rabs (vOut θ X Y - C (tq * zd) * C (tq * zh)) ≤ 80 / 100000000000 ∧ rabs (vSide θ X Y - -(C (tq * zd) * S (tq * zh))) ≤ 80 / 100000000000 := by
  obtain ⟨z0, z1, d0, d1, ⟨ρ, g, pX, pY, pg, pr⟩, -⟩ := h
  obtain ⟨s1, s2⟩ := sc_minus t0 t1 z0 z1 h0 h1 e
  have bt := sc_one t0 t1
  have bz := sc_one z0 z1
  have bh := sc_one h0 h1
  have m1 := rabs_le.1 (mul_rabs bt.2 pX)
  have m2 := rabs_le.1 (mul_rabs bt.1 pY)
  have m3 := rabs_le.1 (mul_rabs bt.2 pY)
  have m4 := rabs_le.1 (mul_rabs bt.1 pX)
  have m5 := rabs_le.1 (mul_rabs pg bh.1)
  have m6 := rabs_le.1 (mul_rabs pg bh.2)
  have m7 := rabs_le.1 (mul_rabs pg s1)
  have m8 := rabs_le.1 (mul_rabs pg s2)
  have m9 := rabs_le.1 (mul_rabs pr bh.2)
  have ma := rabs_le.1 (mul_rabs pr bh.1)
  -- the length is at most about 1
  have hr : rabs ρ ≤ 11/10 := by
    have k1 := rabs_le.1 pr
    have k2 := rabs_le.1 (sc_one d0 d1).2
    exact rabs_le.2 ⟨by grind, by grind⟩
  clear pX pY pg
  have n1 := rabs_le.1 (mul_rabs hr s1)
  have n2 := rabs_le.1 (mul_rabs hr s2)
  clear s1 s2 hr bt bz bh pr
  unfold vOut vSide
  generalize C (tq * θ) = ct at *
  generalize S (tq * θ) = st at *
  generalize C (tq * z) = cz at *
  generalize S (tq * z) = sz at *
  generalize C (tq * zh) = ch at *
  generalize S (tq * zh) = sh at *
  generalize C (tq * zd) = cd at *
  constructor
  · have e1 : ct * X + st * Y - cd * ch = ct * (X - (ρ * cz - g * sz)) + st * (Y - (ρ * sz + g * cz)) - ρ * (ch - (ct * cz + st * sz)) + (ρ - cd) * ch - g * (sh - (st * cz - ct * sz)) + g * sh := by grind
    rw [e1]
    clear e1
    generalize ct * (X - (ρ * cz - g * sz)) = u1 at *
    generalize st * (Y - (ρ * sz + g * cz)) = u2 at *
    generalize ρ * (ch - (ct * cz + st * sz)) = u3 at *
    generalize (ρ - cd) * ch = u4 at *
    generalize g * (sh - (st * cz - ct * sz)) = u5 at *
    generalize g * sh = u6 at *
    rw [rabs_le]; constructor <;> grind
  · have e1 : ct * Y - st * X - -(cd * sh) = ct * (Y - (ρ * sz + g * cz)) - st * (X - (ρ * cz - g * sz)) + ρ * (sh - (st * cz - ct * sz)) - (ρ - cd) * sh - g * (ch - (ct * cz + st * sz)) + g * ch := by grind
    rw [e1]
    clear e1
    generalize ct * (Y - (ρ * sz + g * cz)) = u1 at *
    generalize st * (X - (ρ * cz - g * sz)) = u2 at *
    generalize ρ * (sh - (st * cz - ct * sz)) = u3 at *
    generalize (ρ - cd) * sh = u4 at *
    generalize g * (ch - (ct * cz + st * sz)) = u5 at *
    generalize g * ch = u6 at *
    rw [rabs_le]; constructor <;> grind
/-- What place.look's intervals are worth at such a direction. -/
theorem look_near (lat : Int) {s0 s1 a0 a1 d0 d1 : Int} {X Y Z z zd θ : Rat} (h : DirA X Y Z z zd) (hs : s0 ≤ s1) (ha : a0 ≤ a1) (hd : d0 ≤ d1) (t0 : 0 ≤ θ) (t1 : θ ≤ 1000000000)
    (kt : ∃ k : Int, (s0 : Rat) - 1/500 ≤ θ + (k : Rat) * 1000000000 ∧ θ + (k : Rat) * 1000000000 ≤ (s1 : Rat) + 1/500) (ka : ∃ k : Int, (a0 : Rat) ≤ z + (k : Rat) * 1000000000 ∧ z + (k : Rat) * 1000000000 ≤ (a1 : Rat))
    (kd : ∃ k : Int, (d0 : Rat) ≤ zd + (k : Rat) * 1000000000 ∧ zd + (k : Rat) * 1000000000 ≤ (d1 : Rat)) :
    InU (up0 lat (s0 - a1) (s1 - a0) d0 d1) (up1 lat (s0 - a1) (s1 - a0) d0 d1) (tUp lat Z (vOut θ X Y)) (92/100) ∧ InU (ea0 (s0 - a1) (s1 - a0) d0 d1) (ea1 (s0 - a1) (s1 - a0) d0 d1) (vSide θ X Y) (92/100) ∧ InU (no0 lat (s0 - a1) (s1 - a0) d0 d1) (no1 lat (s0 - a1) (s1 - a0) d0 d1) (tNo lat Z (vOut θ X Y)) (92/100) := by
  obtain ⟨k1, k11, k12⟩ := kt
  obtain ⟨k2, k21, k22⟩ := ka
  obtain ⟨k3, k31, k32⟩ := kd
  have z0 := h.z0
  have z1 := h.z1
  obtain ⟨zh, j, e, h0, h1⟩ : ∃ (zh : Rat) (j : Int), zh = θ - z + (j : Rat) * 1000000000 ∧ 0 ≤ zh ∧ zh ≤ 1000000000 := by
    by_cases q : z ≤ θ
    · exact ⟨θ - z, 0, by rw [show ((0 : Int) : Rat) = 0 from rfl]; grind, by grind, by grind⟩
    · exact ⟨θ - z + 1000000000, 1, by rw [show ((1 : Int) : Rat) = 1 from rfl]; grind, by grind, by grind⟩
  have hh : s0 - a1 ≤ s1 - a0 := by omega
  obtain ⟨u, v, w⟩ := look_in lat (kh := k1 - k2 - j) (kd := k3) (zh := zh) (zd := zd) hh hd h0 h1 h.d0 h.d1 (by push_cast; grind) (by push_cast; grind) (by grind) (by grind)
  obtain ⟨o1, o2⟩ := turn_dir h t0 t1 h0 h1 e
  have q := h.q
  obtain ⟨cc, -, -⟩ := siU_circ lat
  have cc' : rabs (siU lat * siU lat + coU lat * coU lat - 1) ≤ 1 / 1000000000 := by grind
  have cc2 : rabs (coU lat * coU lat + -siU lat * -siU lat - 1) ≤ 1 / 1000000000 := by rw [show coU lat * coU lat + -siU lat * -siU lat - 1 = siU lat * siU lat + coU lat * coU lat - 1 by grind]; exact cc'
  have n1 := sq_bd q
  have n2 := sq_bd o1
  have key : ((Z - S (tq * zd)) * (Z - S (tq * zd)) + (vOut θ X Y - C (tq * zd) * C (tq * zh)) * (vOut θ X Y - C (tq * zd) * C (tq * zh))) * (1 + 1 / 1000000000) ≤ 84 / 100000000000 * (84 / 100000000000) := by grind
  have c1 := rabs_le.1 (cauchy cc' (R := 84 / 100000000000) (by grind) key)
  have c2 := rabs_le.1 (cauchy cc2 (R := 84 / 100000000000) (by grind) key)
  have o2 := rabs_le.1 o2
  clear key cc cc' cc2 n1 n2 o1 q
  refine ⟨?_, ?_, ?_⟩
  · unfold InU tUp at *
    constructor <;> grind
  · unfold InU at *
    constructor <;> grind
  · unfold InU tNo at *
    constructor <;> grind
end
end Go.Proofs.YtcgnhnmigmdalaaGreatDoor
