/- A direction whose coordinates lie in intervals has angles in them, closely; what place.look's intervals hold of it. No program in sight. -/
import Derived.Test.YtcgnhnmigmdalaaGreatDoorPlainHt3
set_option linter.unusedVariables false
set_option linter.unusedSimpArgs false
namespace Go.Proofs.YtcgnhnmigmdalaaGreatDoor
open Ieee
theorem cos_at {X m : Rat} (hX : rabs X ≤ piQ / 2) (hs : rabs (S X) ≤ 61/100) (hm : rabs (m - X) ≤ 1 / 100000000) : 78/100 ≤ C m := by
  obtain ⟨q1, q2⟩ := pi_lim
  have hX' := rabs_le.1 hX
  have hm' := rabs_le.1 hm
  have cu := C_up (d := 0) (x := X) (by grind) (by grind) (by grind) (by grind)
  have ci := rabs_le.1 (circ9 (y := X) (by grind))
  have ss := sq_bd hs
  have l := rabs_le.1 (sin_lipQ (x := m) (y := X) (rabs_le.2 ⟨by grind, by grind⟩) (rabs_le.2 ⟨by grind, by grind⟩)).2
  have cx : 79/100 ≤ C X := by
    by_cases q : 79/100 ≤ C X
    · exact q
    · exfalso
      have := Rat.mul_nonneg (show 0 ≤ 79/100 - C X by grind) (show 0 ≤ C X + 1 / 100000000000 by grind)
      grind
  grind
theorem step_up {p q : Rat} (hc : 78/100 ≤ C ((p + q) / 2)) (hm : rabs ((p + q) / 2) ≤ 33/10) (h1 : 56 / 10000000000000 ≤ q - p) (h2 : q - p ≤ 64 / 10000000000) : S p + 3 / 1000000000000 ≤ S q := by
  have hd : rabs ((q - p) / 2) ≤ 33/10 := rabs_le.2 ⟨by grind, by grind⟩
  have a := rabs_le.1 (sin_add20 hm hd)
  have b := rabs_le.1 (sin_sub20 hm hd)
  rw [show (p + q) / 2 + (q - p) / 2 = q by grind] at a
  rw [show (p + q) / 2 - (q - p) / 2 = p by grind] at b
  have s := rabs_le.1 (small_sc (x := (q - p) / 2) (by grind) (by grind)).1
  have k : 27 / 10000000000000 ≤ S ((q - p) / 2) := by grind
  have m := Rat.mul_le_mul_of_nonneg_right hc (show 0 ≤ S ((q - p) / 2) by grind)
  clear s hm hd
  generalize C ((p + q) / 2) * S ((q - p) / 2) = u at *
  generalize S ((p + q) / 2) * C ((q - p) / 2) = v at *
  generalize S ((q - p) / 2) = w at *
  grind
theorem siU_any {a : Int} (h1 : -1000000000 ≤ a) (h2 : a ≤ 1000000000) : rabs (siU a - S (tq * a)) ≤ 1 / 1000000000000000000 := by
  obtain ⟨e, z0, z1, te⟩ := siU_z a
  have A0 := icast h1
  have A1 := icast h2
  push_cast at A0 A1
  rw [e]
  exact (sc_anyX (θ := (a : Rat)) (j := -(a / 1000000000)) A0 A1 z0 z1 (by push_cast; grind)).1
/-- A little further on. -/
theorem line1 {a lam : Rat} (a0 : 0 ≤ a) (a1 : a ≤ 999999999) (l0 : 0 ≤ lam) (l1 : lam ≤ 1) : rabs (S (tq * (a + lam)) - (S (tq * a) + tq * lam * C (tq * a))) ≤ 4 / 1000000000000000 ∧ rabs (C (tq * (a + lam)) - (C (tq * a) - tq * lam * S (tq * a))) ≤ 4 / 1000000000000000 := by
  obtain ⟨t1, t2, -⟩ := tq_num
  obtain ⟨a', j, e, ha, c1, c2⟩ := half_red a0 (show a ≤ 1000000000 by grind)
  obtain ⟨s1, s2⟩ := sc_anyX (θ := a') (z := a) (j := j) (by grind) (by grind) a0 (by grind) e
  obtain ⟨s3, s4⟩ := sc_anyX (θ := a' + lam) (z := a + lam) (j := j) (by grind) (by grind) (by grind) (by grind) (by grind)
  have L0 := tq_le l0
  have L1 := tq_le l1
  have hl : rabs (tq * lam) ≤ 33/10 := rabs_le.2 ⟨by grind, by grind⟩
  have p1 := rabs_le.1 (sin_add20 ha hl)
  have p2 := rabs_le.1 (cos_add20 ha hl)
  rw [show tq * a' + tq * lam = tq * (a' + lam) by grind] at p1 p2
  obtain ⟨k1, k2⟩ := small_sc (x := tq * lam) (by grind) (by grind)
  have b := sc_one a0 (show a ≤ 1000000000 by grind)
  have bz := SC_bd (y := tq * a') (by grind)
  have m1 := rabs_le.1 (mul_rabs bz.1 k2)
  have m2 := rabs_le.1 (mul_rabs bz.2 k1)
  have m3 := rabs_le.1 (mul_rabs bz.2 k2)
  have m4 := rabs_le.1 (mul_rabs bz.1 k1)
  have tl : rabs (tq * lam) ≤ 1 := rabs_le.2 ⟨by grind, by grind⟩
  have n1 := rabs_le.1 (mul_rabs tl s2)
  have n2 := rabs_le.1 (mul_rabs tl s1)
  have s1 := rabs_le.1 s1
  have s2 := rabs_le.1 s2
  have s3 := rabs_le.1 s3
  have s4 := rabs_le.1 s4
  clear k1 k2 hl tl ha b bz e L0 L1 c1 c2 t1 t2 l0 l1 a0 a1
  generalize S (tq * (a + lam)) = x1 at *
  generalize C (tq * (a + lam)) = x2 at *
  generalize S (tq * (a' + lam)) = x3 at *
  generalize C (tq * (a' + lam)) = x4 at *
  generalize S (tq * a) = sa at *
  generalize C (tq * a) = ca at *
  generalize S (tq * a') = sb at *
  generalize C (tq * a') = cb at *
  generalize S (tq * lam) = sl at *
  generalize C (tq * lam) = cl at *
  generalize tq * lam = tl at *
  constructor
  · rw [rabs_le]; constructor <;> grind
  · rw [rabs_le]; constructor <;> grind
/-- The next whole angle. -/
theorem next_X (n : Int) : rabs (siU (n + 1) - S (tq * (((n % 1000000000 : Int) : Rat) + 1))) ≤ 1 / 1000000000000000000 ∧ rabs (coU (n + 1) - C (tq * (((n % 1000000000 : Int) : Rat) + 1))) ≤ 2 / 10000000000000000 := by
  obtain ⟨-, b0, b1, be⟩ := siU_z n
  obtain ⟨e, c0, c1, ce⟩ := siU_z (n + 1)
  have hc := rabs_le.1 (coU_z (n + 1))
  obtain ⟨-, i1⟩ := emod_bd n
  have B1 := icast (show n % 1000000000 ≤ 999999999 by omega)
  push_cast at B1
  obtain ⟨s1, s2⟩ := sc_anyX (θ := ((n % 1000000000 : Int) : Rat) + 1) (z := (((n + 1) % 1000000000 : Int) : Rat)) (j := n / 1000000000 - (n + 1) / 1000000000) (by grind) (by grind) c0 c1 (by push_cast at ce ⊢; grind)
  have s2 := rabs_le.1 s2
  rw [e]
  exact ⟨s1, rabs_le.2 ⟨by grind, by grind⟩⟩
/-- An angle between two whole angles next to each other. -/
structure MidX (n : Int) (lam z : Rat) : Prop where
  z0 : 0 ≤ z
  z1 : z ≤ 1000000000
  e : z + ((n / 1000000000 : Int) : Rat) * 1000000000 = (n : Rat) + lam
  s : rabs (S (tq * z) - ((1 - lam) * siU n + lam * siU (n + 1))) ≤ 1 / 100000000000000
  c : rabs (C (tq * z) - ((1 - lam) * coU n + lam * coU (n + 1))) ≤ 1 / 100000000000000
theorem lerp_alg {x0 x1 xl s0 s1 t c0 lam : Rat} (l0 : 0 ≤ lam) (l1 : lam ≤ 1) (hl : rabs (xl - (x0 + t * lam * c0)) ≤ 4 / 1000000000000000) (h1 : rabs (x1 - (x0 + t * 1 * c0)) ≤ 4 / 1000000000000000) (g0 : rabs (s0 - x0) ≤ 2 / 10000000000000000) (g1 : rabs (s1 - x1) ≤ 2 / 10000000000000000) : rabs (xl - ((1 - lam) * s0 + lam * s1)) ≤ 1 / 100000000000000 := by
  have hl := rabs_le.1 hl
  have h1 := rabs_le.1 h1
  have g0 := rabs_le.1 g0
  have g1 := rabs_le.1 g1
  have m1 := Rat.mul_le_mul_of_nonneg_left h1.1 l0
  have m2 := Rat.mul_le_mul_of_nonneg_left h1.2 l0
  have m3 := Rat.mul_le_mul_of_nonneg_left g1.1 l0
  have m4 := Rat.mul_le_mul_of_nonneg_left g1.2 l0
  have m5 := Rat.mul_le_mul_of_nonneg_left g0.1 (show 0 ≤ 1 - lam by grind)
  have m6 := Rat.mul_le_mul_of_nonneg_left g0.2 (show 0 ≤ 1 - lam by grind)
  rw [rabs_le]
  constructor <;> grind
theorem mid_exX (n : Int) {lam : Rat} (l0 : 0 ≤ lam) (l1 : lam ≤ 1) : ∃ z, MidX n lam z := by
  obtain ⟨b0, b1⟩ := emod_bd n
  have B1 := icast (show n % 1000000000 ≤ 999999999 by omega)
  push_cast at B1
  obtain ⟨e, B0, -, ts⟩ := siU_z n
  have hc := coU_z n
  obtain ⟨ns, nc⟩ := next_X n
  obtain ⟨ls, lc⟩ := line1 (a := ((n % 1000000000 : Int) : Rat)) (lam := lam) B0 B1 l0 l1
  obtain ⟨js, jc⟩ := line1 (a := ((n % 1000000000 : Int) : Rat)) (lam := 1) B0 B1 (by decide +kernel) (by decide +kernel)
  rw [← e] at ls js lc jc
  generalize ((n % 1000000000 : Int) : Rat) = b at *
  refine ⟨b + lam, by grind, by grind, by grind, ?_, ?_⟩
  · refine lerp_alg l0 l1 ls js (by rw [show siU n - siU n = 0 by grind]; decide +kernel) ?_
    have ns := rabs_le.1 ns
    exact rabs_le.2 ⟨by grind, by grind⟩
  · refine lerp_alg (t := -tq) (c0 := siU n) l0 l1 ?_ ?_ (x0 := C (tq * b)) (x1 := C (tq * (b + 1))) ?_ ?_
    · rw [show C (tq * b) + -tq * lam * siU n = C (tq * b) - tq * lam * siU n by grind]; exact lc
    · rw [show C (tq * b) + -tq * 1 * siU n = C (tq * b) - tq * 1 * siU n by grind]; exact jc
    · have hc := rabs_le.1 hc
      exact rabs_le.2 ⟨by grind, by grind⟩
    · exact nc
theorem head_atX {lo hi n : Int} {X Y β lam : Rat} (hw : hi - lo ≤ 1000000) (n0 : lo ≤ n) (n1 : (n : Rat) + lam ≤ (hi : Rat)) (l0 : 0 ≤ lam) (l1 : lam ≤ 1) (bx : rabs X ≤ 101/100) (bY : rabs Y ≤ 101/100) (nh : n ≤ hi) (nh1 : lam = 0 ∨ n + 1 ≤ hi)
    (hg : rabs ((1 - lam) * (coU n * Y - siU n * X) + lam * (coU (n + 1) * Y - siU (n + 1) * X)) ≤ β) : ∃ z, HeadZ lo hi X Y (β + 3 / 100000000000000) z := by
  obtain ⟨z, z0, z1, e, hs, hc⟩ := mid_exX n l0 l1
  have N0 := icast n0
  refine ⟨z, z0, z1, ⟨n / 1000000000, by rw [e]; grind, by rw [e]; exact n1⟩, ?_, ?_, ?_⟩
  · have m1 := rabs_le.1 (mul_rabs hc bY)
    have m2 := rabs_le.1 (mul_rabs hs bx)
    have hg := rabs_le.1 hg
    clear hs hc bx bY
    rw [rabs_le]
    constructor <;> grind
  · have a := (co_lip n0 (by omega)).1
    have b : rabs ((1 - lam) * siU n + lam * siU (n + 1) - siU lo) ≤ 629 / 100000 := by
      rcases nh1 with h | h
      · rw [h, show (1 - 0) * siU n + 0 * siU (n + 1) = siU n by grind]; exact a
      · exact lerp_near l0 l1 a (co_lip (show lo ≤ n + 1 by omega) (by omega)).1
    have hs := rabs_le.1 hs
    have b := rabs_le.1 b
    rw [rabs_le]
    constructor <;> grind
  · have a := (co_lip n0 (by omega)).2
    have b : rabs ((1 - lam) * coU n + lam * coU (n + 1) - coU lo) ≤ 629 / 100000 := by
      rcases nh1 with h | h
      · rw [h, show (1 - 0) * coU n + 0 * coU (n + 1) = coU n by grind]; exact a
      · exact lerp_near l0 l1 a (co_lip (show lo ≤ n + 1 by omega) (by omega)).2
    have hc := rabs_le.1 hc
    have b := rabs_le.1 b
    rw [rabs_le]
    constructor <;> grind
theorem head_exX {lo hi : Int} {X Y β : Rat} (hh : lo ≤ hi) (hw : hi - lo ≤ 1000000) (b0 : 0 ≤ β) (g0 : -β ≤ coU lo * Y - siU lo * X) (g1 : -β ≤ siU hi * X - coU hi * Y) (bx : rabs X ≤ 101/100) (bY : rabs Y ≤ 101/100) : ∃ z, HeadZ lo hi X Y (β + 3 / 100000000000000) z := by
  have zz : (0 : Rat) ≤ 0 := Rat.le_refl
  have z1 : (0 : Rat) ≤ 1 := by decide +kernel
  have pick : ∀ u v : Rat, (1 - 0) * u + 0 * v = u := fun u v => by grind
  by_cases h0 : coU lo * Y - siU lo * X < 0
  · refine head_atX (n := lo) (lam := 0) hw (Int.le_refl _) (by have := icast hh; grind) zz z1 bx bY hh (.inl rfl) ?_
    rw [pick, rabs_le]
    constructor <;> grind
  · by_cases h1 : 0 ≤ coU hi * Y - siU hi * X
    · refine head_atX (n := hi) (lam := 0) hw hh (by grind) zz z1 bx bY (Int.le_refl _) (.inl rfl) ?_
      rw [pick, rabs_le]
      constructor <;> grind
    · obtain ⟨n, n0, n1, n2, n3⟩ := step_int (fun n => coU n * Y - siU n * X) hh (by grind) (by grind)
      obtain ⟨lam, l0, l1, le⟩ := lerp n2 n3
      have N1 := icast (show n + 1 ≤ hi by omega)
      push_cast at N1
      refine head_atX (n := n) (lam := lam) hw n0 (by grind) l0 l1 bx bY (by omega) (.inr (by omega)) ?_
      (try simp only at le)
      rw [le]
      rw [rabs_le]
      constructor <;> grind
theorem dec_atX {lo hi n : Int} {Z β lam : Rat} (h1 : -250000000 ≤ lo) (h2 : hi ≤ 250000000) (n0 : lo ≤ n) (n1 : (n : Rat) + lam ≤ (hi : Rat)) (l0 : 0 ≤ lam) (l1 : lam ≤ 1) (nh : n ≤ hi) (nh1 : lam = 0 ∨ n + 1 ≤ hi)
    (hg : rabs ((1 - lam) * (Z - siU n) + lam * (Z - siU (n + 1))) ≤ β) : ∃ z, DecZ lo hi Z (β + 2 / 100000000000000) z := by
  obtain ⟨z, z0, z1, e, hs, hc⟩ := mid_exX n l0 l1
  have N0 := icast n0
  refine ⟨z, z0, z1, ⟨n / 1000000000, by rw [e]; grind, by rw [e]; exact n1⟩, ?_, ?_⟩
  · have hg := rabs_le.1 hg
    have hs := rabs_le.1 hs
    rw [rabs_le]
    constructor <;> grind
  · have hc := rabs_le.1 hc
    have a := coU_up (n := n) (by omega) (by omega)
    have m1 := Rat.mul_le_mul_of_nonneg_left a (show 0 ≤ 1 - lam by grind)
    rcases nh1 with h | h
    · rw [h] at hc m1
      grind
    · have b := coU_up (n := n + 1) (by omega) (by omega)
      have m2 := Rat.mul_le_mul_of_nonneg_left b l0
      grind
theorem dec_exX {lo hi : Int} {Z β : Rat} (h1 : -250000000 ≤ lo) (h2 : hi ≤ 250000000) (hh : lo ≤ hi) (b0 : 0 ≤ β) (g0 : siU lo ≤ Z + β) (g1 : Z ≤ siU hi + β) : ∃ z, DecZ lo hi Z (β + 2 / 100000000000000) z := by
  have zz : (0 : Rat) ≤ 0 := Rat.le_refl
  have z1 : (0 : Rat) ≤ 1 := by decide +kernel
  have pick : ∀ u v : Rat, (1 - 0) * u + 0 * v = u := fun u v => by grind
  by_cases c0 : Z - siU lo < 0
  · refine dec_atX (n := lo) (lam := 0) h1 h2 (Int.le_refl _) (by have := icast hh; grind) zz z1 hh (.inl rfl) ?_
    rw [pick, rabs_le]
    constructor <;> grind
  · by_cases c1 : 0 ≤ Z - siU hi
    · refine dec_atX (n := hi) (lam := 0) h1 h2 hh (by grind) zz z1 (Int.le_refl _) (.inl rfl) ?_
      rw [pick, rabs_le]
      constructor <;> grind
    · obtain ⟨n, n0, n1, n2, n3⟩ := step_int (fun n => Z - siU n) hh (by grind) (by grind)
      obtain ⟨lam, l0, l1, le⟩ := lerp n2 n3
      have N1 := icast (show n + 1 ≤ hi by omega)
      push_cast at N1
      refine dec_atX (n := n) (lam := lam) h1 h2 n0 (by grind) l0 l1 (by omega) (.inr (by omega)) ?_
      (try simp only at le)
      rw [le]
      rw [rabs_le]
      constructor <;> grind
end Go.Proofs.YtcgnhnmigmdalaaGreatDoor
