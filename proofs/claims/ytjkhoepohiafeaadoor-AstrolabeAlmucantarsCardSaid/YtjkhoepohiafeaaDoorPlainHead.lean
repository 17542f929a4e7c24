/- A direction between two angles has an angle; a number between two sines is a sine. No program in sight. -/
import Derived.Test.YtjkhoepohiafeaaDoorEqB
set_option linter.unusedVariables false
set_option linter.unusedSimpArgs false
namespace Go.Proofs.YtjkhoepohiafeaaDoor
open Ieee
def coU (n : Int) : Rat := siU (n + 250000000)
theorem step_nat (g : Int → Rat) (lo : Int) : ∀ d : Nat, 0 ≤ g lo → g (lo + d) < 0 → ∃ n, lo ≤ n ∧ n < lo + d ∧ 0 ≤ g n ∧ g (n + 1) < 0
  | 0, h0, h1 => by
    exfalso
    rw [show lo + ((0 : Nat) : Int) = lo by omega] at h1
    grind
  | d + 1, h0, h1 => by
    by_cases h : 0 ≤ g (lo + d)
    · refine ⟨lo + d, by omega, by omega, h, ?_⟩
      rw [show lo + (d : Int) + 1 = lo + ((d + 1 : Nat) : Int) by omega]; exact h1
    · obtain ⟨n, n1, n2, n3, n4⟩ := step_nat g lo d h0 (by grind)
      exact ⟨n, n1, by omega, n3, n4⟩
theorem step_int (g : Int → Rat) {lo hi : Int} (h : lo ≤ hi) (h0 : 0 ≤ g lo) (h1 : g hi < 0) : ∃ n, lo ≤ n ∧ n < hi ∧ 0 ≤ g n ∧ g (n + 1) < 0 := by
  obtain ⟨d, hd⟩ : ∃ d : Nat, hi = lo + d := ⟨(hi - lo).toNat, by omega⟩
  rw [hd] at h1 ⊢
  exact step_nat g lo d h0 h1
theorem lerp {a b : Rat} (h0 : 0 ≤ a) (h1 : b < 0) : ∃ lam : Rat, 0 ≤ lam ∧ lam ≤ 1 ∧ (1 - lam) * a + lam * b = 0 := by
  have hp : 0 < a - b := by grind
  have e : a / (a - b) * (a - b) = a := Rat.div_mul_cancel (by grind)
  obtain ⟨q, hq⟩ : ∃ q, q = a / (a - b) := ⟨_, rfl⟩
  rw [← hq] at e
  refine ⟨q, ?_, ?_, by grind⟩
  · exact Rat.le_of_mul_le_mul_right (show 0 * (a - b) ≤ q * (a - b) by grind) hp
  · exact Rat.le_of_mul_le_mul_right (show q * (a - b) ≤ 1 * (a - b) by grind) hp
theorem siU_b (n : Int) : siU n = S (tq * ((n % 1000000000 : Int) : Rat)) := by unfold siU; rw [angU_tq]
theorem coU_b (n : Int) : rabs (coU n - C (tq * ((n % 1000000000 : Int) : Rat))) ≤ 3 / 10000000000000 := by
  obtain ⟨b0, b1⟩ := emod_bd n
  have h := siU_cos b0 b1
  have e : siU (n % 1000000000 + 250000000) = coU n := by unfold coU siU; rw [show (n % 1000000000 + 250000000) % 1000000000 = (n + 250000000) % 1000000000 by omega]
  rw [e, angU_tq] at h
  exact h
theorem turn_end : rabs (S (tq * 1000000000) - S (tq * 0)) ≤ 1 / 1000000000000 ∧ rabs (C (tq * 1000000000) - C (tq * 0)) ≤ 1 / 1000000000000 := by decide +kernel
/-- The next whole angle. -/
theorem next_b (n : Int) : rabs (siU (n + 1) - S (tq * (((n % 1000000000 : Int) : Rat) + 1))) ≤ 1 / 1000000000000 ∧ rabs (coU (n + 1) - C (tq * (((n % 1000000000 : Int) : Rat) + 1))) ≤ 2 / 1000000000000 := by
  obtain ⟨b0, b1⟩ := emod_bd n
  have hs := siU_b (n + 1)
  have hc := coU_b (n + 1)
  by_cases h : n % 1000000000 + 1 < 1000000000
  · have e : (n + 1) % 1000000000 = n % 1000000000 + 1 := by omega
    rw [e] at hs hc
    push_cast at hs hc
    rw [hs]
    have z : ∀ x : Rat, rabs (x - x) ≤ 1 / 1000000000000 := fun x => by rw [show x - x = 0 by grind]; decide +kernel
    exact ⟨z _, by grind⟩
  · have e : (n + 1) % 1000000000 = 0 := by omega
    have e2 : n % 1000000000 = 999999999 := by omega
    have c2 : (((999999999 : Int) : Rat) + 1) = 1000000000 := by decide +kernel
    rw [e2, c2]
    rw [e] at hs hc
    have c0 : ((0 : Int) : Rat) = 0 := rfl
    rw [c0] at hs hc
    obtain ⟨t1, t2⟩ := turn_end
    have t1 := rabs_le.1 t1
    have t2 := rabs_le.1 t2
    have hc := rabs_le.1 hc
    rw [hs]
    constructor
    · exact rabs_le.2 ⟨by grind, by grind⟩
    · exact rabs_le.2 ⟨by grind, by grind⟩
theorem co_lip {m n : Int} (h : m ≤ n) (hw : n - m ≤ 1000000) : rabs (siU n - siU m) ≤ 629 / 100000 ∧ rabs (coU n - coU m) ≤ 629 / 100000 := by
  have w := icast hw
  have c : ((1000000 : Int) : Rat) = 1000000 := rfl
  rw [c] at w
  have k1 := siU_lip h
  have k2 := siU_lip (m := m + 250000000) (n := n + 250000000) (by omega)
  rw [show n + 250000000 - (m + 250000000) = n - m by omega] at k2
  unfold coU
  constructor <;> grind
/-- An angle between two whole angles next to each other. -/
structure Mid (n : Int) (lam z : Rat) : Prop where
  z0 : 0 ≤ z
  z1 : z ≤ 1000000000
  e : z + ((n / 1000000000 : Int) : Rat) * 1000000000 = (n : Rat) + lam
  s : rabs (S (tq * z) - ((1 - lam) * siU n + lam * siU (n + 1))) ≤ 3 / 1000000000000
  c : rabs (C (tq * z) - ((1 - lam) * coU n + lam * coU (n + 1))) ≤ 4 / 1000000000000
theorem mid_ex (n : Int) {lam : Rat} (l0 : 0 ≤ lam) (l1 : lam ≤ 1) : ∃ z, Mid n lam z := by
  obtain ⟨b0, b1⟩ := emod_bd n
  have B0 := icast b0
  have B1 := icast (show n % 1000000000 ≤ 999999999 by omega)
  have c0 : ((0 : Int) : Rat) = 0 := rfl
  have c1 : ((999999999 : Int) : Rat) = 999999999 := rfl
  rw [c0] at B0
  rw [c1] at B1
  have ts := turn_split n
  have hs := siU_b n
  have hc := rabs_le.1 (coU_b n)
  obtain ⟨ns, nc⟩ := next_b n
  have ns := rabs_le.1 ns
  have nc := rabs_le.1 nc
  obtain ⟨ls, lc⟩ := sc_line (a := ((n % 1000000000 : Int) : Rat)) (lam := lam) B0 (by grind) l0 l1
  have ls := rabs_le.1 ls
  have lc := rabs_le.1 lc
  rw [← hs] at ls
  generalize ((n % 1000000000 : Int) : Rat) = b at *
  refine ⟨b + lam, by grind, by grind, by grind, ?_, ?_⟩
  · generalize S (tq * (b + 1)) = s1 at *
    have m1 := Rat.mul_le_mul_of_nonneg_left ns.1 l0
    have m2 := Rat.mul_le_mul_of_nonneg_left ns.2 l0
    rw [rabs_le]
    constructor <;> grind
  · generalize C (tq * (b + 1)) = s1 at *
    have m1 := Rat.mul_le_mul_of_nonneg_left nc.1 l0
    have m2 := Rat.mul_le_mul_of_nonneg_left nc.2 l0
    have m3 := Rat.mul_le_mul_of_nonneg_left hc.1 (show 0 ≤ 1 - lam by grind)
    have m4 := Rat.mul_le_mul_of_nonneg_left hc.2 (show 0 ≤ 1 - lam by grind)
    rw [rabs_le]
    constructor <;> grind
theorem lerp_near {a b x lam d : Rat} (l0 : 0 ≤ lam) (l1 : lam ≤ 1) (ha : rabs (a - x) ≤ d) (hb : rabs (b - x) ≤ d) : rabs ((1 - lam) * a + lam * b - x) ≤ d := by
  have ha := rabs_le.1 ha
  have hb := rabs_le.1 hb
  have m1 := Rat.mul_le_mul_of_nonneg_left ha.1 (show 0 ≤ 1 - lam by grind)
  have m2 := Rat.mul_le_mul_of_nonneg_left ha.2 (show 0 ≤ 1 - lam by grind)
  have m3 := Rat.mul_le_mul_of_nonneg_left hb.1 l0
  have m4 := Rat.mul_le_mul_of_nonneg_left hb.2 l0
  rw [rabs_le]
  constructor <;> grind
/-- What is said of the angle found. -/
structure HeadZ (lo hi : Int) (X Y γ z : Rat) : Prop where
  z0 : 0 ≤ z
  z1 : z ≤ 1000000000
  k : ∃ k : Int, (lo : Rat) ≤ z + (k : Rat) * 1000000000 ∧ z + (k : Rat) * 1000000000 ≤ (hi : Rat)
  g : rabs (C (tq * z) * Y - S (tq * z) * X) ≤ γ
  s : rabs (S (tq * z) - siU lo) ≤ 63 / 10000
  c : rabs (C (tq * z) - coU lo) ≤ 63 / 10000
theorem head_at {lo hi n : Int} {X Y β lam : Rat} (hw : hi - lo ≤ 1000000) (n0 : lo ≤ n) (n1 : (n : Rat) + lam ≤ (hi : Rat)) (l0 : 0 ≤ lam) (l1 : lam ≤ 1) (bx : rabs X ≤ 101/100) (bY : rabs Y ≤ 101/100) (nh : n ≤ hi) (nh1 : lam = 0 ∨ n + 1 ≤ hi)
    (hg : rabs ((1 - lam) * (coU n * Y - siU n * X) + lam * (coU (n + 1) * Y - siU (n + 1) * X)) ≤ β) : ∃ z, HeadZ lo hi X Y (β + 1 / 100000000000) z := by
  obtain ⟨z, z0, z1, e, hs, hc⟩ := mid_ex n l0 l1
  have N0 := icast n0
  refine ⟨z, z0, z1, ⟨n / 1000000000, by rw [e]; grind, by rw [e]; exact n1⟩, ?_, ?_, ?_⟩
  · have m1 := rabs_le.1 (mul_rabs hc bY)
    have m2 := rabs_le.1 (mul_rabs hs bx)
    have hg := rabs_le.1 hg
    clear hs hc bx bY
    rw [rabs_le]
    constructor <;> grind
  · have a := (co_lip n0 (by omega)).1
    have b : rabs ((1 - lam) * siU n + lam * siU (n + 1) - siU lo) ≤ 629 / 100000 := by
      rcases nh1 with h | h
      · rw [h, show (1 - 0) * siU n + 0 * siU (n + 1) = siU n by grind]; exact a
      · exact lerp_near l0 l1 a (co_lip (show lo ≤ n + 1 by omega) (by omega)).1
    have hs := rabs_le.1 hs
    have b := rabs_le.1 b
    rw [rabs_le]
    constructor <;> grind
  · have a := (co_lip n0 (by omega)).2
    have b : rabs ((1 - lam) * coU n + lam * coU (n + 1) - coU lo) ≤ 629 / 100000 := by
      rcases nh1 with h | h
      · rw [h, show (1 - 0) * coU n + 0 * coU (n + 1) = coU n by grind]; exact a
      · exact lerp_near l0 l1 a (co_lip (show lo ≤ n + 1 by omega) (by omega)).2
    have hc := rabs_le.1 hc
    have b := rabs_le.1 b
    rw [rabs_le]
    constructor <;> grind
theorem head_ex {lo hi : Int} {X Y β : Rat} (hh : lo ≤ hi) (hw : hi - lo ≤ 1000000) (b0 : 0 ≤ β) (g0 : -β ≤ coU lo * Y - siU lo * X) (g1 : -β ≤ siU hi * X - coU hi * Y) (bx : rabs X ≤ 101/100) (bY : rabs Y ≤ 101/100) : ∃ z, HeadZ lo hi X Y (β + 1 / 100000000000) z := by
  have zz : (0 : Rat) ≤ 0 := Rat.le_refl
  have z1 : (0 : Rat) ≤ 1 := by decide +kernel
  have pick : ∀ u v : Rat, (1 - 0) * u + 0 * v = u := fun u v => by grind
  by_cases h0 : coU lo * Y - siU lo * X < 0
  · refine head_at (n := lo) (lam := 0) hw (Int.le_refl _) (by have := icast hh; grind) zz z1 bx bY hh (.inl rfl) ?_
    rw [pick, rabs_le]
    constructor <;> grind
  · by_cases h1 : 0 ≤ coU hi * Y - siU hi * X
    · refine head_at (n := hi) (lam := 0) hw hh (by grind) zz z1 bx bY (Int.le_refl _) (.inl rfl) ?_
      rw [pick, rabs_le]
      constructor <;> grind
    · obtain ⟨n, n0, n1, n2, n3⟩ := step_int (fun n => coU n * Y - siU n * X) hh (by grind) (by grind)
      obtain ⟨lam, l0, l1, le⟩ := lerp n2 n3
      have N1 := icast (show n + 1 ≤ hi by omega)
      push_cast at N1
      refine head_at (n := n) (lam := lam) hw n0 (by grind) l0 l1 bx bY (by omega) (.inr (by omega)) ?_
      (try simp only at le)
      rw [le]
      rw [rabs_le]
      constructor <;> grind
/-- A number between the sines of two declinations is the sine of one between them. -/
structure DecZ (lo hi : Int) (Z γ z : Rat) : Prop where
  z0 : 0 ≤ z
  z1 : z ≤ 1000000000
  k : ∃ k : Int, (lo : Rat) ≤ z + (k : Rat) * 1000000000 ∧ z + (k : Rat) * 1000000000 ≤ (hi : Rat)
  g : rabs (S (tq * z) - Z) ≤ γ
  c : -(1 / 100000000000) ≤ C (tq * z)
theorem coU_up {n : Int} (h1 : -250000000 ≤ n) (h2 : n ≤ 250000000) : -(2 / 10000000000000) ≤ coU n := by
  unfold coU siU
  rw [show (n + 250000000) % 1000000000 = n + 250000000 by omega, angU_tq]
  have c1 : ((n + 250000000 : Int) : Rat) = (n : Rat) + 250000000 := by push_cast; rfl
  have a1 := tq_le (icast (show 0 ≤ n + 250000000 by omega))
  have a2 := tq_le (icast (show n + 250000000 ≤ 500000000 by omega))
  have k1 : tq * ((500000000 : Int) : Rat) = piQ := by decide +kernel
  have k0 : tq * ((0 : Int) : Rat) = 0 := by decide +kernel
  rw [k0] at a1
  rw [k1] at a2
  exact S_up2 a1 a2
theorem dec_at {lo hi n : Int} {Z β lam : Rat} (h1 : -250000000 ≤ lo) (h2 : hi ≤ 250000000) (n0 : lo ≤ n) (n1 : (n : Rat) + lam ≤ (hi : Rat)) (l0 : 0 ≤ lam) (l1 : lam ≤ 1) (nh : n ≤ hi) (nh1 : lam = 0 ∨ n + 1 ≤ hi)
    (hg : rabs ((1 - lam) * (Z - siU n) + lam * (Z - siU (n + 1))) ≤ β) : ∃ z, DecZ lo hi Z (β + 1 / 100000000000) z := by
  obtain ⟨z, z0, z1, e, hs, hc⟩ := mid_ex n l0 l1
  have N0 := icast n0
  refine ⟨z, z0, z1, ⟨n / 1000000000, by rw [e]; grind, by rw [e]; exact n1⟩, ?_, ?_⟩
  · have hg := rabs_le.1 hg
    have hs := rabs_le.1 hs
    rw [rabs_le]
    constructor <;> grind
  · have hc := rabs_le.1 hc
    have a := coU_up (n := n) (by omega) (by omega)
    have m1 := Rat.mul_le_mul_of_nonneg_left a (show 0 ≤ 1 - lam by grind)
    rcases nh1 with h | h
    · rw [h] at hc m1
      grind
    · have b := coU_up (n := n + 1) (by omega) (by omega)
      have m2 := Rat.mul_le_mul_of_nonneg_left b l0
      grind
theorem dec_ex {lo hi : Int} {Z β : Rat} (h1 : -250000000 ≤ lo) (h2 : hi ≤ 250000000) (hh : lo ≤ hi) (b0 : 0 ≤ β) (g0 : siU lo ≤ Z + β) (g1 : Z ≤ siU hi + β) : ∃ z, DecZ lo hi Z (β + 1 / 100000000000) z := by
  have zz : (0 : Rat) ≤ 0 := Rat.le_refl
  have z1 : (0 : Rat) ≤ 1 := by decide +kernel
  have pick : ∀ u v : Rat, (1 - 0) * u + 0 * v = u := fun u v => by grind
  by_cases c0 : Z - siU lo < 0
  · refine dec_at (n := lo) (lam := 0) h1 h2 (Int.le_refl _) (by have := icast hh; grind) zz z1 hh (.inl rfl) ?_
    rw [pick, rabs_le]
    constructor <;> grind
  · by_cases c1 : 0 ≤ Z - siU hi
    · refine dec_at (n := hi) (lam := 0) h1 h2 hh (by grind) zz z1 (Int.le_refl _) (.inl rfl) ?_
      rw [pick, rabs_le]
      constructor <;> grind
    · obtain ⟨n, n0, n1, n2, n3⟩ := step_int (fun n => Z - siU n) hh (by grind) (by grind)
      obtain ⟨lam, l0, l1, le⟩ := lerp n2 n3
      have N1 := icast (show n + 1 ≤ hi by omega)
      push_cast at N1
      refine dec_at (n := n) (lam := lam) h1 h2 n0 (by grind) l0 l1 (by omega) (.inr (by omega)) ?_
      (try simp only at le)
      rw [le]
      rw [rabs_le]
      constructor <;> grind
/-- A direction with an angle: its parts are a length times the cosine and the sine. -/
theorem radial {s c X Y γ : Rat} (hc : rabs (s * s + c * c - 1) ≤ 1 / 100000000000) (bs : rabs s ≤ 1 + 1 / 100000000000) (bc : rabs c ≤ 1 + 1 / 100000000000) (bx : rabs X ≤ 101/100) (bY : rabs Y ≤ 101/100) (hg : rabs (c * Y - s * X) ≤ γ) (g1 : γ ≤ 1/100) :
    rabs (X - (c * X + s * Y) * c) ≤ γ + 3 / 100000000000 ∧ rabs (Y - (c * X + s * Y) * s) ≤ γ + 3 / 100000000000 := by
  have m1 := rabs_le.1 (mul_rabs hc bx)
  have m2 := rabs_le.1 (mul_rabs hc bY)
  have m3 := rabs_le.1 (mul_rabs bs hg)
  have m4 := rabs_le.1 (mul_rabs bc hg)
  have g0 : 0 ≤ γ := Rat.le_trans (rabs_nonneg _) hg
  have e1 : X - (c * X + s * Y) * c = -(s * (c * Y - s * X)) - (s * s + c * c - 1) * X := by grind
  have e2 : Y - (c * X + s * Y) * s = c * (c * Y - s * X) - (s * s + c * c - 1) * Y := by grind
  rw [e1, e2]
  clear e1 e2 hg bs bc bx bY hc
  constructor
  · rw [rabs_le]
    constructor <;> grind
  · rw [rabs_le]
    constructor <;> grind
end Go.Proofs.YtjkhoepohiafeaaDoor
