/- The longitude of the sun between two instants, and its passages. No program in sight. -/
import Derived.Test.YtplhegjgkmabiaaDoorPlainGrow
import Derived.Test.YtplhegjgkmabiaaDoorPlainNar
import Derived.Test.YtplhegjgkmabiaaDoorWalkMoonE
set_option linter.unusedVariables false
set_option linter.unusedSimpArgs false
namespace Go.Proofs.YtplhegjgkmabiaaDoor
open Ieee
def sL (t : Int) : Int := lfLo 775342092 2737909333333 sunL 2000 t
def sH (t : Int) : Int := lfHi 775342092 2737909333333 sunL 2000 t
theorem sun_lift (t : Int) : sunLo t = sL t % 1000000000 ∧ sunHi t - sunLo t = sH t - sL t := lf_ang _ _ _ _ _
theorem sun_wd (t : Int) : 4000 ≤ sH t - sL t ∧ sH t - sL t ≤ 4003 := lf_width (i := t) (sumOk_of sun_e)
theorem sun_aR : aR sunL sunL.length * (628320 / 100000000000000) ≤ 93500000000 ∧ aS sunL sunL.length * (2 / 100000000) ≤ 9 / 10 ∧ aS sunL sunL.length * (1 + 1 / 100000000) ≤ 5373876 := by decide +kernel
theorem sun_grow {x y : Int} (h : x ≤ y) : 2644 * (y - x) - 259200 ≤ 86400 * (sL y - sL x) ∧ 86400 * (sL y - sL x) ≤ 2832 * (y - x) + 259200 := by
  obtain ⟨g1, g2⟩ := lf_grow (m := 775342092) (r := 2737909333333) (l := sunL) (s := 2000) (L := 93500000000) (sumOk_of sun_e) h sun_aR.1 sun_aR.2.1
  have p : (0 : Rat) ≤ ((y - x : Int) : Rat) := by exact_mod_cast (show 0 ≤ y - x by omega)
  have e : ((2737909333333 : Int) : Rat) = 2737909333333 := rfl
  rw [e] at g1 g2
  change _ ≤ ((sL y - sL x : Int) : Rat) at g1
  change ((sL y - sL x : Int) : Rat) ≤ _ at g2
  generalize y - x = d at *
  generalize sL y - sL x = D at *
  constructor
  · refine Rat.intCast_le_intCast.1 ?_
    push_cast
    grind
  · refine Rat.intCast_le_intCast.1 ?_
    push_cast
    grind
theorem sun_mean (t : Int) : 2737909333333 * t + 769966213 * 86400000000000 ≤ 86400000000000 * sL t ∧ 86400000000000 * sL t ≤ 2737909333333 * t + 780713969 * 86400000000000 := by
  obtain ⟨g1, g2⟩ := lf_mean (m := 775342092) (r := 2737909333333) (l := sunL) (s := 2000) (i := t) (A := 5373876) (sumOk_of sun_e) sun_aR.2.2
  have e : ((775342092 : Int) : Rat) = 775342092 := rfl
  have e2 : ((2000 : Int) : Rat) = 2000 := rfl
  rw [e, e2] at g1 g2
  change _ ≤ ((sL t : Int) : Rat) at g1
  change ((sL t : Int) : Rat) ≤ _ at g2
  push_cast at g1 g2
  generalize sL t = D at *
  constructor
  · refine Rat.intCast_le_intCast.1 ?_
    push_cast
    grind
  · refine Rat.intCast_le_intCast.1 ?_
    push_cast
    grind
/-- 366 days later the sun has made more than a turn. -/
theorem sun_year (t : Int) : sL t + 1001900000 ≤ sL (t + 31622400000) := by
  obtain ⟨x1, x2, -, -⟩ := val_at (i := t) (sumOk_of sun_e)
  obtain ⟨y1, y2, -, -⟩ := val_at (i := t + 31622400000) (sumOk_of sun_e)
  obtain ⟨g1, g2⟩ := grQ_bd 2737909333333 t
  obtain ⟨g3, g4⟩ := grQ_bd 2737909333333 (t + 31622400000)
  have a := term_lip ⟨5318339, 84888545, 2737778555556⟩ t (t + 31622400000) 1
  have b := term_lip ⟨55536, 169777090, 5475557111112⟩ t (t + 31622400000) 2
  rw [uA_diff] at a b
  have ed : ((t + 31622400000 - t : Int) : Rat) = 31622400000 := by rw [show t + 31622400000 - t = 31622400000 by omega]; rfl
  rw [ed] at a b
  have na : rabs (((2737778555556 : Int) : Rat) * 31622400000 * (1 / 86400000000000) - ((1 : Int) : Rat) * 1000000000) ≤ 2030000 := by decide +kernel
  have nb : rabs (((5475557111112 : Int) : Rat) * 31622400000 * (1 / 86400000000000) - ((2 : Int) : Rat) * 1000000000) ≤ 4060000 := by decide +kernel
  have a := rabs_le.1 (mul_rabs (a := ((5318339 : Int) : Rat)) (A := 5318339) (by decide +kernel) a)
  have b := rabs_le.1 (mul_rabs (a := ((55536 : Int) : Rat)) (A := 55536) (by decide +kernel) b)
  have ex : ∀ i, xAt sunL i sunL.length = ((5318339 : Int) : Rat) * S (tq * partA ⟨5318339, 84888545, 2737778555556⟩ i) + ((55536 : Int) : Rat) * S (tq * partA ⟨55536, 169777090, 5475557111112⟩ i) := by
    intro i
    show 0 + termX i ⟨5318339, 84888545, 2737778555556⟩ + termX i ⟨55536, 169777090, 5475557111112⟩ = _
    rw [termX_tq, termX_tq]
    grind
  rw [ex] at x1 x2 y1 y2
  have e : ((775342092 : Int) : Rat) = 775342092 := rfl
  have e2 : ((2000 : Int) : Rat) = 2000 := rfl
  rw [e, e2] at x1 x2 y1 y2
  refine Rat.intCast_le_intCast.1 ?_
  unfold sL lfLo
  push_cast at g1 g2 g3 g4
  push_cast
  generalize S (tq * partA ⟨5318339, 84888545, 2737778555556⟩ t) = a1 at *
  generalize S (tq * partA ⟨5318339, 84888545, 2737778555556⟩ (t + 31622400000)) = a2 at *
  generalize S (tq * partA ⟨55536, 169777090, 5475557111112⟩ t) = b1 at *
  generalize S (tq * partA ⟨55536, 169777090, 5475557111112⟩ (t + 31622400000)) = b2 at *
  generalize rabs (((2737778555556 : Int) : Rat) * 31622400000 * (1 / 86400000000000) - ((1 : Int) : Rat) * 1000000000) = na' at *
  generalize rabs (((5475557111112 : Int) : Rat) * 31622400000 * (1 / 86400000000000) - ((2 : Int) : Rat) * 1000000000) = nb' at *
  generalize (valLo 775342092 sunL 2000 t : Rat) = v1 at *
  generalize (valLo 775342092 sunL 2000 (t + 31622400000) : Rat) = v2 at *
  push_cast at a b x1 x2 y1 y2
  grind
def sunSide (tg x : Int) : Int := sideV (sunLo x) (sunHi x) tg
theorem side_sun {x T tg : Int} (hT : T % 1000000000 = tg % 1000000000) (h1 : -400000000 < sL x - T) (h2 : sL x - T < 400000000) : sunSide tg x = if sH x < T then -1 else if sL x ≤ T then 0 else 1 := by
  obtain ⟨a, b⟩ := sun_lift x
  have := sun_wd x
  exact side_lift a b hT h1 h2 (by omega) (by omega)
/-- How far the reference's longitude is ahead of a target. -/
theorem sun_ahead {x T tg m : Int} (hm : SLon x m) (hT : T % 1000000000 = tg % 1000000000) (h1 : -400000000 < sL x - T) (h2 : sL x - T < 400000000) :
    (sL x - T) * 1048576 - 2000 ≤ (m - tg * 1048576 + 524288000000000) % 1048576000000000 - 524288000000000 ∧ (m - tg * 1048576 + 524288000000000) % 1048576000000000 - 524288000000000 ≤ (sH x - T) * 1048576 + 2000 := by
  obtain ⟨a, b⟩ := sun_lift x
  have w := sun_wd x
  obtain ⟨f0, f1, f2, f3, f4, f5, f6⟩ := sun_facts x
  obtain ⟨n, n1, n2, rfl⟩ := hm
  have k0 := Int.emod_nonneg (sunW x - 2000 * 1048576 - sunLo x * 1048576 + 2000) (show (1048576000000000 : Int) ≠ 0 by omega)
  obtain ⟨K, hK⟩ : ∃ K, K = (sunW x - 2000 * 1048576 - sunLo x * 1048576 + 2000) % 1048576000000000 := ⟨_, rfl⟩
  rw [← hK] at f2 k0
  have e : ((sunW x + 250 * n * 1048576) % 1048576000000000 - tg * 1048576 + 524288000000000) % 1048576000000000 = ((sL x - T) * 1048576 + (2000 + 250 * n) * 1048576 - 2000 + K + 524288000000000) % 1048576000000000 := by
    have q1 := Int.emod_add_mul_ediv (sL x) 1000000000
    have q2 := Int.emod_add_mul_ediv T 1000000000
    have q3 := Int.emod_add_mul_ediv tg 1000000000
    omega
  rw [e, Int.emod_eq_of_lt (by omega) (by omega)]
  constructor <;> omega
/-- The bounds between which a passage is looked for. -/
def seaLo (t wait : Int) : Int := max t (t + wait - 691200000)
def seaHi (t wait : Int) : Int := t + wait + 691200000
structure SeaOk (tg t wait T : Int) (r : NarR) : Prop where
  tt : T % 1000000000 = tg
  t0 : 0 ≤ T - sL t
  t1 : T - sL t < 1000000000
  ok : NarOk (sunSide tg) 600000 (seaLo t wait) (seaHi t wait) r
  is : r.is = true
  lo : sH r.lo < T
  lo4 : T - 400000000 < sL r.lo
  hi : T < sL r.hi
  hi4 : sL r.hi < T + 400000000
  yr : r.lo < t + 31622400000
  far : t + 25920000000 ≤ r.lo → 700000000 ≤ T - sL t
  und : ∀ x y, seaLo t wait ≤ x → y ≤ seaHi t wait → x + 132000 ≤ y → sunSide tg x ≠ -1 → sunSide tg y = 1
theorem sea_ok {tg t M wait : Int} (h0 : 0 ≤ tg) (h1 : tg < 1000000000) (hM : M = (tg - sunLo t) % 1000000000) (hs : sunSide tg t ≠ 0) (w1 : 864000000 * M - 54758186 ≤ 27379093 * wait) (w2 : 27379093 * wait ≤ 864000000 * M + 54758186) :
    SeaOk tg t wait (sL t + M) (narF (sunSide tg) 600000 62 (seaLo t wait) (seaHi t wait)) := by
  have m0 : 0 ≤ M := by rw [hM]; exact Int.emod_nonneg _ (by omega)
  have m1 : M < 1000000000 := by rw [hM]; exact Int.emod_lt_of_pos _ (by omega)
  have hT : (sL t + M) % 1000000000 = tg := by
    rw [(sun_lift t).1] at hM
    omega
  have hT' : (sL t + M) % 1000000000 = tg % 1000000000 := by omega
  have mt := sun_mean t
  have near : ∀ x, t ≤ x → t + wait - 691200000 ≤ x → x ≤ t + wait + 691200000 → -400000000 < sL x - (sL t + M) ∧ sL x - (sL t + M) < 400000000 := by
    intro x hx h3 h4
    have mx := sun_mean x
    constructor <;> omega
  have lo0 : seaLo t wait = t ∨ (seaLo t wait = t + wait - 691200000 ∧ t ≤ t + wait - 691200000) := by unfold seaLo; omega
  have lo1 : t ≤ seaLo t wait ∧ t + wait - 691200000 ≤ seaLo t wait := by unfold seaLo; omega
  have hi1 : seaHi t wait = t + wait + 691200000 := rfl
  have slo : sunSide tg (seaLo t wait) = -1 := by
    rcases lo0 with e | ⟨e, h⟩
    · have hw : wait ≤ 691200000 := by unfold seaLo at e; omega
      have hq := side_sun hT' (x := t) (by omega) (by omega)
      rw [e]
      rw [hq] at hs ⊢
      by_cases c : sH t < sL t + M
      · rw [if_pos c]
      · rw [if_neg c, if_pos (by omega)] at hs
        exact absurd rfl hs
    · rw [e]
      obtain ⟨n1, n2⟩ := near (t + wait - 691200000) h (by omega) (by omega)
      have mx := sun_mean (t + wait - 691200000)
      have wx := sun_wd (t + wait - 691200000)
      rw [side_sun hT' n1 n2, if_pos (by omega)]
  have hlt : seaLo t wait < seaHi t wait := by unfold seaLo seaHi; omega
  have shi : sunSide tg (seaHi t wait) = 1 := by
    obtain ⟨n1, n2⟩ := near (seaHi t wait) (by omega) (by omega) (by omega)
    have mx := sun_mean (seaHi t wait)
    have wx := sun_wd (seaHi t wait)
    rw [side_sun hT' n1 n2, if_neg (by omega), if_neg (by omega)]
  have hsz : seaHi t wait - seaLo t wait ≤ 2 ^ 62 := by
    rw [show (2 : Int) ^ 62 = 4611686018427387904 from rfl]; omega
  have hund : ∀ x y, seaLo t wait ≤ x → y ≤ seaHi t wait → x + 132000 ≤ y → sunSide tg x ≠ -1 → sunSide tg y = 1 := by
    intro x y h1 h2 h3 h4
    obtain ⟨n1, n2⟩ := near x (by omega) (by omega) (by omega)
    obtain ⟨n3, n4⟩ := near y (by omega) (by omega) (by omega)
    have g := sun_grow (x := x) (y := y) (by omega)
    have wx := sun_wd x
    have wy := sun_wd y
    have hx : ¬ sH x < sL t + M := by
      intro c
      rw [side_sun hT' n1 n2, if_pos c] at h4
      exact h4 rfl
    rw [side_sun hT' n3 n4, if_neg (by omega), if_neg (by omega)]
  obtain ⟨ok, is⟩ := narF_all (s := sunSide tg) (width := 600000) (by omega) 62 (seaLo t wait) (seaHi t wait) hlt hsz hsz slo shi
  have is := is 132000 hund (by omega) (by omega)
  generalize narF (sunSide tg) 600000 62 (seaLo t wait) (seaHi t wait) = r at *
  have oa := ok.a
  have ob := ok.b
  have oc := ok.c
  have om := ok.m
  have op := ok.p
  obtain ⟨n1, n2⟩ := near r.lo (by omega) (by omega) (by omega)
  obtain ⟨n3, n4⟩ := near r.hi (by omega) (by omega) (by omega)
  have clo : sH r.lo < sL t + M := by
    rw [side_sun hT' n1 n2] at om
    by_cases c : sH r.lo < sL t + M
    · exact c
    · rw [if_neg c] at om
      split at om <;> omega
  have chi : sL t + M < sL r.hi := by
    rw [side_sun hT' n3 n4] at op
    by_cases c : sH r.hi < sL t + M
    · rw [if_pos c] at op; omega
    · rw [if_neg c] at op
      split at op <;> omega
  refine ⟨hT, by omega, by omega, ok, is, clo, by omega, chi, by omega, ?_, ?_, hund⟩
  · by_cases c : r.lo < t + 31622400000
    · exact c
    · have g := sun_grow (x := t + 31622400000) (y := r.lo) (by omega)
      have y := sun_year t
      have wx := sun_wd r.lo
      omega
  · intro h
    omega
end Go.Proofs.YtplhegjgkmabiaaDoor
