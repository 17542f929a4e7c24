/- The elongation of the moon between two instants; the phases. No program in sight. Contracts of phase.Number and phaseWorks; the walks through the laws PhaseFinds and PhaseNumbers. Contracts of the reference's InstantErr, by cases. The contract of phaseWorks; the walk through the law PhaseNumbers. Narrower intervals of seasons and phases. No program in sight. -/
import Derived.Test.YtcgnhnmigmdalaaGreatDoorSdA
import Derived.Deep.RegionHeld3
import Derived.Test.YtcgnhnmigmdalaaGreatDoorWalkSva
set_option linter.unusedVariables false
set_option linter.unusedSimpArgs false
namespace Go.Proofs.YtcgnhnmigmdalaaGreatDoor
section
open Ieee
def mL (t : Int) : Int := lfLo 392048814 36601101305556 moonL 20000 t
def mH (t : Int) : Int := lfHi 392048814 36601101305556 moonL 20000 t
theorem moon_lift (t : Int) : moonLo t = mL t % 1000000000 ∧ moonHi t - moonLo t = mH t - mL t := lf_ang _ _ _ _ _
theorem moon_wdL (t : Int) : 40000 ≤ mH t - mL t ∧ mH t - mL t ≤ 40003 := lf_width (i := t) (sumOk_of moon_e)
theorem moon_aR : aR moonL moonL.length * (628320 / 100000000000000) ≤ 5886700000000 ∧ aS moonL moonL.length * (2 / 100000000) ≤ 9 / 10 ∧ aS moonL moonL.length * (1 + 1 / 100000000) ≤ 24261615 := by decide +kernel
theorem moon_grow {x y : Int} (h : x ≤ y) : 30714 * (y - x) - 259200 ≤ 86400 * (mL y - mL x) := by
  obtain ⟨g1, g2⟩ := lf_grow (m := 392048814) (r := 36601101305556) (l := moonL) (s := 20000) (L := 5886700000000) (sumOk_of moon_e) h moon_aR.1 moon_aR.2.1
  have p : (0 : Rat) ≤ ((y - x : Int) : Rat) := by exact_mod_cast (show 0 ≤ y - x by omega)
  have e : ((36601101305556 : Int) : Rat) = 36601101305556 := rfl
  rw [e] at g1 g2
  change _ ≤ ((mL y - mL x : Int) : Rat) at g1
  generalize y - x = d at *
  generalize mL y - mL x = D at *
  refine Rat.intCast_le_intCast.1 ?_
  push_cast
  grind
theorem moon_mean (t : Int) : 36601101305556 * t + (392048814 - 24261615 - 20003) * 86400000000000 ≤ 86400000000000 * mL t ∧ 86400000000000 * mL t ≤ 36601101305556 * t + (392048814 + 24261615 - 19999) * 86400000000000 := by
  obtain ⟨g1, g2⟩ := lf_mean (m := 392048814) (r := 36601101305556) (l := moonL) (s := 20000) (i := t) (A := 24261615) (sumOk_of moon_e) moon_aR.2.2
  have e : ((392048814 : Int) : Rat) = 392048814 := rfl
  have e2 : ((20000 : Int) : Rat) = 20000 := rfl
  rw [e, e2] at g1 g2
  change _ ≤ ((mL t : Int) : Rat) at g1
  change ((mL t : Int) : Rat) ≤ _ at g2
  push_cast at g1 g2
  generalize mL t = D at *
  constructor
  · refine Rat.intCast_le_intCast.1 ?_
    push_cast
    grind
  · refine Rat.intCast_le_intCast.1 ?_
    push_cast
    grind
def eL (t : Int) : Int := mL t - sH t
def eH (t : Int) : Int := mH t - sL t
theorem el_lift (t : Int) : elLo t = eL t % 1000000000 ∧ elHi t - elLo t = eH t - eL t := by
  obtain ⟨a, b⟩ := sun_lift t
  obtain ⟨c, d⟩ := moon_lift t
  unfold elLo elHi eL eH elLo
  constructor <;> omega
theorem el_wd (t : Int) : 44000 ≤ eH t - eL t ∧ eH t - eL t ≤ 44006 := by
  have a := sun_wd t
  have b := moon_wdL t
  unfold eL eH
  omega
theorem el_grow {x y : Int} (h : x ≤ y) : 27882 * (y - x) - 864000 ≤ 86400 * (eL y - eL x) := by
  have a := sun_grow h
  have b := moon_grow h
  have c := sun_wd x
  have d := sun_wd y
  unfold eL
  omega
theorem el_mean (t : Int) : 33863191972223 * t + (-383293278 - 29700000) * 86400000000000 ≤ 86400000000000 * eL t ∧ 86400000000000 * eL t ≤ 33863191972223 * t + (-383293278 + 29700000) * 86400000000000 := by
  have a := sun_mean t
  have b := moon_mean t
  have c := sun_wd t
  unfold eL
  omega
theorem side_el {x T tg : Int} (hT : T % 1000000000 = tg % 1000000000) (h1 : -400000000 < eL x - T) (h2 : eL x - T < 400000000) : elSide tg x = if eH x < T then -1 else if eL x ≤ T then 0 else 1 := by
  obtain ⟨a, b⟩ := el_lift x
  have := el_wd x
  exact side_lift a b hT h1 h2 (by omega) (by omega)
/-- How far the reference's elongation is ahead of a target. -/
theorem el_ahead {x T tg m1 m2 : Int} (hm1 : MLon x m1) (hm2 : SLon x m2) (hT : T % 1000000000 = tg % 1000000000) (h1 : -400000000 < eL x - T) (h2 : eL x - T < 400000000) :
    (eL x - T) * 1048576 - 8192 ≤ (m1 - m2 - tg * 1048576 + 524288000000000) % 1048576000000000 - 524288000000000 ∧ (m1 - m2 - tg * 1048576 + 524288000000000) % 1048576000000000 - 524288000000000 ≤ (eH x - T) * 1048576 + 8192 := by
  obtain ⟨a, b⟩ := el_lift x
  have w := el_wd x
  obtain ⟨n1, p1, p2, rfl⟩ := hm1
  obtain ⟨n2, p3, p4, rfl⟩ := hm2
  have c := el_contains x n1 n2 p1 p2 p3 p4
  generalize (moonW x + 2500 * n1 * 1048576) % 1048576000000000 = u at *
  generalize (sunW x + 250 * n2 * 1048576) % 1048576000000000 = v at *
  have k0 := Int.emod_nonneg ((u - v) % 1048576000000000 - 0 * 1048576 - elLo x * 1048576 + 8192) (show (1048576000000000 : Int) ≠ 0 by omega)
  obtain ⟨K, hK⟩ : ∃ K, K = ((u - v) % 1048576000000000 - 0 * 1048576 - elLo x * 1048576 + 8192) % 1048576000000000 := ⟨_, rfl⟩
  rw [← hK] at c k0
  have e : (u - v - tg * 1048576 + 524288000000000) % 1048576000000000 = ((eL x - T) * 1048576 - 8192 + K + 524288000000000) % 1048576000000000 := by
    have q1 := Int.emod_add_mul_ediv (eL x) 1000000000
    have q2 := Int.emod_add_mul_ediv T 1000000000
    have q3 := Int.emod_add_mul_ediv tg 1000000000
    omega
  rw [e, Int.emod_eq_of_lt (by omega) (by omega)]
  constructor <;> omega
/-- The mean elongation at the middle, in whole turns. -/
def phT (n q : Int) : Int := n * 1000000000 + q * 250000000
theorem ph_mid {n q : Int} (n0 : -100000 ≤ n) (n1 : n ≤ 100000) (q0 : 0 ≤ q) (q1 : q ≤ 3) {x : Int} (h1 : phMid n q - 172800000 ≤ x) (h2 : x ≤ phMid n q + 172800000) :
    86400000000000 * (phT n q - 29800000) + 33863191972223 * (x - phMid n q) ≤ 86400000000000 * eL x ∧ 86400000000000 * eL x ≤ 86400000000000 * (phT n q + 29800000) + 33863191972223 * (x - phMid n q) := by
  have m := el_mean x
  unfold phT phMid at *
  constructor <;> omega
structure PhOk (n q : Int) (r : NarR) : Prop where
  tt : phT n q % 1000000000 = q * 250000000
  a : phMid n q - 172800000 < r.lo
  b : r.lo < r.hi
  c : r.hi < phMid n q + 172800000
  w : r.hi - r.lo ≤ 600000
  lo : eH r.lo < phT n q
  lo4 : phT n q - 400000000 < eL r.lo
  hi : phT n q < eL r.hi
  hi4 : eL r.hi < phT n q + 400000000
  und : ∀ x y, phMid n q - 172800000 ≤ x → y ≤ phMid n q + 172800000 → x + 137000 ≤ y → elSide (q * 250000000) x ≠ -1 → elSide (q * 250000000) y = 1
theorem phR_ok {n q : Int} (n0 : -100000 ≤ n) (n1 : n ≤ 100000) (q0 : 0 ≤ q) (q1 : q ≤ 3) : PhOk n q (phR n q) := by
  have hT : phT n q % 1000000000 = q * 250000000 := by unfold phT; omega
  have hT' : phT n q % 1000000000 = (q * 250000000) % 1000000000 := by omega
  have near : ∀ x, phMid n q - 172800000 ≤ x → x ≤ phMid n q + 172800000 → -400000000 < eL x - phT n q ∧ eL x - phT n q < 400000000 := by
    intro x h3 h4
    have mx := ph_mid n0 n1 q0 q1 h3 h4
    constructor <;> omega
  have early : ∀ x, phMid n q - 172800000 ≤ x → x ≤ phMid n q - 172800000 + 1000000 → elSide (q * 250000000) x = -1 := by
    intro x h3 h4
    obtain ⟨c1, c2⟩ := near x h3 (by omega)
    have mx := ph_mid n0 n1 q0 q1 h3 (by omega)
    have wx := el_wd x
    rw [side_el hT' c1 c2, if_pos (by omega)]
  have late : ∀ x, phMid n q + 172800000 - 1000000 ≤ x → x ≤ phMid n q + 172800000 → elSide (q * 250000000) x = 1 := by
    intro x h3 h4
    obtain ⟨c1, c2⟩ := near x (by omega) h4
    have mx := ph_mid n0 n1 q0 q1 (by omega) h4
    have wx := el_wd x
    rw [side_el hT' c1 c2, if_neg (by omega), if_neg (by omega)]
  have hsz : phMid n q + 172800000 - (phMid n q - 172800000) ≤ 2 ^ 62 := by
    rw [show (2 : Int) ^ 62 = 4611686018427387904 from rfl]; omega
  have hund : ∀ x y, phMid n q - 172800000 ≤ x → y ≤ phMid n q + 172800000 → x + 137000 ≤ y → elSide (q * 250000000) x ≠ -1 → elSide (q * 250000000) y = 1 := by
    intro x y h1 h2 h3 h4
    obtain ⟨c1, c2⟩ := near x h1 (by omega)
    obtain ⟨c3, c4⟩ := near y (by omega) h2
    have g := el_grow (x := x) (y := y) (by omega)
    have wx := el_wd x
    have wy := el_wd y
    have hx : ¬ eH x < phT n q := by
      intro c
      rw [side_el hT' c1 c2, if_pos c] at h4
      exact h4 rfl
    rw [side_el hT' c3 c4, if_neg (by omega), if_neg (by omega)]
  obtain ⟨ok, is⟩ := narF_all (s := elSide (q * 250000000)) (width := 600000) (by omega) 62 (phMid n q - 172800000) (phMid n q + 172800000) (by omega) hsz hsz (early _ (by omega) (by omega)) (late _ (by omega) (by omega))
  have is := is 137000 hund (by omega) (by omega)
  rw [show narF (elSide (q * 250000000)) 600000 62 (phMid n q - 172800000) (phMid n q + 172800000) = phR n q from rfl] at ok is
  generalize phR n q = r at *
  have oa := ok.a
  have ob := ok.b
  have oc := ok.c
  have om := ok.m
  have op := ok.p
  have ow := ok.w is
  obtain ⟨c1, c2⟩ := near r.lo (by omega) (by omega)
  obtain ⟨c3, c4⟩ := near r.hi (by omega) (by omega)
  have clo : eH r.lo < phT n q := by
    have om' := om
    rw [side_el hT' c1 c2] at om'
    by_cases c : eH r.lo < phT n q
    · exact c
    · rw [if_neg c] at om'
      split at om' <;> omega
  have chi : phT n q < eL r.hi := by
    have op' := op
    rw [side_el hT' c3 c4] at op'
    by_cases c : eH r.hi < phT n q
    · rw [if_pos c] at op'; omega
    · rw [if_neg c] at op'
      split at op' <;> omega
  have a' : phMid n q - 172800000 < r.lo := by
    by_cases c : phMid n q - 172800000 < r.lo
    · exact c
    · have := early r.hi (by omega) (by omega)
      rw [this] at op; omega
  have c' : r.hi < phMid n q + 172800000 := by
    by_cases c : r.hi < phMid n q + 172800000
    · exact c
    · have := late r.lo (by omega) (by omega)
      rw [this] at om; omega
  exact ⟨hT, a', ob, c', ow, clo, by omega, chi, by omega, hund⟩
theorem ph_has {n q X : Int} {r : NarR} (h : PhOk n q r) (x1 : phT n q - 43980 ≤ eL X) (x2 : eL X ≤ phT n q - 20) : r.lo ≤ X ∧ X ≤ r.hi := by
  have hl := h.lo
  have hh := h.hi
  constructor
  · by_cases c : r.lo ≤ X
    · exact c
    · have g := el_grow (x := X) (y := r.lo) (by omega)
      have w := el_wd r.lo
      omega
  · by_cases c : X ≤ r.hi
    · exact c
    · have g := el_grow (x := r.hi) (y := X) (by omega)
      omega
theorem ph_fix : eL 992260421 = -22002 := by decide +kernel
theorem ph_fix2 : (phR 0 0).lo ≤ 992260421 ∧ 992260421 ≤ (phR 0 0).hi := by
  have h := phR_ok (n := 0) (q := 0) (by omega) (by omega) (by omega) (by omega)
  exact ph_has h (by rw [ph_fix]; unfold phT; omega) (by rw [ph_fix]; unfold phT; omega)
end
section
open Go.RowKit
/-- What phase.Number answers. -/
def NumRes (t : Int) (e : Ending) : Prop :=
  (∃ k : Int, e = .returned (.tuple #[.int .i64 k, .int .i64 0]) ∧ -99999 ≤ k ∧ k ≤ 99999 ∧ (phR k 0).hi < t ∧ t < (phR (k + 1) 0).lo) ∨
  (e = .returned (.tuple #[.int .i64 0, .int .i64 11]) ∧ ∃ i : Int, (t - 977949455) / 2551442878 - 1 ≤ i ∧ i ≤ (t - 977949455) / 2551442878 + 1 ∧ (phR i 0).lo ≤ t ∧ t ≤ (phR i 0).hi)
end
section
open Go.RowKit
theorem c_instErrT (t : Int) (w : World) (h : instB t = true) : Calls Tryz.prog 14 #[.int .i64 t] w fun e w' => e = .returned (.int .i64 0) ∧ w = w' := by
  have := c_instErr t w
  rwa [instE_of.1 h] at this
theorem c_instErrF (t : Int) (w : World) (h : instB t = false) : Calls Tryz.prog 14 #[.int .i64 t] w fun e w' => e = .returned (.int .i64 3) ∧ w = w' := by
  have := c_instErr t w
  rwa [instE_of.2 h] at this
end
section
open Go.RowKit
theorem num_fix (e : Ending) (h : NumRes 2000000000 e) : e = .returned (.tuple #[.int .i64 0, .int .i64 0]) := by
  have o0 := phR_ok (n := 0) (q := 0) (by omega) (by omega) (by omega) (by omega)
  have o1 := phR_ok (n := 1) (q := 0) (by omega) (by omega) (by omega) (by omega)
  have om := phR_ok (n := -1) (q := 0) (by omega) (by omega) (by omega) (by omega)
  have a0 := o0.c
  have a1 := o1.a
  have am := om.c
  unfold phMid at a0 a1 am
  rcases h with ⟨k, h1, h2, h3, h4, h5⟩ | ⟨h1, i, h2, h3, h4, h5⟩
  · have ok := phR_ok (n := k) (q := 0) (by omega) (by omega) (by omega) (by omega)
    have ok1 := phR_ok (n := k + 1) (q := 0) (by omega) (by omega) (by omega) (by omega)
    have c1 := ok.a
    have c2 := ok.b
    have c3 := ok1.b
    have c4 := ok1.c
    unfold phMid at c1 c4
    have : k = 0 := by omega
    rw [h1, this]
  · exfalso
    have ei : i = -1 ∨ i = 0 ∨ i = 1 := by omega
    rcases ei with rfl | rfl | rfl <;> omega
end
section
theorem sun_at_m {tg T x : Int} (hT : T % 1000000000 = tg % 1000000000) (h1 : -400000000 < sL x - T) (h2 : sL x - T < 400000000) : sunSide tg x = -1 ↔ sH x < T := by
  rw [side_sun hT h1 h2]
  by_cases c : sH x < T
  · rw [if_pos c]; exact ⟨fun _ => c, fun _ => rfl⟩
  · rw [if_neg c]
    constructor
    · intro h; split at h <;> omega
    · intro h; exact absurd h c
theorem sun_at_p {tg T x : Int} (hT : T % 1000000000 = tg % 1000000000) (h1 : -400000000 < sL x - T) (h2 : sL x - T < 400000000) : sunSide tg x = 1 ↔ T < sL x := by
  have w := sun_wd x
  rw [side_sun hT h1 h2]
  by_cases c : sH x < T
  · rw [if_pos c]; constructor <;> intro h <;> omega
  · rw [if_neg c]
    by_cases d : sL x ≤ T
    · rw [if_pos d]; constructor <;> intro h <;> omega
    · rw [if_neg d]; constructor <;> intro h <;> omega
theorem el_at_m {tg T x : Int} (hT : T % 1000000000 = tg % 1000000000) (h1 : -400000000 < eL x - T) (h2 : eL x - T < 400000000) : elSide tg x = -1 ↔ eH x < T := by
  rw [side_el hT h1 h2]
  by_cases c : eH x < T
  · rw [if_pos c]; exact ⟨fun _ => c, fun _ => rfl⟩
  · rw [if_neg c]
    constructor
    · intro h; split at h <;> omega
    · intro h; exact absurd h c
theorem el_at_p {tg T x : Int} (hT : T % 1000000000 = tg % 1000000000) (h1 : -400000000 < eL x - T) (h2 : eL x - T < 400000000) : elSide tg x = 1 ↔ T < eL x := by
  have w := el_wd x
  rw [side_el hT h1 h2]
  by_cases c : eH x < T
  · rw [if_pos c]; constructor <;> intro h <;> omega
  · rw [if_neg c]
    by_cases d : eL x ≤ T
    · rw [if_pos d]; constructor <;> intro h <;> omega
    · rw [if_neg d]; constructor <;> intro h <;> omega
/-- The narrower interval of a season. -/
def shS (q y wd : Int) : NarR := narF (sunSide (q * 250000000)) wd 62 (seR q y).lo (seR q y).hi
structure ShOk (tg T wd : Int) (r s : NarR) : Prop where
  tt : T % 1000000000 = tg % 1000000000
  a : r.lo ≤ s.lo
  b : s.lo < s.hi
  c : s.hi ≤ r.hi
  w : s.is = true → s.hi - s.lo ≤ wd
  is : 150000 ≤ wd → s.is = true
  lo : sH s.lo < T
  lo4 : T - 400000000 < sL s.lo
  hi : T < sL s.hi
  hi4 : sL s.hi < T + 400000000
theorem shS_ok {y q wd : Int} (h1 : -10000 ≤ y) (h2 : y ≤ 10000) (q0 : 0 ≤ q) (q1 : q ≤ 3) (w0 : 1 ≤ wd) :
    ShOk (q * 250000000) (sL (nyD y * 86400000) + snM (q * 250000000) (nyD y * 86400000)) wd (seR q y) (shS q y wd) := by
  have h := seR_ok h1 h2 q0 q1
  unfold shS
  generalize seR q y = r at *
  generalize sL (nyD y * 86400000) + snM (q * 250000000) (nyD y * 86400000) = T at *
  have hT := h.tt
  have hb := h.b
  have hw := h.w
  have near : ∀ x, r.lo ≤ x → x ≤ r.hi → -400000000 < sL x - T ∧ sL x - T < 400000000 := by
    intro x x1 x2
    have g := sun_grow x1
    have g2 := sun_grow x2
    have hh := h.hi
    have l := h.lo
    have w := sun_wd r.lo
    omega
  obtain ⟨a1, a2⟩ := near r.lo (by omega) (by omega)
  obtain ⟨b1, b2⟩ := near r.hi (by omega) (by omega)
  have sz : r.hi - r.lo ≤ 2 ^ 62 := by rw [show (2 : Int) ^ 62 = 4611686018427387904 from rfl]; omega
  obtain ⟨ok, is⟩ := narF_all (s := sunSide (q * 250000000)) w0 62 r.lo r.hi hb sz sz ((sun_at_m hT a1 a2).2 h.lo) ((sun_at_p hT b1 b2).2 h.hi)
  generalize narF (sunSide (q * 250000000)) wd 62 r.lo r.hi = s at *
  have oa := ok.a
  have ob := ok.b
  have oc := ok.c
  obtain ⟨c1, c2⟩ := near s.lo (by omega) (by omega)
  obtain ⟨d1, d2⟩ := near s.hi (by omega) (by omega)
  have l := (sun_at_m hT c1 c2).1 ok.m
  have p := (sun_at_p hT d1 d2).1 ok.p
  exact ⟨hT, oa, ob, oc, ok.w, fun h20 => is 132000 h.und (by omega) (by omega), l, by omega, p, by omega⟩
/-- The narrower interval of a phase. -/
def shP (n q wd : Int) : NarR := narF (elSide (q * 250000000)) wd 62 (phR n q).lo (phR n q).hi
structure ShpOk (tg T wd : Int) (r s : NarR) : Prop where
  tt : T % 1000000000 = tg % 1000000000
  a : r.lo ≤ s.lo
  b : s.lo < s.hi
  c : s.hi ≤ r.hi
  w : s.is = true → s.hi - s.lo ≤ wd
  is : 150000 ≤ wd → s.is = true
  lo : eH s.lo < T
  lo4 : T - 400000000 < eL s.lo
  hi : T < eL s.hi
  hi4 : eL s.hi < T + 400000000
theorem shP_ok {n q wd : Int} (n0 : -100000 ≤ n) (n1 : n ≤ 100000) (q0 : 0 ≤ q) (q1 : q ≤ 3) (w0 : 1 ≤ wd) : ShpOk (q * 250000000) (phT n q) wd (phR n q) (shP n q wd) := by
  have h := phR_ok n0 n1 q0 q1
  unfold shP
  generalize phR n q = r at *
  have hT : phT n q % 1000000000 = (q * 250000000) % 1000000000 := by have := h.tt; omega
  have hb := h.b
  have hw := h.w
  have ha := h.a
  have hc := h.c
  have near : ∀ x, r.lo ≤ x → x ≤ r.hi → -400000000 < eL x - phT n q ∧ eL x - phT n q < 400000000 := by
    intro x x1 x2
    have mx := ph_mid n0 n1 q0 q1 (x := x) (by omega) (by omega)
    constructor <;> omega
  obtain ⟨a1, a2⟩ := near r.lo (by omega) (by omega)
  obtain ⟨b1, b2⟩ := near r.hi (by omega) (by omega)
  have sz : r.hi - r.lo ≤ 2 ^ 62 := by rw [show (2 : Int) ^ 62 = 4611686018427387904 from rfl]; omega
  obtain ⟨ok, is⟩ := narF_all (s := elSide (q * 250000000)) w0 62 r.lo r.hi hb sz sz ((el_at_m hT a1 a2).2 h.lo) ((el_at_p hT b1 b2).2 h.hi)
  generalize narF (elSide (q * 250000000)) wd 62 r.lo r.hi = s at *
  have oa := ok.a
  have ob := ok.b
  have oc := ok.c
  obtain ⟨c1, c2⟩ := near s.lo (by omega) (by omega)
  obtain ⟨d1, d2⟩ := near s.hi (by omega) (by omega)
  have l := (el_at_m hT c1 c2).1 ok.m
  have p := (el_at_p hT d1 d2).1 ok.p
  exact ⟨hT, oa, ob, oc, ok.w, fun h20 => is 137000 (fun x y x1 x2 => h.und x y (by omega) (by omega)) (by omega) (by omega), l, by omega, p, by omega⟩
theorem sh_fix : (shS 0 2000 500000).is = true ∧ (shS 0 2000 500000).lo ≤ 63089219834394 ∧ 63089219834394 ≤ (shS 0 2000 500000).hi ∧ (shS 0 2000 500000).hi - (shS 0 2000 500000).lo ≤ 500000 := by
  obtain ⟨f1, f2, f3, f4⟩ := sea_fix
  have h := shS_ok (y := 2000) (q := 0) (wd := 500000) (by omega) (by omega) (by omega) (by omega) (by omega)
  rw [f4, show (0 : Int) * 250000000 = 0 from rfl, f1, f3] at h
  have is := h.is (by omega)
  refine ⟨is, ?_, ?_, h.w is⟩
  · by_cases c : (shS 0 2000 500000).lo ≤ 63089219834394
    · exact c
    · have g := sun_grow (x := 63089219834394) (y := (shS 0 2000 500000).lo) (by omega)
      have w := sun_wd (shS 0 2000 500000).lo
      have l := h.lo
      rw [f2] at g
      omega
  · by_cases c : 63089219834394 ≤ (shS 0 2000 500000).hi
    · exact c
    · have g := sun_grow (x := (shS 0 2000 500000).hi) (y := 63089219834394) (by omega)
      have l := h.hi
      rw [f2] at g
      omega
/-- With the width of the interval itself nothing is narrowed. -/
theorem shS_self {y q : Int} (h1 : -10000 ≤ y) (h2 : y ≤ 10000) (q0 : 0 ≤ q) (q1 : q ≤ 3) : shS q y 600000 = ⟨(seR q y).lo, (seR q y).hi, true⟩ := by
  have hw := (seR_ok h1 h2 q0 q1).w
  unfold shS
  unfold narF
  rw [if_neg (by omega)]
theorem shP_self {n q : Int} (n0 : -100000 ≤ n) (n1 : n ≤ 100000) (q0 : 0 ≤ q) (q1 : q ≤ 3) : shP n q 600000 = ⟨(phR n q).lo, (phR n q).hi, true⟩ := by
  have hw := (phR_ok n0 n1 q0 q1).w
  unfold shP
  unfold narF
  rw [if_neg (by omega)]
end
end Go.Proofs.YtcgnhnmigmdalaaGreatDoor
