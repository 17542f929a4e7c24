/- The elongation of the moon between two instants; the phases. No program in sight. Contracts of phase.Number and phaseWorks; the walks through the laws PhaseFinds and PhaseNumbers. Contracts of the reference's InstantErr, by cases. The contract of phaseWorks; the walk through the law PhaseNumbers. Narrower intervals of seasons and phases. No program in sight. -/
import Derived.Test.YtcgnhnmigmdalaaGreatDoorSdA
import Derived.Deep.RegionHeld3
import Derived.Test.YtcgnhnmigmdalaaGreatDoorWalkSva
set_option linter.unusedVariables false
set_option linter.unusedSimpArgs false
namespace Go.Proofs.YtcgnhnmigmdalaaGreatDoor
section
open Ieee
def mL (t : Int) : Int := lfLo 392048814 36601101305556 moonL 20000 t
def mH (t : Int) : Int := lfHi 392048814 36601101305556 moonL 20000 t
theorem moon_lift (t : Int) : moonLo t = mL t % 1000000000 ∧ moonHi t - moonLo t = mH t - mL t := lf_ang _ _ _ _ _
theorem moon_wdL (t : Int) : 40000 ≤ mH t - mL t ∧ mH t - mL t ≤ 40003 := lf_width (i := t) (sumOk_of moon_e)
theorem moon_aR : aR moonL moonL.length * (628320 / 100000000000000) ≤ 5886700000000 ∧ aS moonL moonL.length * (2 / 100000000) ≤ 9 / 10 ∧ aS moonL moonL.length * (1 + 1 / 100000000) ≤ 24261615 := by decide +kernel
theorem moon_grow {x y : Int} (h : x ≤ y) : 30714 * (y - x) - 259200 ≤ 86400 * (mL y - mL x) := by
  obtain ⟨g1, g2⟩ := lf_grow (m := 392048814) (r := 36601101305556) (l := moonL) (s := 20000) (L := 5886700000000) (sumOk_of moon_e) h moon_aR.1 moon_aR.2.1
  have p : (0 : Rat) ≤ ((y - x : Int) : Rat) := by exact_mod_cast (show 0 ≤ y - x by omega)
  have e : ((36601101305556 : Int) : Rat) = 36601101305556 := rfl
  rw [e] at g1 g2
  change _ ≤ ((mL y - mL x : Int) : Rat) at g1
  generalize y - x = d at *
  generalize mL y - mL x = D at *
  refine Rat.intCast_le_intCast.1 ?_
  push_cast
  grind
theorem moon_mean (t : Int) : 36601101305556 * t + (392048814 - 24261615 - 20003) * 86400000000000 ≤ 86400000000000 * mL t ∧ 86400000000000 * mL t ≤ 36601101305556 * t + (392048814 + 24261615 - 19999) * 86400000000000 := by
  obtain ⟨g1, g2⟩ := lf_mean (m := 392048814) (r := 36601101305556) (l := moonL) (s := 20000) (i := t) (A := 24261615) (sumOk_of moon_e) moon_aR.2.2
  have e : ((392048814 : Int) : Rat) = 392048814 := rfl
  have e2 : ((20000 : Int) : Rat) = 20000 := rfl
  rw [e, e2] at g1 g2
  change _ ≤ ((mL t : Int) : Rat) at g1
  change ((mL t : Int) : Rat) ≤ _ at g2
  push_cast at g1 g2
  generalize mL t = D at *
  constructor
  · refine Rat.intCast_le_intCast.1 ?_
    push_cast
    grind
  · refine Rat.intCast_le_intCast.1 ?_
    push_cast
    grind
def eL (t : Int) : Int := mL t - sH t
def eH (t : Int) : Int := mH t - sL t
theorem el_lift (t : Int) : elLo t = eL t % 1000000000 ∧ elHi t - elLo t = eH t - eL t := by
  obtain ⟨a, b⟩ := sun_lift t
  obtain ⟨c, d⟩ := moon_lift t
  unfold elLo elHi eL eH elLo
  constructor <;> omega
theorem el_wd (t : Int) : 44000 ≤ eH t - eL t ∧ eH t - eL t ≤ 44006 := by
  have a := sun_wd t
  have b := moon_wdL t
  unfold eL eH
  omega
theorem el_grow {x y : Int} (h : x ≤ y) : 27882 * (y - x) - 864000 ≤ 86400 * (eL y - eL x) := by
  have a := sun_grow h
  have b := moon_grow h
  have c := sun_wd x
  have d := sun_wd y
  unfold eL
  omega
theorem el_mean (t : Int) : 33863191972223 * t + (-383293278 - 29700000) * 86400000000000 ≤ 86400000000000 * eL t ∧ 86400000000000 * eL t ≤ 33863191972223 * t + (-383293278 + 29700000) * 86400000000000 := by
  have a := sun_mean t
  have b := moon_mean t
  have c := sun_wd t
  unfold eL
  omega
theorem side_el {x T tg : Int} (hT : T % 1000000000 = tg % 1000000000) (h1 : -400000000 < eL x - T) (h2 : eL x - T < 400000000) : elSide tg x = if eH x < T then -1 else if eL x ≤ T then 0 else 1 := by
  obtain ⟨a, b⟩ := el_lift x
  have := el_wd x
  exact side_lift a b hT h1 h2 (by omega) (by omega)
/-- The mean elongation at the middle, in whole turns. -/
def phT (n q : Int) : Int := n * 1000000000 + q * 250000000
theorem ph_mid {n q : Int} (n0 : -100000 ≤ n) (n1 : n ≤ 100000) (q0 : 0 ≤ q) (q1 : q ≤ 3) {x : Int} (h1 : phMid n q - 172800000 ≤ x) (h2 : x ≤ phMid n q + 172800000) :
    86400000000000 * (phT n q - 29800000) + 33863191972223 * (x - phMid n q) ≤ 86400000000000 * eL x ∧ 86400000000000 * eL x ≤ 86400000000000 * (phT n q + 29800000) + 33863191972223 * (x - phMid n q) := by
  have m := el_mean x
  unfold phT phMid at *
  constructor <;> omega
structure PhOk (n q : Int) (r : NarR) : Prop where
  tt : phT n q % 1000000000 = q * 250000000
  a : phMid n q - 172800000 < r.lo
  b : r.lo < r.hi
  c : r.hi < phMid n q + 172800000
  w : r.hi - r.lo ≤ 600000
  lo : eH r.lo < phT n q
  lo4 : phT n q - 400000000 < eL r.lo
  hi : phT n q < eL r.hi
  hi4 : eL r.hi < phT n q + 400000000
  und : ∀ x y, phMid n q - 172800000 ≤ x → y ≤ phMid n q + 172800000 → x + 137000 ≤ y → elSide (q * 250000000) x ≠ -1 → elSide (q * 250000000) y = 1
theorem phR_ok {n q : Int} (n0 : -100000 ≤ n) (n1 : n ≤ 100000) (q0 : 0 ≤ q) (q1 : q ≤ 3) : PhOk n q (phR n q) := by
  have hT : phT n q % 1000000000 = q * 250000000 := by unfold phT; omega
  have hT' : phT n q % 1000000000 = (q * 250000000) % 1000000000 := by omega
  have near : ∀ x, phMid n q - 172800000 ≤ x → x ≤ phMid n q + 172800000 → -400000000 < eL x - phT n q ∧ eL x - phT n q < 400000000 := by
    intro x h3 h4
    have mx := ph_mid n0 n1 q0 q1 h3 h4
    constructor <;> omega
  have early : ∀ x, phMid n q - 172800000 ≤ x → x ≤ phMid n q - 172800000 + 1000000 → elSide (q * 250000000) x = -1 := by
    intro x h3 h4
    obtain ⟨c1, c2⟩ := near x h3 (by omega)
    have mx := ph_mid n0 n1 q0 q1 h3 (by omega)
    have wx := el_wd x
    rw [side_el hT' c1 c2, if_pos (by omega)]
  have late : ∀ x, phMid n q + 172800000 - 1000000 ≤ x → x ≤ phMid n q + 172800000 → elSide (q * 250000000) x = 1 := by
    intro x h3 h4
    obtain ⟨c1, c2⟩ := near x (by omega) h4
    have mx := ph_mid n0 n1 q0 q1 (by omega) h4
    have wx := el_wd x
    rw [side_el hT' c1 c2, if_neg (by omega), if_neg (by omega)]
  have hsz : phMid n q + 172800000 - (phMid n q - 172800000) ≤ 2 ^ 62 := by
    rw [show (2 : Int) ^ 62 = 4611686018427387904 from rfl]; omega
  have hund : ∀ x y, phMid n q - 172800000 ≤ x → y ≤ phMid n q + 172800000 → x + 137000 ≤ y → elSide (q * 250000000) x ≠ -1 → elSide (q * 250000000) y = 1 := by
    intro x y h1 h2 h3 h4
    obtain ⟨c1, c2⟩ := near x h1 (by omega)
    obtain ⟨c3, c4⟩ := near y (by omega) h2
    have g := el_grow (x := x) (y := y) (by omega)
    have wx := el_wd x
    have wy := el_wd y
    have hx : ¬ eH x < phT n q := by
      intro c
      rw [side_el hT' c1 c2, if_pos c] at h4
      exact h4 rfl
    rw [side_el hT' c3 c4, if_neg (by omega), if_neg (by omega)]
  obtain ⟨ok, is⟩ := narF_all (s := elSide (q * 250000000)) (width := 600000) (by omega) 62 (phMid n q - 172800000) (phMid n q + 172800000) (by omega) hsz hsz (early _ (by omega) (by omega)) (late _ (by omega) (by omega))
  have is := is 137000 hund (by omega) (by omega)
  rw [show narF (elSide (q * 250000000)) 600000 62 (phMid n q - 172800000) (phMid n q + 172800000) = phR n q from rfl] at ok is
  generalize phR n q = r at *
  have oa := ok.a
  have ob := ok.b
  have oc := ok.c
  have om := ok.m
  have op := ok.p
  have ow := ok.w is
  obtain ⟨c1, c2⟩ := near r.lo (by omega) (by omega)
  obtain ⟨c3, c4⟩ := near r.hi (by omega) (by omega)
  have clo : eH r.lo < phT n q := by
    have om' := om
    rw [side_el hT' c1 c2] at om'
    by_cases c : eH r.lo < phT n q
    · exact c
    · rw [if_neg c] at om'
      split at om' <;> omega
  have chi : phT n q < eL r.hi := by
    have op' := op
    rw [side_el hT' c3 c4] at op'
    by_cases c : eH r.hi < phT n q
    · rw [if_pos c] at op'; omega
    · rw [if_neg c] at op'
      split at op' <;> omega
  have a' : phMid n q - 172800000 < r.lo := by
    by_cases c : phMid n q - 172800000 < r.lo
    · exact c
    · have := early r.hi (by omega) (by omega)
      rw [this] at op; omega
  have c' : r.hi < phMid n q + 172800000 := by
    by_cases c : r.hi < phMid n q + 172800000
    · exact c
    · have := late r.lo (by omega) (by omega)
      rw [this] at om; omega
  exact ⟨hT, a', ob, c', ow, clo, by omega, chi, by omega, hund⟩
theorem ph_has {n q X : Int} {r : NarR} (h : PhOk n q r) (x1 : phT n q - 43980 ≤ eL X) (x2 : eL X ≤ phT n q - 20) : r.lo ≤ X ∧ X ≤ r.hi := by
  have hl := h.lo
  have hh := h.hi
  constructor
  · by_cases c : r.lo ≤ X
    · exact c
    · have g := el_grow (x := X) (y := r.lo) (by omega)
      have w := el_wd r.lo
      omega
  · by_cases c : X ≤ r.hi
    · exact c
    · have g := el_grow (x := r.hi) (y := X) (by omega)
      omega
theorem ph_fix : eL 992260421 = -22002 := by decide +kernel
theorem ph_fix2 : (phR 0 0).lo ≤ 992260421 ∧ 992260421 ≤ (phR 0 0).hi := by
  have h := phR_ok (n := 0) (q := 0) (by omega) (by omega) (by omega) (by omega)
  exact ph_has h (by rw [ph_fix]; unfold phT; omega) (by rw [ph_fix]; unfold phT; omega)
end
section
open Go.RowKit
end
section
open Go.RowKit
end
section
open Go.RowKit
end
section

end
end Go.Proofs.YtcgnhnmigmdalaaGreatDoor
