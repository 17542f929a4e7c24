/- Two seasons in a row; the sun's declination at their beginnings. No program in sight. -/
import Derived.Test.YtmjdcabniefifaaDoorSdA
import Derived.Test.YtmjdcabniefifaaDoorSnA
set_option linter.unusedVariables false
set_option linter.unusedSimpArgs false
namespace Go.Proofs.YtmjdcabniefifaaDoor
open Ieee
def wantQ (q : Int) : Int := if q = 1 then 65109000 else if q = 3 then -65109000 else 0
def wantZ (q : Int) : Rat := if q = 1 then se9 else if q = 3 then -se9 else 0
theorem want_num : rabs (S (tq * ((65124001 : Int) : Rat)) - se9 - 865 / 10000000) ≤ 5 / 10000000 ∧ rabs (S (tq * ((65093999 : Int) : Rat)) - se9 + 865 / 10000000) ≤ 5 / 10000000 ∧ rabs (S (tq * ((-65124001 : Int) : Rat)) + se9 + 865 / 10000000) ≤ 5 / 10000000 ∧ rabs (S (tq * ((-65093999 : Int) : Rat)) + se9 - 865 / 10000000) ≤ 5 / 10000000 ∧ 9 / 100000 ≤ S (tq * ((15001 : Int) : Rat)) ∧ S (tq * ((-15001 : Int) : Rat)) ≤ -(9 / 100000) := by decide +kernel
theorem want_up {q : Int} (q0 : 0 ≤ q) (q1 : q ≤ 3) : wantZ q + 860 / 10000000 ≤ S (tq * ((wantQ q + 15001 : Int) : Rat)) ∧ S (tq * ((wantQ q - 15001 : Int) : Rat)) ≤ wantZ q - 860 / 10000000 := by
  obtain ⟨h1, h2, h3, h4, h5, h6⟩ := want_num
  have h1 := rabs_le.1 h1
  have h2 := rabs_le.1 h2
  have h3 := rabs_le.1 h3
  have h4 := rabs_le.1 h4
  rcases (show q = 0 ∨ q = 1 ∨ q = 2 ∨ q = 3 by omega) with rfl | rfl | rfl | rfl
  · rw [show wantQ 0 + 15001 = 15001 from rfl, show wantQ 0 - 15001 = -15001 from rfl, show wantZ 0 = 0 from rfl]
    constructor <;> grind
  · rw [show wantQ 1 + 15001 = 65124001 from rfl, show wantQ 1 - 15001 = 65093999 from rfl, show wantZ 1 = se9 from rfl]
    constructor <;> grind
  · rw [show wantQ 2 + 15001 = 15001 from rfl, show wantQ 2 - 15001 = -15001 from rfl, show wantZ 2 = 0 from rfl]
    constructor <;> grind
  · rw [show wantQ 3 + 15001 = -65093999 from rfl, show wantQ 3 - 15001 = -65124001 from rfl, show wantZ 3 = -se9 from rfl]
    constructor <;> grind
theorem quarter_num : rabs (siU 0) ≤ 1 / 1000000000 ∧ rabs (siU 250000000 - 1) ≤ 1 / 1000000000 ∧ rabs (siU 500000000) ≤ 1 / 1000000000 ∧ rabs (siU 750000000 + 1) ≤ 1 / 1000000000 := by decide +kernel
theorem quarter_z {q : Int} {s : Rat} (q0 : 0 ≤ q) (q1 : q ≤ 3) (h : rabs (siU (q * 250000000) - s) ≤ 1240 / 10000000) : rabs (s * se9 - wantZ q) ≤ 495 / 10000000 := by
  obtain ⟨h1, h2, h3, h4⟩ := quarter_num
  obtain ⟨t1, t2, -, -⟩ := tilt_num
  have s1 : rabs se9 ≤ 3977763376 / 10000000000 := rabs_le.2 ⟨by grind, by grind⟩
  have h := rabs_le.1 h
  have h1 := rabs_le.1 h1
  have h2 := rabs_le.1 h2
  have h3 := rabs_le.1 h3
  have h4 := rabs_le.1 h4
  obtain ⟨v, hv, hz⟩ : ∃ v : Rat, rabs (s - v) ≤ 1241 / 10000000 ∧ wantZ q = v * se9 := by
    rcases (show q = 0 ∨ q = 1 ∨ q = 2 ∨ q = 3 by omega) with rfl | rfl | rfl | rfl
    · refine ⟨0, rabs_le.2 ⟨?_, ?_⟩, ?_⟩
      · rw [show (0 : Int) * 250000000 = 0 from rfl] at h; grind
      · rw [show (0 : Int) * 250000000 = 0 from rfl] at h; grind
      · rw [show wantZ 0 = 0 from rfl]; grind
    · refine ⟨1, rabs_le.2 ⟨?_, ?_⟩, ?_⟩
      · rw [show (1 : Int) * 250000000 = 250000000 from rfl] at h; grind
      · rw [show (1 : Int) * 250000000 = 250000000 from rfl] at h; grind
      · rw [show wantZ 1 = se9 from rfl]; grind
    · refine ⟨0, rabs_le.2 ⟨?_, ?_⟩, ?_⟩
      · rw [show (2 : Int) * 250000000 = 500000000 from rfl] at h; grind
      · rw [show (2 : Int) * 250000000 = 500000000 from rfl] at h; grind
      · rw [show wantZ 2 = 0 from rfl]; grind
    · refine ⟨-1, rabs_le.2 ⟨?_, ?_⟩, ?_⟩
      · rw [show (3 : Int) * 250000000 = 750000000 from rfl] at h; grind
      · rw [show (3 : Int) * 250000000 = 750000000 from rfl] at h; grind
      · rw [show wantZ 3 = -se9 from rfl]; grind
  rw [hz, show s * se9 - v * se9 = (s - v) * se9 by grind]
  exact Rat.le_trans (mul_rabs hv s1) (by decide +kernel)
/-- The declination where the longitude is short of a quarter by at most 19700 units. -/
theorem tsn_dec {t T q : Int} (q0 : 0 ≤ q) (q1 : q ≤ 3) (hT : T % 1000000000 = q * 250000000 % 1000000000) (h1 : T - 19700 ≤ sL t) (h2 : sL t ≤ T) : sdeLo t ≤ wantQ q + 15000 ∧ wantQ q - 15000 ≤ sdeHi t := by
  obtain ⟨el, -⟩ := sun_lift t
  obtain ⟨f0, f1, -, -, -, -, f6⟩ := sun_facts t
  have F0 := icast f0
  have F1 := icast (show sunLo t ≤ 1000000000 by omega)
  have F6 := icast f6
  have c0 : ((0 : Int) : Rat) = 0 := rfl
  have cB : ((1000000000 : Int) : Rat) = 1000000000 := rfl
  rw [c0] at F0
  rw [cB] at F1
  have z0 : ((0 : Int) : Rat) * 1000000000 = 0 := by decide +kernel
  have p : Pt (sunLo t) (sunHi t) 0 0 ((sunLo t : Int) : Rat) 0 := ⟨f6, by decide, ⟨F0, F1⟩, ⟨by decide +kernel, by decide +kernel⟩, ⟨0, by rw [z0]; grind, by rw [z0]; grind⟩, ⟨0, by decide +kernel, by decide +kernel⟩⟩
  obtain ⟨-, -, i1, i2⟩ := eq_in p
  have eZ : pZ ((sunLo t : Int) : Rat) 0 = siU (sunLo t) * se9 := by
    unfold pZ
    rw [sc_zero.1, sc_zero.2]
    have e : siU (sunLo t) = S (tq * ((sunLo t : Int) : Rat)) := by
      unfold siU; rw [angU_tq, Int.emod_eq_of_lt f0 f1]
    rw [e]
    grind
  have es : siU (sunLo t) = siU (sL t) := siU_eq (k := -(sL t / 1000000000)) (by omega)
  have eq : siU T = siU (q * 250000000) := siU_eq (k := T / 1000000000 - q * 250000000 / 1000000000) (by omega)
  have li := siU_lip h2
  have ld : ((T - sL t : Int) : Rat) ≤ 19700 := icast (show T - sL t ≤ 19700 by omega)
  have hz := quarter_z (q := q) (s := siU (sunLo t)) q0 q1 (by
    rw [es, ← eq]
    exact Rat.le_trans li (by grind))
  rw [← eZ] at hz
  have hz := rabs_le.1 hz
  obtain ⟨w1, w2⟩ := want_up q0 q1
  have bw : wantZ q ≤ 1/2 ∧ -(1/2) ≤ wantZ q := by
    obtain ⟨t1, t2, -, -⟩ := tilt_num
    rcases (show q = 0 ∨ q = 1 ∨ q = 2 ∨ q = 3 by omega) with rfl | rfl | rfl | rfl
    · rw [show wantZ 0 = 0 from rfl]; decide +kernel
    · rw [show wantZ 1 = se9 from rfl]; constructor <;> grind
    · rw [show wantZ 2 = 0 from rfl]; decide +kernel
    · rw [show wantZ 3 = -se9 from rfl]; constructor <;> grind
  have bq : -65109000 ≤ wantQ q ∧ wantQ q ≤ 65109000 := by
    rcases (show q = 0 ∨ q = 1 ∨ q = 2 ∨ q = 3 by omega) with rfl | rfl | rfl | rfl <;> decide
  have cn : ((-1000000000 : Int) : Rat) = -1000000000 := rfl
  have cl : ∀ a : Int, cl9 a = a ∨ (cl9 a = -1000000000 ∧ a ≤ -1000000000) ∨ (cl9 a = 1000000000 ∧ 1000000000 ≤ a) := by intro a; unfold cl9; omega
  constructor
  · have h := as_low (eqZ0 (sunLo t) (sunHi t) 0 0) (z := pZ ((sunLo t : Int) : Rat) 0 + 1 / 1000000000) (by
      rcases cl (eqZ0 (sunLo t) (sunHi t) 0 0) with h | ⟨h, g⟩ | ⟨h, g⟩
      · rw [h]; grind
      · rw [h, cn]; grind
      · rw [h, cB]
        have g := icast g
        rw [cB] at g; grind)
    obtain ⟨b1, b2, -, -, -⟩ := as_bounds (eqZ0 (sunLo t) (sunHi t) 0 0)
    rw [show asLo (eqZ0 (sunLo t) (sunHi t) 0 0) = sdeLo t from rfl] at h b1 b2
    by_cases c : sdeLo t ≤ wantQ q + 15000
    · exact c
    · exfalso
      have st := rabs_le.1 (siU_tq b1 b2)
      have r1 := tq_rng b1 b2
      have r2 := tq_rng (a := wantQ q + 15001) (by omega) (by omega)
      have mono := sin_mono (tq_le (icast (show wantQ q + 15001 ≤ sdeLo t by omega))) (by grind) (by grind)
      clear cl i1 i2 F0 F1 F6 el li ld
      grind
  · have h := as_high (eqZ1 (sunLo t) (sunHi t) 0 0) (z := pZ ((sunLo t : Int) : Rat) 0 - 1 / 1000000000) (by
      rcases cl (eqZ1 (sunLo t) (sunHi t) 0 0) with h | ⟨h, g⟩ | ⟨h, g⟩
      · rw [h]; grind
      · rw [h, cn]
        have g := icast g
        rw [cn] at g; grind
      · rw [h, cB]; grind)
    obtain ⟨-, -, b1, b2, -⟩ := as_bounds (eqZ1 (sunLo t) (sunHi t) 0 0)
    rw [show asHi (eqZ1 (sunLo t) (sunHi t) 0 0) = sdeHi t from rfl] at h b1 b2
    by_cases c : wantQ q - 15000 ≤ sdeHi t
    · exact c
    · exfalso
      have st := rabs_le.1 (siU_tq b1 b2)
      have r1 := tq_rng b1 b2
      have r2 := tq_rng (a := wantQ q - 15001) (by omega) (by omega)
      have mono := sin_mono (tq_le (icast (show sdeHi t ≤ wantQ q - 15001 by omega))) (by grind) (by grind)
      clear cl i1 i2 F0 F1 F6 el li ld
      grind
/-- What is known of a season and of the one behind it. -/
structure TsnOk (q y : Int) : Prop where
  dec1 : sdeLo (seR q y).lo ≤ wantQ q + 15000
  dec2 : wantQ q - 15000 ≤ sdeHi (seR q y).lo
  i1 : -300000000000000 ≤ (seR q y).lo
  i2 : (seR q y).lo ≤ (seR q y).hi
  i3 : (seR q y).hi ≤ 300000000000000
  side : sunSide ((q + 1) % 4 * 250000000) (seR q y).hi ≠ 0
  nlo : 7603200000 < (snR ((q + 1) % 4 * 250000000) (seR q y).hi).lo - (seR q y).hi
  nhi : (snR ((q + 1) % 4 * 250000000) (seR q y).hi).hi - (seR q y).lo < 8208000000
  nle : (snR ((q + 1) % 4 * 250000000) (seR q y).hi).lo ≤ (snR ((q + 1) % 4 * 250000000) (seR q y).hi).hi
theorem tsn_ok {q y : Int} (q0 : 0 ≤ q) (q1 : q ≤ 3) (y0 : -9000 ≤ y) (y1 : y ≤ 9000) : TsnOk q y := by
  suffices key : ∀ R p, R = seR q y → p = (q + 1) % 4 * 250000000 → sdeLo R.lo ≤ wantQ q + 15000 ∧ wantQ q - 15000 ≤ sdeHi R.lo ∧ -300000000000000 ≤ R.lo ∧ R.lo ≤ R.hi ∧ R.hi ≤ 300000000000000 ∧ sunSide p R.hi ≠ 0 ∧ 7603200000 < (snR p R.hi).lo - R.hi ∧ (snR p R.hi).hi - R.lo < 8208000000 ∧ (snR p R.hi).lo ≤ (snR p R.hi).hi by
    obtain ⟨k1, k2, k3, k4, k5, k6, k7, k8, k9⟩ := key _ _ rfl rfl
    exact ⟨k1, k2, k3, k4, k5, k6, k7, k8, k9⟩
  intro R p hR hp
  have h := seR_ok (y := y) (q := q) (by omega) (by omega) q0 q1
  have n := nyD_bd y
  rw [← hR] at h
  clear hR
  generalize sL (nyD y * 86400000) + snM (q * 250000000) (nyD y * 86400000) = T at *
  generalize nyD y = d at *
  have ha := h.a
  have hb := h.b
  have hc := h.c
  have hw := h.w
  have hlo := h.lo
  have hhi := h.hi
  have htt := h.tt
  have g := sun_grow (x := R.lo) (y := R.hi) (by omega)
  have wl := sun_wd R.lo
  have wh := sun_wd R.hi
  obtain ⟨d1, d2⟩ := tsn_dec (t := R.lo) (T := T) q0 q1 htt (by omega) (by omega)
  have hT' : (T + 250000000) % 1000000000 = p % 1000000000 := by omega
  have hs : sunSide p R.hi ≠ 0 := by
    rw [side_sun hT' (by omega) (by omega), if_pos (by omega)]
    decide
  have hn := snR_ok (tg := p) (t := R.hi) (by omega) (by omega) hs
  have k1 := hn.tt
  have k2 := hn.t0
  have k3 := hn.t1
  generalize sL R.hi + snM p R.hi = T2 at *
  have eT : T2 = T + 250000000 := by omega
  have na := hn.ok.a
  have nb := hn.ok.b
  have nw := hn.ok.w hn.is
  have nlo := hn.lo
  have nhi := hn.hi
  generalize snR p R.hi = N at *
  have nl : R.hi ≤ N.lo := by unfold seaLo at na; omega
  have ga := sun_grow (x := R.lo) (y := N.hi) (by omega)
  have gb := sun_grow (x := R.hi) (y := N.lo) (by omega)
  have wn := sun_wd N.lo
  exact ⟨d1, d2, by omega, by omega, by omega, hs, by omega, by omega, by omega⟩
end Go.Proofs.YtmjdcabniefifaaDoor
