/- The line of an hour on a dial. No program in sight. -/
import Derived.Test.YtjkhoepohiafeaaDoorEqA
import Derived.Test.YtjkhoepohiafeaaDoorEqB
set_option linter.unusedVariables false
set_option linter.unusedSimpArgs false
namespace Go.Proofs.YtjkhoepohiafeaaDoor
open Ieee
theorem SineOk.inU {lo hi : Int} {x : Rat} (h : SineOk lo hi x) : InU lo hi x (1 / 10000) := by
  have h1 := h.l1
  have h2 := h.h1
  unfold InU
  constructor <;> grind
theorem SineOk.sp {lo hi : Int} {x : Rat} (h : SineOk lo hi x) : Sp1 lo hi := ⟨h.o, h.b0, h.b1⟩
theorem dirW_flat {y : Int} (b1 : -9007199254740992 < y) (b2 : y < 9007199254740992) (h : y ≠ 0) : at2W (fofI y) (fofI 0) = if 0 < y then wPi2 else fneg wPi2 := by
  have ny := fofI_num y b1 b2
  have n0 := fofI_num 0 (by omega) (by omega)
  have c0 : ((0 : Int) : Rat) = 0 := rfl
  rw [c0] at n0
  have hy : ¬ (y : Rat) = 0 := fun e => h (by have : (y : Rat) = ((0 : Int) : Rat) := e; exact_mod_cast this)
  unfold at2W
  rw [eq0_num ny num_zero, eq0_num n0 num_zero, gt0_num ny num_zero, decide_eq_false hy, decide_eq_true rfl]
  by_cases p : 0 < y
  · have : (0 : Rat) < (y : Rat) := by exact_mod_cast p
    rw [decide_eq_true this, if_pos p]; rfl
  · have : ¬ (0 : Rat) < (y : Rat) := fun q => p (by exact_mod_cast q)
    rw [decide_eq_false this, if_neg p]; rfl
theorem arc_flat {y0 y1 : Int} (h : at2W (fofI y1) (fofI 0) = at2W (fofI y0) (fofI 0)) : arcLo y0 y1 0 0 = arcLo y0 y0 0 0 ∧ arcHi y0 y1 0 0 = arcHi y0 y0 0 0 := by
  have hd : dirW y1 0 = dirW y0 0 := by unfold dirW; rw [h]
  have hc : ∀ k, arcD y0 y1 0 0 k = arcD y0 y0 0 0 k := by
    intro k
    match k with
    | 0 => rfl
    | 1 => show fsub (dirW y1 0) (dirW y0 0) = fsub (dirW y0 0) (dirW y0 0); rw [hd]
    | n + 2 => show fsub (dirW y1 0) (dirW y0 0) = fsub (dirW y0 0) (dirW y0 0); rw [hd]
  have hl : ∀ k, arcLow y0 y1 0 0 k = arcLow y0 y0 0 0 k := by
    intro k
    induction k with
    | zero => rfl
    | succ k ih => show fminW _ _ = fminW _ _; rw [ih, hc]
  have hh : ∀ k, arcHigh y0 y1 0 0 k = arcHigh y0 y0 0 0 k := by
    intro k
    induction k with
    | zero => rfl
    | succ k ih => show fmaxW _ _ = fmaxW _ _; rw [ih, hc]
  unfold arcLo arcHi
  rw [hl, hh]
  exact ⟨rfl, rfl⟩
def dlC0 (h : Int) : Int := sineLo (h % 1000000000 + 250000000)
def dlC1 (h : Int) : Int := sineHi (h % 1000000000 + 250000000)
def dlY0 (lat h : Int) : Int := pLo (sineLo lat) (sineHi lat) (sineLo h) (sineHi h) 1000000000
def dlY1 (lat h : Int) : Int := pHi (sineLo lat) (sineHi lat) (sineLo h) (sineHi h) 1000000000
def dlH (hour : Int) : Int := ((hour - 12) * 1000000000).tdiv 24
def dlOne (h : Int) : Bool := decide (258000000 ≤ dlC0 h) || (decide (dlC0 h = 0) && decide (dlC1 h = 0) && decide (sineLo h = sineHi h) && (decide (sineHi h = 1000000000) || decide (sineHi h = -1000000000)))
theorem dl_hours : [6, 7, 8, 9, 10, 11, 12, 13, 14, 15, 16, 17, 18].all (fun n => dlOne (dlH n)) = true := by decide +kernel
theorem dl_hour {n : Int} (h0 : 6 ≤ n) (h1 : n ≤ 18) : dlOne (dlH n) = true := by
  have h := List.all_eq_true.1 dl_hours
  have hm : n = 6 ∨ n = 7 ∨ n = 8 ∨ n = 9 ∨ n = 10 ∨ n = 11 ∨ n = 12 ∨ n = 13 ∨ n = 14 ∨ n = 15 ∨ n = 16 ∨ n = 17 ∨ n = 18 := by omega
  rcases hm with rfl | rfl | rfl | rfl | rfl | rfl | rfl | rfl | rfl | rfl | rfl | rfl | rfl <;> exact h _ (by decide)
theorem dl_q : 627 / 10000 ≤ siU 10000000 ∧ 627 / 10000 ≤ siU 220000000 := by decide +kernel
/-- The sine of a latitude of a dial. -/
theorem dl_lat {lat : Int} (l0 : 10000000 ≤ lat) (l1 : lat ≤ 220000000) : 62000000 ≤ sineLo lat := by
  have s := (sine_bd lat).l2
  rw [show S (angU (lat % 1000000000)) = siU lat from rfl] at s
  obtain ⟨q1, q2⟩ := dl_q
  have up : (62699 : Rat) / 1000000 ≤ siU lat := by
    rcases siU_low l0 l1 (by decide) with h | h <;> grind
  have : ((62000000 : Int) : Rat) ≤ (sineLo lat : Rat) := by
    have c2 : ((62000000 : Int) : Rat) = 62000000 := rfl
    rw [c2]; grind
  exact Rat.intCast_le_intCast.1 this
theorem dl_fifty {n : Int} (h : tq * (n : Rat) ≤ 13 / 100000000) : n ≤ 50 := by
  by_cases q : n ≤ 50
  · exact q
  · exfalso
    have a := tq_le (icast (show 51 ≤ n by omega))
    have c : ((51 : Int) : Rat) = 51 := rfl
    rw [c] at a
    have b : (31 : Rat) / 100000000 ≤ tq * 51 := by decide +kernel
    grind
structure DlOkP (ya yb xa xb : Int) : Prop where
  oy : ya ≤ yb
  oc : xa ≤ xb
  y0 : -1000000000 ≤ ya
  y1 : yb ≤ 1000000000
  c0 : -1000000000 ≤ xa
  c1 : xb ≤ 1000000000
  z : ¬ (ya ≤ 0 ∧ 0 ≤ yb ∧ xa ≤ 0 ∧ 0 ≤ xb)
  w : ∀ {D0 L H : Rat} {E : Nat → Rat}, ArcV ya yb xa xb D0 E L H → arcHi ya yb xa xb - arcLo ya yb xa xb ≤ 50
abbrev DlOk (lat h : Int) : Prop := DlOkP (dlY0 lat h) (dlY1 lat h) (dlC0 h) (dlC1 h)
theorem dl_ok {lat h : Int} (l0 : 10000000 ≤ lat) (l1 : lat ≤ 220000000) (hh : dlOne h = true) : DlOk lat h := by
  show DlOkP (dlY0 lat h) (dlY1 lat h) (dlC0 h) (dlC1 h)
  have hf := dl_lat l0 l1
  have sf := (sine_bd lat)
  have ss := (sine_bd h)
  have sc := (sine_bd (h % 1000000000 + 250000000))
  have py := prod_sp sf.sp ss.sp
  have pe := prod_ends sf.sp ss.sp
  have pw := prod_wide sf.sp ss.sp (A := 1000000000) (B := 1000000000) (rabs_int (B := 1000000000) (by have := sf.b0; omega) (by have := sf.b1; have := sf.o; omega)) (rabs_int (B := 1000000000) (by have := sf.b0; have := sf.o; omega) (by have := sf.b1; omega)) (rabs_int (B := 1000000000) (by have := ss.b0; omega) (by have := ss.b1; have := ss.o; omega)) (rabs_int (B := 1000000000) (by have := ss.b0; have := ss.o; omega) (by have := ss.b1; omega))
  have fw := sf.w
  have sw := ss.w
  have cw := sc.w
  have fo := sf.o
  have fb := sf.b1
  have spc := sc.sp
  unfold dlOne at hh
  rw [show sineLo (h % 1000000000 + 250000000) = dlC0 h from rfl, show sineHi (h % 1000000000 + 250000000) = dlC1 h from rfl] at cw spc
  rw [show pLo (sineLo lat) (sineHi lat) (sineLo h) (sineHi h) 1000000000 = dlY0 lat h from rfl, show pHi (sineLo lat) (sineHi lat) (sineLo h) (sineHi h) 1000000000 = dlY1 lat h from rfl] at py pe pw
  clear sf ss sc
  generalize sineLo lat = f0 at *
  generalize sineHi lat = f1 at *
  generalize sineLo h = s0 at *
  generalize sineHi h = s1 at *
  generalize dlC0 h = c0 at *
  generalize dlC1 h = c1 at *
  have yw : dlY1 lat h - dlY0 lat h ≤ 6 := by
    have q1 : ((s1 : Rat) - s0) ≤ 2 := by have := icast sw; push_cast at this; exact this
    have q2 : ((f1 : Rat) - f0) ≤ 2 := by have := icast fw; push_cast at this; exact this
    have : ((dlY1 lat h - dlY0 lat h : Int) : Rat) < ((7 : Int) : Rat) := by
      have e : ((7 : Int) : Rat) = 7 := rfl
      rw [e]; grind
    have : dlY1 lat h - dlY0 lat h < 7 := by exact_mod_cast this
    omega
  generalize dlY0 lat h = y0 at *
  generalize dlY1 lat h = y1 at *
  clear pw
  obtain ⟨po, p0, p1⟩ := py
  obtain ⟨co, cb0, cb1⟩ := spc
  simp only [Bool.or_eq_true, Bool.and_eq_true, decide_eq_true_eq] at hh
  rcases hh with hc | ⟨⟨⟨hc0, hc1⟩, hs⟩, hv⟩
  · refine ⟨po, co, p0, p1, cb0, cb1, by omega, ?_⟩
    intro D0 L H E hv
    have box : Box y0 y1 c0 c1 258000000 (26 / 1000000000) := by
      refine ⟨by decide +kernel, by decide +kernel, by decide +kernel, ?_, ?_⟩
      · intro x y hx hy
        refine ⟨rabs_int (B := 1100000000) (by rcases hx with rfl | rfl <;> omega) (by rcases hx with rfl | rfl <;> omega), rabs_int (B := 1100000000) (by rcases hy with rfl | rfl <;> omega) (by rcases hy with rfl | rfl <;> omega), ?_⟩
        have hx' : (258000000 : Rat) ≤ (x : Rat) := by
          have : 258000000 ≤ x := by rcases hx with rfl | rfl <;> omega
          exact icast this
        have s := sq_le_sq (show (0 : Rat) ≤ 258000000 by decide +kernel) hx'
        have t : 0 ≤ (y : Rat) * y := by rw [← rabs_sq]; exact Rat.mul_nonneg (rabs_nonneg _) (rabs_nonneg _)
        grind
      · have q1 : ((c1 : Rat) - c0) ≤ 2 := by have := icast cw; push_cast at this; exact this
        have q0 : 0 ≤ ((c1 : Rat) - c0) := by have := icast co; grind
        have q3 : ((y1 : Rat) - y0) ≤ 6 := by have := icast yw; push_cast at this; exact this
        have q2 : 0 ≤ ((y1 : Rat) - y0) := by have := icast po; grind
        have s1 := sq_le_sq q0 q1
        have s2 := sq_le_sq q2 q3
        have e : (26 / 1000000000 * 258000000 : Rat) * (26 / 1000000000 * 258000000) = 44997264 / 1000000 := by decide +kernel
        rw [e]; grind
    have h := arc_wide box hv
    have e : (26 / 1000000000 : Rat) * (1004 / 1000) + 1 / 10000000 ≤ 13 / 100000000 := by decide +kernel
    exact dl_fifty (Rat.le_trans h e)
  · subst hc0 hc1
    have hs0 : s0 = s1 := hs
    subst hs0
    obtain ⟨-, ⟨a, b, ea, eb, h2⟩, ⟨c, d, ec, ed, h3⟩⟩ := pe
    have bs : b = s0 := by rcases eb with rfl | rfl <;> rfl
    have ds : d = s0 := by rcases ed with rfl | rfl <;> rfl
    subst bs
    rw [ds] at h3
    have ha : 62000000 ≤ a := by rcases ea with rfl | rfl <;> omega
    have hc : 62000000 ≤ c := by rcases ec with rfl | rfl <;> omega
    have side : 0 < y0 ∨ y1 < 0 := by
      rcases hv with rfl | rfl
      · left; omega
      · right; omega
    refine ⟨po, co, p0, p1, cb0, cb1, by omega, ?_⟩
    intro D0 L H E _
    have k0 := dirW_flat (y := y0) (by omega) (by omega) (by omega)
    have k1 := dirW_flat (y := y1) (by omega) (by omega) (by omega)
    have kk : at2W (fofI y1) (fofI 0) = at2W (fofI y0) (fofI 0) := by
      rw [k0, k1]
      rcases side with s | s
      · rw [if_pos (by omega), if_pos (by omega)]
      · rw [if_neg (by omega), if_neg (by omega)]
    obtain ⟨g1, g2⟩ := arc_flat kk
    rw [g1, g2]
    have := arc_narrow y0 0 (by omega) (by omega) (by omega) (by omega) (.inl (by omega))
    omega
/-- The reference's direction passes its test. -/
theorem dl_in {lat h : Int} (l0 : 10000000 ≤ lat) (l1 : lat ≤ 220000000) (o : DlOk lat h) {D0 L H : Rat} {E : Nat → Rat} (hv : ArcV (dlY0 lat h) (dlY1 lat h) (dlC0 h) (dlC1 h) D0 E L H) :
    InArcOk (arcLo (dlY0 lat h) (dlY1 lat h) (dlC0 h) (dlC1 h) % 1000000000) (arcHi (dlY0 lat h) (dlY1 lat h) (dlC0 h) (dlC1 h) % 1000000000) (fm (sc (lat * 1000000)).1 (sc (h % 1000000000 * 1000000)).1) (sc (h % 1000000000 * 1000000)).2 ∧
    (-1160000000000000000 ≤ fm (sc (lat * 1000000)).1 (sc (h % 1000000000 * 1000000)).1 ∧ fm (sc (lat * 1000000)).1 (sc (h % 1000000000 * 1000000)).1 ≤ 1160000000000000000) ∧ (-1160000000000000000 ≤ (sc (h % 1000000000 * 1000000)).2 ∧ (sc (h % 1000000000 * 1000000)).2 ≤ 1160000000000000000) := by
  have hw := o.w hv
  obtain ⟨m0, m1⟩ := emod_bd h
  have sf := sine_bd lat
  have ss := sine_bd h
  have sc' := sine_bd (h % 1000000000 + 250000000)
  have e : lat % 1000000000 = lat := by omega
  rw [e] at sf
  have cs := rabs_le.1 (cos_shift m0 m1)
  obtain ⟨g1, g2⟩ := sc_ang (b := lat) (by omega) (by omega)
  obtain ⟨g3, g4⟩ := sc_ang m0 m1
  have lr := ang_range (b := lat) (by omega) (by omega)
  have hr := ang_range m0 m1
  have bl := SC_bd lr.2.2
  have bh := SC_bd hr.2.2
  have n6 : ∀ {x : Rat}, rabs x ≤ 1 + 1 / 100000000000 → rabs x ≤ 1 + 1 / 1000000 := fun h => by grind
  have n7 : ∀ {x : Rat}, rabs x ≤ 1 + 1 / 100000000000 → rabs x ≤ 1 + 1 / 10000000 := fun h => by grind
  have ix : InU (dlC0 h) (dlC1 h) (C (angU (h % 1000000000))) (1 / 10) := by
    have a := sc'.l1
    have b := sc'.h1
    unfold InU dlC0 dlC1
    constructor <;> grind
  have iy : InU (dlY0 lat h) (dlY1 lat h) (S (angU lat) * S (angU (h % 1000000000))) (1 / 10) := by
    have t := times_in sf.sp ss.sp sf.inU ss.inU (by decide +kernel) (by decide +kernel) (by decide +kernel) (by decide +kernel) (n7 bl.1)
    exact InU.mono t (by decide +kernel)
  have pm := mul_rabs bl.1 bh.1
  have bprod : rabs (S (angU lat) * S (angU (h % 1000000000))) ≤ 1 + 1 / 1000000 := by
    have : (1 + 1 / 100000000000 : Rat) * (1 + 1 / 100000000000) ≤ 1 + 1 / 1000000 := by decide +kernel
    exact Rat.le_trans pm this
  have hu := fm_two g1 g3 (by decide +kernel) (by decide +kernel) (n6 bl.1) (n6 bh.1)
  have hu2 : rabs ((fm (sc (lat * 1000000)).1 (sc (h % 1000000000 * 1000000)).1 : Rat) - uQ * (S (angU lat) * S (angU (h % 1000000000)))) ≤ 100000000 := by
    have : (102/100 * (180000 + 180000) + 2 : Rat) ≤ 100000000 := by decide +kernel
    exact Rat.le_trans hu this
  have hv2 : rabs (((sc (h % 1000000000 * 1000000)).2 : Rat) - uQ * C (angU (h % 1000000000))) ≤ 100000000 := by
    have : (180000 : Rat) ≤ 100000000 := by decide +kernel
    exact Rat.le_trans g4 this
  have fu := fine_bd hu2 bprod
  have fv := fine_bd hv2 (n6 bh.2)
  refine ⟨?_, fu.2, fv.2⟩
  have oy := o.oy
  have oc := o.oc
  have y0 := o.y0
  have y1 := o.y1
  have c0 := o.c0
  have c1 := o.c1
  clear sf ss sc' cs g1 g2 g3 g4 lr hr bl bh pm hu o n6 n7
  generalize dlY0 lat h = ya at *
  generalize dlY1 lat h = yb at *
  generalize dlC0 h = xa at *
  generalize dlC1 h = xb at *
  have k1 := arc_corners hv (by omega) (y := ya) (x := xa) (.inl rfl) (.inl rfl)
  have k2 := arc_corners hv (by omega) (y := yb) (x := xa) (.inr rfl) (.inl rfl)
  have k3 := arc_corners hv (by omega) (y := ya) (x := xb) (.inl rfl) (.inr rfl)
  have k4 := arc_corners hv (by omega) (y := yb) (x := xb) (.inr rfl) (.inr rfl)
  have q0 := emod_bd (arcLo ya yb xa xb)
  have q9 := emod_bd (arcHi ya yb xa xb)
  have q1 := rabs_int (n := xa) (B := 1100000000) (by omega) (by omega)
  have q2 := rabs_int (n := xb) (B := 1100000000) (by omega) (by omega)
  have q3 := rabs_int (n := ya) (B := 1400000000) (by omega) (by omega)
  have q4 := rabs_int (n := yb) (B := 1400000000) (by omega) (by omega)
  have near := rect_near q0.1 q0.2 q9.1 q9.2 k1 k2 k3 k4 q1 q2 q3 q4 ix.1 ix.2 iy.1 iy.2
  refine inArc_near q0.1 q0.2 q9.1 q9.2 near ?_ ?_ fu.1 fv.1
  · rw [show 1000000000 * (S (angU lat) * S (angU (h % 1000000000))) / 1000000000 = S (angU lat) * S (angU (h % 1000000000)) by grind]; exact hu2
  · rw [show 1000000000 * C (angU (h % 1000000000)) / 1000000000 = C (angU (h % 1000000000)) by grind]; exact hv2
end Go.Proofs.YtjkhoepohiafeaaDoor
