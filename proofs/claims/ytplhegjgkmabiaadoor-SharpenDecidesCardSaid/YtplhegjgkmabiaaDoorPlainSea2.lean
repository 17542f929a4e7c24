/- The sun at the new year; the season of the fixed example. No program in sight. -/
import Derived.Test.YtplhegjgkmabiaaDoorWalkFind2
import Derived.Test.YtplhegjgkmabiaaDoorWalkNy
set_option linter.unusedVariables false
set_option linter.unusedSimpArgs false
namespace Go.Proofs.YtplhegjgkmabiaaDoor
theorem sun_ny {y : Int} (h1 : -10000 ≤ y) (h2 : y ≤ 10000) : (y - 1) * 1000000000 + 755000000 ≤ sL (nyD y * 86400000) ∧ sL (nyD y * 86400000) ≤ (y - 1) * 1000000000 + 800000000 := by
  have m := sun_mean (nyD y * 86400000)
  have n := nyD_bd y
  generalize sL (nyD y * 86400000) = D at *
  generalize nyD y = d at *
  constructor <;> omega
theorem ny_seaB {y : Int} (h1 : -10000 ≤ y) (h2 : y ≤ 10000) : seaB (nyD y * 86400000) = true := by
  have n := nyD_bd y
  unfold seaB
  rw [inst_of (x := nyD y * 86400000) (by omega) (by omega), inst_of (x := nyD y * 86400000 - 1728000000) (by omega) (by omega), inst_of (x := nyD y * 86400000 + 34560000000) (by omega) (by omega)]
  rfl
theorem ny_side {y q : Int} (h1 : -10000 ≤ y) (h2 : y ≤ 10000) (q0 : 0 ≤ q) (q1 : q ≤ 3) : sunSide (q * 250000000) (nyD y * 86400000) ≠ 0 ∧ 190000000 ≤ snM (q * 250000000) (nyD y * 86400000) := by
  have n := sun_ny h1 h2
  obtain ⟨a, b⟩ := sun_lift (nyD y * 86400000)
  have w := sun_wd (nyD y * 86400000)
  unfold sunSide sideV snM
  rw [a]
  have hi : sunHi (nyD y * 86400000) = sL (nyD y * 86400000) % 1000000000 + (sH (nyD y * 86400000) - sL (nyD y * 86400000)) := by omega
  rw [hi]
  generalize sL (nyD y * 86400000) = L at *
  generalize sH (nyD y * 86400000) = H at *
  rcases (show q = 0 ∨ q = 1 ∨ q = 2 ∨ q = 3 by omega) with rfl | rfl | rfl | rfl
  all_goals
    refine ⟨?_, by omega⟩
    rw [if_neg (by omega)]
    split
    · omega
    · split <;> omega
/-- The season of a quarter of a year. -/
def seR (q y : Int) : NarR := snR (q * 250000000) (nyD y * 86400000)
structure SeasOk (tg T t : Int) (r : NarR) : Prop where
  tt : T % 1000000000 = tg % 1000000000
  a : t < r.lo
  b : r.lo < r.hi
  c : r.hi < t + 31708800000
  w : r.hi - r.lo ≤ 600000
  lo : sH r.lo < T
  lo4 : T - 400000000 < sL r.lo
  hi : T < sL r.hi
  hi4 : sL r.hi < T + 400000000
  und : ∀ x y, r.lo ≤ x → y ≤ r.hi → x + 132000 ≤ y → sunSide tg x ≠ -1 → sunSide tg y = 1
theorem seR_ok {y q : Int} (h1 : -10000 ≤ y) (h2 : y ≤ 10000) (q0 : 0 ≤ q) (q1 : q ≤ 3) : SeasOk (q * 250000000) (sL (nyD y * 86400000) + snM (q * 250000000) (nyD y * 86400000)) (nyD y * 86400000) (seR q y) := by
  obtain ⟨s1, s2⟩ := ny_side h1 h2 q0 q1
  have h := snR_ok (tg := q * 250000000) (t := nyD y * 86400000) (by omega) (by omega) s1
  have m0 : 0 ≤ snM (q * 250000000) (nyD y * 86400000) := Int.emod_nonneg _ (by omega)
  have m1 : snM (q * 250000000) (nyD y * 86400000) < 1000000000 := Int.emod_lt_of_pos _ (by omega)
  obtain ⟨-, -, -, -, w1, w2, -⟩ := wait_run m0 m1
  have hl : nyD y * 86400000 < seaLo (nyD y * 86400000) (waitF (snM (q * 250000000) (nyD y * 86400000))) := by unfold seaLo; omega
  have ha := h.ok.a
  have hb := h.ok.b
  have hc := h.ok.c
  have hw := h.ok.w h.is
  have hy := h.yr
  exact ⟨by have := h.tt; omega, by show _ < (snR _ _).lo; omega, hb, by show (snR _ _).hi < _; omega, hw, h.lo, h.lo4, h.hi, h.hi4, fun x y h1 h2 => h.und x y (Int.le_trans ha h1) (Int.le_trans h2 hc)⟩
theorem sea_has {tg T t X : Int} {r : NarR} (h : SeasOk tg T t r) (x1 : T - 3990 ≤ sL X) (x2 : sL X ≤ T - 10) : r.lo ≤ X ∧ X ≤ r.hi := by
  have hl := h.lo
  have hh := h.hi
  constructor
  · by_cases c : r.lo ≤ X
    · exact c
    · have g := sun_grow (x := X) (y := r.lo) (by omega)
      have w := sun_wd r.lo
      omega
  · by_cases c : X ≤ r.hi
    · exact c
    · have g := sun_grow (x := r.hi) (y := X) (by omega)
      omega
theorem sea_fix : sL 63082368000000 = 1999777421835 ∧ sL 63089219834394 = 1999999997999 ∧ snM 0 63082368000000 = 222578165 ∧ nyD 2000 * 86400000 = 63082368000000 := by decide +kernel
theorem sea_fix2 : (seR 0 2000).lo ≤ 63089219834394 ∧ 63089219834394 ≤ (seR 0 2000).hi := by
  obtain ⟨f1, f2, f3, f4⟩ := sea_fix
  have h := seR_ok (y := 2000) (q := 0) (by omega) (by omega) (by omega) (by omega)
  rw [f4, show (0 : Int) * 250000000 = 0 from rfl, f1, f3] at h
  exact sea_has h (by rw [f2]; omega) (by rw [f2]; omega)
end Go.Proofs.YtplhegjgkmabiaaDoor
