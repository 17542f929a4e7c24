/- Products of intervals of sines; the conversion to the equator. No program in sight. The conversion to the equator: what its intervals hold, and how narrow they are. No program in sight. The conversion to the equator: the reference's tests; small rectangles. No program in sight. The reference's direction of a longitude and a latitude is near the true one. No program in sight. -/
import Derived.Test.YtcgnhnmigmdalaaGreatDoorEqA
import Derived.Test.YtcgnhnmigmdalaaGreatDoorIvA
import Derived.Test.YtcgnhnmigmdalaaGreatDoorWkP
import Derived.Test.YtcgnhnmigmdalaaGreatDoorTrD
set_option linter.unusedVariables false
set_option linter.unusedSimpArgs false
namespace Go.Proofs.YtcgnhnmigmdalaaGreatDoor
section
open Ieee
theorem cov_any {lo hi k : Int} {z : Rat} (hlh : lo ≤ hi) (z0 : 0 ≤ z) (z1 : z ≤ 1000000000) (h1 : (lo : Rat) - 1/500 ≤ z + (k : Rat) * 1000000000) (h2 : z + (k : Rat) * 1000000000 ≤ (hi : Rat) + 1/500) :
    InU (sovLo (covB lo) (covE lo hi)) (sovHi (covB lo) (covE lo hi)) (C (tq * z)) (25/1000) := by
  have e := turn_split lo
  have b0 := (emod_bd lo).1
  have b1 := (emod_bd lo).2
  unfold covB covE
  generalize lo % 1000000000 = b at *
  generalize hq : lo / 1000000000 = q at *
  by_cases h : hi - lo ≤ 2000000000
  · rw [show min (hi - lo) 2000000000 = hi - lo by omega, show b + 250000000 + (hi - lo) = b + (hi - lo) + 250000000 by omega]
    refine (over_any (lo := b) (hi := b + (hi - lo)) (k := k - q) (by omega) z0 z1 ?_ ?_).2
    · push_cast; grind
    · push_cast; grind
  · rw [show min (hi - lo) 2000000000 = 2000000000 by omega, show b + 250000000 + 2000000000 = b + 2000000000 + 250000000 by omega]
    have B0 := icast b0
    have B1 := icast (show b ≤ 999999999 by omega)
    have c0 : ((0 : Int) : Rat) = 0 := rfl
    have c1 : ((1 : Int) : Rat) = 1 := rfl
    have cc : ((999999999 : Int) : Rat) = 999999999 := rfl
    have c2 : ((2000000000 : Int) : Rat) = 2000000000 := rfl
    rw [c0] at B0
    rw [cc] at B1
    by_cases g : (b : Rat) ≤ z
    · refine (over_any (lo := b) (hi := b + 2000000000) (k := 0) (by omega) z0 z1 ?_ ?_).2
      · rw [c0]; grind
      · rw [c0]; push_cast; grind
    · refine (over_any (lo := b) (hi := b + 2000000000) (k := 1) (by omega) z0 z1 ?_ ?_).2
      · rw [c1]; grind
      · rw [c1]; push_cast; grind
theorem bilin_lo {al ah bl bh X Y : Rat} (a1 : al ≤ X) (a2 : X ≤ ah) (b1 : bl ≤ Y) (b2 : Y ≤ bh) : al * bl ≤ X * Y ∨ al * bh ≤ X * Y ∨ ah * bl ≤ X * Y ∨ ah * bh ≤ X * Y := by
  have lin : ∀ s p q x : Rat, p ≤ x → x ≤ q → s * p ≤ s * x ∨ s * q ≤ s * x := by
    intro s p q x h1 h2
    by_cases h : 0 ≤ s
    · exact .inl (Rat.mul_le_mul_of_nonneg_left h1 h)
    · right
      have := Rat.mul_le_mul_of_nonneg_left h2 (show 0 ≤ -s by grind)
      grind
  rcases lin Y al ah X a1 a2 with h | h
  · rcases lin al bl bh Y b1 b2 with g | g
    · left; clear lin; grind
    · right; left; clear lin; grind
  · rcases lin ah bl bh Y b1 b2 with g | g
    · right; right; left; clear lin; grind
    · right; right; right; clear lin; grind
theorem bilin_hi {al ah bl bh X Y : Rat} (a1 : al ≤ X) (a2 : X ≤ ah) (b1 : bl ≤ Y) (b2 : Y ≤ bh) : X * Y ≤ al * bl ∨ X * Y ≤ al * bh ∨ X * Y ≤ ah * bl ∨ X * Y ≤ ah * bh := by
  have h := bilin_lo (al := -ah) (ah := -al) (X := -X) (Y := Y) (by grind) (by grind) b1 b2
  rcases h with h | h | h | h
  · right; right; left; grind
  · right; right; right; grind
  · left; grind
  · right; left; grind
/-- An interval of numbers from -1 to 1, in billionths. -/
structure Sp1 (l h : Int) : Prop where
  o : l ≤ h
  b0 : -1000000000 ≤ l
  b1 : h ≤ 1000000000
theorem mul9 {a b : Int} (a0 : -1000000000 ≤ a) (a1 : a ≤ 1000000000) (b0 : -1000000000 ≤ b) (b1 : b ≤ 1000000000) : -1000000000000000000 ≤ a * b ∧ a * b ≤ 1000000000000000000 := by
  have h1 := Int.mul_nonneg (show 0 ≤ 1000000000 - a by omega) (show 0 ≤ 1000000000 - b by omega)
  have h2 := Int.mul_nonneg (show 0 ≤ 1000000000 + a by omega) (show 0 ≤ 1000000000 + b by omega)
  have h3 := Int.mul_nonneg (show 0 ≤ 1000000000 - a by omega) (show 0 ≤ 1000000000 + b by omega)
  have h4 := Int.mul_nonneg (show 0 ≤ 1000000000 + a by omega) (show 0 ≤ 1000000000 - b by omega)
  constructor <;> grind
/-- A rounded product. -/
theorem rat9 {a b : Int} (a0 : -1000000000 ≤ a) (a1 : a ≤ 1000000000) (b0 : -1000000000 ≤ b) (b1 : b ≤ 1000000000) : ratLo a b 1000000000 * 1000000000 ≤ a * b ∧ a * b < (ratLo a b 1000000000 + 1) * 1000000000 ∧ a * b ≤ ratHi a b 1000000000 * 1000000000 ∧ (ratHi a b 1000000000 - 1) * 1000000000 < a * b := by
  obtain ⟨m1, m2⟩ := mul9 a0 a1 b0 b1
  obtain ⟨e1, e2⟩ := rat_x a b 1000000000
  rw [e1, e2]
  obtain ⟨p1, p2, -⟩ := rl_in (X := a * b) (d := 1000000000) (by decide) (by omega) (by omega)
  obtain ⟨q1, q2, -⟩ := rh_in (X := a * b) (d := 1000000000) (by decide) (by omega) (by omega)
  exact ⟨p1, p2, q1, q2⟩
theorem min4 (a b c d : Int) : (min (min (min a b) c) d ≤ a ∧ min (min (min a b) c) d ≤ b ∧ min (min (min a b) c) d ≤ c ∧ min (min (min a b) c) d ≤ d) ∧ (min (min (min a b) c) d = a ∨ min (min (min a b) c) d = b ∨ min (min (min a b) c) d = c ∨ min (min (min a b) c) d = d) := by omega
theorem max4 (a b c d : Int) : (a ≤ max (max (max a b) c) d ∧ b ≤ max (max (max a b) c) d ∧ c ≤ max (max (max a b) c) d ∧ d ≤ max (max (max a b) c) d) ∧ (max (max (max a b) c) d = a ∨ max (max (max a b) c) d = b ∨ max (max (max a b) c) d = c ∨ max (max (max a b) c) d = d) := by omega
/-- A corner that gives the least product, a corner that gives the greatest one. -/
theorem prod_ends {al ah bl bh : Int} (ha : Sp1 al ah) (hb : Sp1 bl bh) :
    (∀ a b : Int, (a = al ∨ a = ah) → (b = bl ∨ b = bh) → pLo al ah bl bh 1000000000 * 1000000000 ≤ a * b ∧ a * b ≤ pHi al ah bl bh 1000000000 * 1000000000) ∧
    (∃ a b : Int, (a = al ∨ a = ah) ∧ (b = bl ∨ b = bh) ∧ a * b < (pLo al ah bl bh 1000000000 + 1) * 1000000000) ∧ (∃ a b : Int, (a = al ∨ a = ah) ∧ (b = bl ∨ b = bh) ∧ (pHi al ah bl bh 1000000000 - 1) * 1000000000 < a * b) := by
  obtain ⟨ao, a0, a1⟩ := ha
  obtain ⟨bo, b0, b1⟩ := hb
  have r1 := rat9 (a := al) (b := bl) a0 (by omega) b0 (by omega)
  have r2 := rat9 (a := al) (b := bh) a0 (by omega) (by omega) b1
  have r3 := rat9 (a := ah) (b := bl) (by omega) a1 b0 (by omega)
  have r4 := rat9 (a := ah) (b := bh) (by omega) a1 (by omega) b1
  obtain ⟨⟨m1, m2, m3, m4⟩, m5⟩ := min4 (ratLo al bl 1000000000) (ratLo al bh 1000000000) (ratLo ah bl 1000000000) (ratLo ah bh 1000000000)
  obtain ⟨⟨n1, n2, n3, n4⟩, n5⟩ := max4 (ratHi al bl 1000000000) (ratHi al bh 1000000000) (ratHi ah bl 1000000000) (ratHi ah bh 1000000000)
  have eL : pLo al ah bl bh 1000000000 = min (min (min (ratLo al bl 1000000000) (ratLo al bh 1000000000)) (ratLo ah bl 1000000000)) (ratLo ah bh 1000000000) := rfl
  have eH : pHi al ah bl bh 1000000000 = max (max (max (ratHi al bl 1000000000) (ratHi al bh 1000000000)) (ratHi ah bl 1000000000)) (ratHi ah bh 1000000000) := rfl
  rw [← eL] at m1 m2 m3 m4 m5
  rw [← eH] at n1 n2 n3 n4 n5
  clear eL eH
  generalize pLo al ah bl bh 1000000000 = L at *
  generalize pHi al ah bl bh 1000000000 = H at *
  refine ⟨?_, ?_, ?_⟩
  · rintro a b (rfl | rfl) (rfl | rfl) <;> constructor <;> omega
  · rcases m5 with h | h | h | h <;> rw [h]
    · exact ⟨al, bl, .inl rfl, .inl rfl, r1.2.1⟩
    · exact ⟨al, bh, .inl rfl, .inr rfl, r2.2.1⟩
    · exact ⟨ah, bl, .inr rfl, .inl rfl, r3.2.1⟩
    · exact ⟨ah, bh, .inr rfl, .inr rfl, r4.2.1⟩
  · rcases n5 with h | h | h | h <;> rw [h]
    · exact ⟨al, bl, .inl rfl, .inl rfl, r1.2.2.2⟩
    · exact ⟨al, bh, .inl rfl, .inr rfl, r2.2.2.2⟩
    · exact ⟨ah, bl, .inr rfl, .inl rfl, r3.2.2.2⟩
    · exact ⟨ah, bh, .inr rfl, .inr rfl, r4.2.2.2⟩
theorem prod_sp {al ah bl bh : Int} (ha : Sp1 al ah) (hb : Sp1 bl bh) : Sp1 (pLo al ah bl bh 1000000000) (pHi al ah bl bh 1000000000) := by
  obtain ⟨h1, ⟨a, b, ea, eb, h2⟩, ⟨c, d, ec, ed, h3⟩⟩ := prod_ends ha hb
  obtain ⟨ao, a0, a1⟩ := ha
  obtain ⟨bo, b0, b1⟩ := hb
  obtain ⟨k1, k2⟩ := h1 al bl (.inl rfl) (.inl rfl)
  obtain ⟨m1, m2⟩ := mul9 (a := a) (b := b) (by omega) (by omega) (by omega) (by omega)
  obtain ⟨m3, m4⟩ := mul9 (a := c) (b := d) (by omega) (by omega) (by omega) (by omega)
  generalize pLo al ah bl bh 1000000000 = L at *
  generalize pHi al ah bl bh 1000000000 = H at *
  generalize al * bl = u at *
  generalize a * b = v at *
  generalize c * d = x at *
  exact ⟨by omega, by omega, by omega⟩
theorem prod_in {al ah bl bh : Int} (ha : Sp1 al ah) (hb : Sp1 bl bh) {X Y : Rat} (x1 : (al : Rat) ≤ X) (x2 : X ≤ (ah : Rat)) (y1 : (bl : Rat) ≤ Y) (y2 : Y ≤ (bh : Rat)) :
    ((pLo al ah bl bh 1000000000 : Int) : Rat) * 1000000000 ≤ X * Y ∧ X * Y ≤ ((pHi al ah bl bh 1000000000 : Int) : Rat) * 1000000000 := by
  obtain ⟨h1, -, -⟩ := prod_ends ha hb
  generalize pLo al ah bl bh 1000000000 = L at *
  generalize pHi al ah bl bh 1000000000 = H at *
  have c : ∀ a b : Int, (a = al ∨ a = ah) → (b = bl ∨ b = bh) → (L : Rat) * 1000000000 ≤ (a : Rat) * (b : Rat) ∧ (a : Rat) * (b : Rat) ≤ (H : Rat) * 1000000000 := by
    intro a b ea eb
    obtain ⟨g1, g2⟩ := h1 a b ea eb
    have g1 := icast g1
    have g2 := icast g2
    push_cast at g1 g2
    exact ⟨g1, g2⟩
  have c1 := c al bl (.inl rfl) (.inl rfl)
  have c2 := c al bh (.inl rfl) (.inr rfl)
  have c3 := c ah bl (.inr rfl) (.inl rfl)
  have c4 := c ah bh (.inr rfl) (.inr rfl)
  constructor
  · rcases bilin_lo x1 x2 y1 y2 with h | h | h | h
    · exact Rat.le_trans c1.1 h
    · exact Rat.le_trans c2.1 h
    · exact Rat.le_trans c3.1 h
    · exact Rat.le_trans c4.1 h
  · rcases bilin_hi x1 x2 y1 y2 with h | h | h | h
    · exact Rat.le_trans h c1.2
    · exact Rat.le_trans h c2.2
    · exact Rat.le_trans h c3.2
    · exact Rat.le_trans h c4.2
theorem diff_bd {a a' al ah : Int} {A : Rat} (h : a = al ∨ a = ah) (h' : a' = al ∨ a' = ah) (ho : al ≤ ah) (b1 : rabs (al : Rat) ≤ A) (b2 : rabs (ah : Rat) ≤ A) : rabs ((a : Rat) - a') ≤ (ah : Rat) - al ∧ rabs (a : Rat) ≤ A := by
  have ho := icast ho
  rcases h with rfl | rfl <;> rcases h' with rfl | rfl <;> refine ⟨rabs_le.2 ⟨by grind, by grind⟩, by assumption⟩
theorem prod_wide {al ah bl bh : Int} (ha : Sp1 al ah) (hb : Sp1 bl bh) {A B : Rat} (a1 : rabs (al : Rat) ≤ A) (a2 : rabs (ah : Rat) ≤ A) (b1 : rabs (bl : Rat) ≤ B) (b2 : rabs (bh : Rat) ≤ B) :
    ((pHi al ah bl bh 1000000000 - pLo al ah bl bh 1000000000 : Int) : Rat) * 1000000000 ≤ A * ((bh : Rat) - bl) + B * ((ah : Rat) - al) + 2000000000 := by
  obtain ⟨-, ⟨a, b, ea, eb, h2⟩, ⟨c, d, ec, ed, h3⟩⟩ := prod_ends ha hb
  generalize pLo al ah bl bh 1000000000 = L at *
  generalize pHi al ah bl bh 1000000000 = H at *
  have h2 := icast (show a * b ≤ (L + 1) * 1000000000 by omega)
  have h3 := icast (show (H - 1) * 1000000000 ≤ c * d by omega)
  push_cast at h2 h3
  have p1 := diff_bd ec ea ha.o a1 a2
  have p2 := diff_bd ed eb hb.o b1 b2
  have p3 := diff_bd eb ed hb.o b1 b2
  have m1 := (rabs_le.1 (mul_rabs p1.2 p2.1)).1
  have m2 := (rabs_le.1 (mul_rabs p3.2 p1.1)).1
  push_cast
  have e : (c : Rat) * d - (a : Rat) * b = (c : Rat) * ((d : Rat) - b) + (b : Rat) * ((c : Rat) - a) := by grind
  have m3 : (c : Rat) * d - (a : Rat) * b ≤ A * ((bh : Rat) - bl) + B * ((ah : Rat) - al) := by
    rw [e]
    generalize A * ((bh : Rat) - bl) = u at *
    generalize B * ((ah : Rat) - al) = v at *
    clear p1 p2 p3 h2 h3
    grind
  generalize A * ((bh : Rat) - bl) = u at *
  generalize B * ((ah : Rat) - al) = v at *
  generalize (c : Rat) * d = x at *
  generalize (a : Rat) * b = y at *
  clear m1 m2 p1 p2 p3 e
  grind
theorem clamp_ex {l h X ε : Rat} (lh : l ≤ h) (e0 : 0 ≤ ε) (h1 : l - ε ≤ X) (h2 : X ≤ h + ε) : ∃ X', l ≤ X' ∧ X' ≤ h ∧ rabs (X - X') ≤ ε := by
  by_cases a : X < l
  · exact ⟨l, Rat.le_refl, lh, rabs_le.2 ⟨by grind, by grind⟩⟩
  · by_cases b : h < X
    · exact ⟨h, lh, Rat.le_refl, rabs_le.2 ⟨by grind, by grind⟩⟩
    · exact ⟨X, by grind, by grind, rabs_le.2 ⟨by grind, by grind⟩⟩
theorem times_in {al ah bl bh : Int} (ha : Sp1 al ah) (hb : Sp1 bl bh) {x y ε δ : Rat} (hx : InU al ah x ε) (hy : InU bl bh y δ) (e0 : 0 ≤ ε) (d0 : 0 ≤ δ) (e1 : ε ≤ 1) (d1 : δ ≤ 1) (bx : rabs x ≤ 1 + 1 / 10000000) :
    InU (pLo al ah bl bh 1000000000) (pHi al ah bl bh 1000000000) (x * y) (ε + δ + 1/1000000) := by
  obtain ⟨X, X1, X2, X3⟩ := clamp_ex (icast ha.o) e0 hx.1 hx.2
  obtain ⟨Y, Y1, Y2, Y3⟩ := clamp_ex (icast hb.o) d0 hy.1 hy.2
  obtain ⟨p1, p2⟩ := prod_in ha hb X1 X2 Y1 Y2
  have B0 := icast hb.b0
  have B1 := icast hb.b1
  have cn : ((-1000000000 : Int) : Rat) = -1000000000 := rfl
  have cp : ((1000000000 : Int) : Rat) = 1000000000 := rfl
  rw [cn] at B0
  rw [cp] at B1
  have bY : rabs Y ≤ 1000000000 := rabs_le.2 ⟨by grind, by grind⟩
  have bx' := rabs_le.1 bx
  have bX : rabs (1000000000 * x) ≤ 1000000100 := rabs_le.2 ⟨by grind, by grind⟩
  have m1 := rabs_le.1 (mul_rabs bX Y3)
  have m2 := rabs_le.1 (mul_rabs X3 bY)
  unfold InU
  generalize ((pLo al ah bl bh 1000000000 : Int) : Rat) = L at *
  generalize ((pHi al ah bl bh 1000000000 : Int) : Rat) = H at *
  have e : 1000000000 * (1000000000 * (x * y)) = X * Y + 1000000000 * x * (1000000000 * y - Y) + (1000000000 * x - X) * Y := by grind
  clear hx hy X1 X2 X3 Y1 Y2 Y3 B0 B1 bY bX bx bx'
  generalize X * Y = u at *
  generalize 1000000000 * x * (1000000000 * y - Y) = v at *
  generalize (1000000000 * x - X) * Y = z at *
  generalize x * y = t at *
  constructor <;> grind
theorem sov_sp (lo hi : Int) (h : lo ≤ hi) : Sp1 (sovLo lo hi) (sovHi lo hi) := by
  have k := over_ok lo hi h
  exact ⟨k.o, k.b0, k.b1⟩
theorem InU.neg {L H : Int} {x ε : Rat} (h : InU L H x ε) : InU (-H) (-L) (-x) ε := by
  unfold InU at *; push_cast; constructor <;> grind
theorem InU.sub {L H L' H' : Int} {x y ε δ : Rat} (h : InU L H x ε) (h' : InU L' H' y δ) : InU (L - H') (H - L') (x - y) (ε + δ) := by
  unfold InU at *; push_cast; constructor <;> grind
theorem InU.add {L H L' H' : Int} {x y ε δ : Rat} (h : InU L H x ε) (h' : InU L' H' y δ) : InU (L + L') (H + H') (x + y) (ε + δ) := by
  unfold InU at *; push_cast; constructor <;> grind
end
section
open Ieee
def eqA0 (l0 l1 b0 b1 : Int) : Int := pLo (sovLo (covB b0) (covE b0 b1)) (sovHi (covB b0) (covE b0 b1)) (sovLo l0 l1) (sovHi l0 l1) 1000000000
def eqA1 (l0 l1 b0 b1 : Int) : Int := pHi (sovLo (covB b0) (covE b0 b1)) (sovHi (covB b0) (covE b0 b1)) (sovLo l0 l1) (sovHi l0 l1) 1000000000
def eqX0 (l0 l1 b0 b1 : Int) : Int := pLo (sovLo (covB b0) (covE b0 b1)) (sovHi (covB b0) (covE b0 b1)) (sovLo (covB l0) (covE l0 l1)) (sovHi (covB l0) (covE l0 l1)) 1000000000
def eqX1 (l0 l1 b0 b1 : Int) : Int := pHi (sovLo (covB b0) (covE b0 b1)) (sovHi (covB b0) (covE b0 b1)) (sovLo (covB l0) (covE l0 l1)) (sovHi (covB l0) (covE l0 l1)) 1000000000
/-- The four products with the tilt. -/
def eqP0 (l0 l1 b0 b1 : Int) : Int := pLo (eqA0 l0 l1 b0 b1) (eqA1 l0 l1 b0 b1) 917482416 917482417 1000000000
def eqP1 (l0 l1 b0 b1 : Int) : Int := pHi (eqA0 l0 l1 b0 b1) (eqA1 l0 l1 b0 b1) 917482416 917482417 1000000000
def eqQ0 (b0 b1 : Int) : Int := pLo (sovLo b0 b1) (sovHi b0 b1) 397776337 397776338 1000000000
def eqQ1 (b0 b1 : Int) : Int := pHi (sovLo b0 b1) (sovHi b0 b1) 397776337 397776338 1000000000
def eqR0 (l0 l1 b0 b1 : Int) : Int := pLo (eqA0 l0 l1 b0 b1) (eqA1 l0 l1 b0 b1) 397776337 397776338 1000000000
def eqR1 (l0 l1 b0 b1 : Int) : Int := pHi (eqA0 l0 l1 b0 b1) (eqA1 l0 l1 b0 b1) 397776337 397776338 1000000000
def eqS0 (b0 b1 : Int) : Int := pLo (sovLo b0 b1) (sovHi b0 b1) 917482416 917482417 1000000000
def eqS1 (b0 b1 : Int) : Int := pHi (sovLo b0 b1) (sovHi b0 b1) 917482416 917482417 1000000000
def eqY0 (l0 l1 b0 b1 : Int) : Int := eqP0 l0 l1 b0 b1 - eqQ1 b0 b1
def eqY1 (l0 l1 b0 b1 : Int) : Int := eqP1 l0 l1 b0 b1 - eqQ0 b0 b1
def eqZ0 (l0 l1 b0 b1 : Int) : Int := eqR0 l0 l1 b0 b1 + eqS0 b0 b1
def eqZ1 (l0 l1 b0 b1 : Int) : Int := eqR1 l0 l1 b0 b1 + eqS1 b0 b1
theorem tilt_vals : sineLo 65109000 = 397776337 ∧ sineHi 65109000 = 397776338 ∧ sineLo (65109000 % 1000000000 + 250000000) = 917482416 ∧ sineHi (65109000 % 1000000000 + 250000000) = 917482417 := by decide +kernel
def se9 : Rat := S (tq * 65109000)
def ce9 : Rat := C (tq * 65109000)
theorem tilt_num : 3977763374 / 10000000000 ≤ se9 ∧ se9 ≤ 3977763376 / 10000000000 ∧ 9174824168 / 10000000000 ≤ ce9 ∧ ce9 ≤ 9174824170 / 10000000000 := by decide +kernel
theorem tilt_in : InU 397776337 397776338 se9 0 ∧ InU 917482416 917482417 ce9 0 ∧ Sp1 397776337 397776338 ∧ Sp1 917482416 917482417 := by
  obtain ⟨h1, h2, h3, h4⟩ := tilt_num
  have c1 : ((397776337 : Int) : Rat) = 397776337 := rfl
  have c2 : ((397776338 : Int) : Rat) = 397776338 := rfl
  have c3 : ((917482416 : Int) : Rat) = 917482416 := rfl
  have c4 : ((917482417 : Int) : Rat) = 917482417 := rfl
  refine ⟨?_, ?_, ⟨by decide, by decide, by decide⟩, ⟨by decide, by decide, by decide⟩⟩
  · unfold InU; rw [c1, c2]; constructor <;> grind
  · unfold InU; rw [c3, c4]; constructor <;> grind
theorem circT {z : Rat} (z0 : 0 ≤ z) (z1 : z ≤ 1000000000) : rabs (S (tq * z) * S (tq * z) + C (tq * z) * C (tq * z) - 1) ≤ 1 / 100000000000 := by
  have hp := pi_num
  obtain ⟨t1, t2, -⟩ := tq_num
  have A0 := tq_le z0
  have A1 := tq_le z1
  rw [tq_turn] at A1
  by_cases h : tq * z ≤ 31416/10000
  · have := circ9 (y := tq * z) (rabs_le.2 ⟨by grind, by grind⟩)
    grind
  · have c := rabs_le.1 (circ9 (y := tq * z - 2 * piQ) (rabs_le.2 ⟨by grind, by grind⟩))
    obtain ⟨k1, k2⟩ := sin_turn (x := tq * z - 2 * piQ) (rabs_le.2 ⟨by grind, by grind⟩)
    have e : tq * z - 2 * piQ + 2 * piQ = tq * z := by grind
    rw [e] at k1 k2
    have b1 := SC_bd (y := tq * z) (rabs_le.2 ⟨by grind, by grind⟩)
    have b2 := SC_bd (y := tq * z - 2 * piQ) (rabs_le.2 ⟨by grind, by grind⟩)
    clear e A0 A1 h
    generalize S (tq * z - 2 * piQ) = s' at *
    generalize C (tq * z - 2 * piQ) = c' at *
    generalize S (tq * z) = s at *
    generalize C (tq * z) = c at *
    have bs : rabs (s + s') ≤ 21/10 := by
      have := rabs_le.1 b1.1
      have := rabs_le.1 b2.1
      exact rabs_le.2 ⟨by grind, by grind⟩
    have bc : rabs (c + c') ≤ 21/10 := by
      have := rabs_le.1 b1.2
      have := rabs_le.1 b2.2
      exact rabs_le.2 ⟨by grind, by grind⟩
    have m1 := rabs_le.1 (mul_rabs k1 bs)
    have m2 := rabs_le.1 (mul_rabs k2 bc)
    rw [rabs_le]
    constructor <;> grind
theorem sc_one {z : Rat} (z0 : 0 ≤ z) (z1 : z ≤ 1000000000) : rabs (S (tq * z)) ≤ 1 + 1 / 100000000000 ∧ rabs (C (tq * z)) ≤ 1 + 1 / 100000000000 := by
  obtain ⟨t1, t2, -⟩ := tq_num
  have hp := pi_num
  have A0 := tq_le z0
  have A1 := tq_le z1
  rw [tq_turn] at A1
  exact SC_bd (rabs_le.2 ⟨by grind, by grind⟩)
/-- A point of the sky and what the intervals are to hold of it. -/
structure Pt (l0 l1 b0 b1 : Int) (zl zb : Rat) : Prop where
  hl : l0 ≤ l1
  hb : b0 ≤ b1
  l : 0 ≤ zl ∧ zl ≤ 1000000000
  b : 0 ≤ zb ∧ zb ≤ 1000000000
  kl : ∃ k : Int, (l0 : Rat) - 1/500 ≤ zl + (k : Rat) * 1000000000 ∧ zl + (k : Rat) * 1000000000 ≤ (l1 : Rat) + 1/500
  kb : ∃ k : Int, (b0 : Rat) - 1/500 ≤ zb + (k : Rat) * 1000000000 ∧ zb + (k : Rat) * 1000000000 ≤ (b1 : Rat) + 1/500
def pX (zl zb : Rat) : Rat := C (tq * zb) * C (tq * zl)
def pY (zl zb : Rat) : Rat := C (tq * zb) * S (tq * zl) * ce9 - S (tq * zb) * se9
def pZ (zl zb : Rat) : Rat := C (tq * zb) * S (tq * zl) * se9 + S (tq * zb) * ce9
theorem cov_sp {lo hi : Int} (h : lo ≤ hi) : Sp1 (sovLo (covB lo) (covE lo hi)) (sovHi (covB lo) (covE lo hi)) := sov_sp _ _ (by unfold covB covE; omega)
theorem eqA_sp {l0 l1 b0 b1 : Int} (hl : l0 ≤ l1) (hb : b0 ≤ b1) : Sp1 (eqA0 l0 l1 b0 b1) (eqA1 l0 l1 b0 b1) := prod_sp (cov_sp hb) (sov_sp _ _ hl)
theorem InU.mono {L H : Int} {x ε δ : Rat} (h : InU L H x ε) (hd : ε ≤ δ) : InU L H x δ := by
  unfold InU at *; constructor <;> grind
theorem eq_in {l0 l1 b0 b1 : Int} {zl zb : Rat} (p : Pt l0 l1 b0 b1 zl zb) : InU (eqX0 l0 l1 b0 b1) (eqX1 l0 l1 b0 b1) (pX zl zb) (1/10) ∧ InU (eqY0 l0 l1 b0 b1) (eqY1 l0 l1 b0 b1) (pY zl zb) (1/10) ∧ InU (eqZ0 l0 l1 b0 b1) (eqZ1 l0 l1 b0 b1) (pZ zl zb) (1/10) := by
  obtain ⟨hl, hb, ⟨zl0, zl1⟩, ⟨zb0, zb1⟩, ⟨k, k1, k2⟩, ⟨k', k3, k4⟩⟩ := p
  have sl := (over_any hl zl0 zl1 k1 k2).1
  have cl := cov_any hl zl0 zl1 k1 k2
  have sb := (over_any hb zb0 zb1 k3 k4).1
  have cb := cov_any hb zb0 zb1 k3 k4
  obtain ⟨te, tc, tes, tcs⟩ := tilt_in
  have nb := sc_one zb0 zb1
  have nl := sc_one zl0 zl1
  have nb1 : rabs (C (tq * zb)) ≤ 1 + 1 / 10000000 := by have := nb.2; grind
  have nb2 : rabs (S (tq * zb)) ≤ 1 + 1 / 10000000 := by have := nb.1; grind
  have nA : rabs (C (tq * zb) * S (tq * zl)) ≤ 1 + 1 / 10000000 := by have := mul_rabs nb.2 nl.1; grind
  have A := times_in (cov_sp hb) (sov_sp _ _ hl) cb sl (by grind) (by grind) (by grind) (by grind) nb1
  have X := times_in (cov_sp hb) (cov_sp hl) cb cl (by grind) (by grind) (by grind) (by grind) nb1
  have P := times_in (eqA_sp hl hb) tcs A tc (by grind) (by grind) (by grind) (by grind) nA
  have R := times_in (eqA_sp hl hb) tes A te (by grind) (by grind) (by grind) (by grind) nA
  have Q := times_in (sov_sp _ _ hb) tes sb te (by grind) (by grind) (by grind) (by grind) nb2
  have U := times_in (sov_sp _ _ hb) tcs sb tc (by grind) (by grind) (by grind) (by grind) nb2
  exact ⟨InU.mono X (by grind), InU.mono (InU.sub P Q) (by grind), InU.mono (InU.add R U) (by grind)⟩
/-- How far from the axis a point is. -/
theorem eq_norm {zl zb s0 c0 r0 : Rat} (l0 : 0 ≤ zl) (l1 : zl ≤ 1000000000) (b0 : 0 ≤ zb) (b1 : zb ≤ 1000000000) (hs : rabs (S (tq * zb)) ≤ s0) (hc0 : 0 ≤ c0) (hsc : c0 * c0 + s0 * s0 ≤ 1 - 1 / 1000000000) (hr0 : 0 ≤ r0) (hr : r0 ≤ c0 * (9174/10000) - s0 * (3978/10000)) :
    r0 * r0 - 1 / 1000000000 ≤ pX zl zb * pX zl zb + pY zl zb * pY zl zb ∧ rabs (pX zl zb) ≤ 1 + 1 / 1000000 ∧ rabs (pY zl zb) ≤ 1 + 1 / 1000000 ∧ rabs (pZ zl zb) ≤ 1 + 1 / 1000000000 := by
  have cl := rabs_le.1 (circT l0 l1)
  have cb := rabs_le.1 (circT b0 b1)
  have ct : rabs (se9 * se9 + ce9 * ce9 - 1) ≤ 1 / 100000000000 := circT (z := 65109000) (by decide +kernel) (by decide +kernel)
  have ct := rabs_le.1 ct
  obtain ⟨t1, t2, t3, t4⟩ := tilt_num
  have nl := sc_one l0 l1
  have nb := sc_one b0 b1
  unfold pX pY pZ
  generalize S (tq * zl) = sl at *
  generalize C (tq * zl) = cl' at *
  generalize S (tq * zb) = sb at *
  generalize C (tq * zb) = cb' at *
  generalize se9 = se at *
  generalize ce9 = ce at *
  have sq : ∀ z : Rat, 0 ≤ z * z := fun z => by rw [← rabs_sq]; exact Rat.mul_nonneg (rabs_nonneg z) (rabs_nonneg z)
  have hss := sq_le_sq (rabs_nonneg sb) hs
  rw [rabs_sq] at hss
  -- the cosine of the latitude
  have hcb : c0 ≤ rabs cb' := by
    have h : c0 * c0 ≤ rabs cb' * rabs cb' := by rw [rabs_sq]; grind
    have := (rabs_le.1 (sq_rabs (rabs_nonneg cb') h)).1
    exact this
  -- the whole is 1
  have s2 := sq sb
  have c2 := sq cb'
  have cc2 : cb' * cb' ≤ 1 + 1 / 100000000000 := by grind
  have g1 : rabs (cb' * cb' * (sl * sl + cl' * cl' - 1)) ≤ (1 + 1 / 100000000000) * (1 / 100000000000) := mul_rabs (rabs_le.2 ⟨cc2, by grind⟩) (rabs_le.2 cl)
  have g1 := rabs_le.1 g1
  have sl2 := sq sl
  have clq := sq cl'
  have h1 : cb' * sl * (cb' * sl) + sb * sb ≤ 1 + 1 / 10000000000 := by
    have m := Rat.mul_le_mul_of_nonneg_left (show sl * sl ≤ 1 + 1 / 100000000000 by grind) c2
    grind
  have h0 : 0 ≤ cb' * sl * (cb' * sl) + sb * sb := by have := sq (cb' * sl); grind
  have g2 : rabs ((cb' * sl * (cb' * sl) + sb * sb) * (se * se + ce * ce - 1)) ≤ (1 + 1 / 10000000000) * (1 / 100000000000) := mul_rabs (rabs_le.2 ⟨h1, by grind⟩) (rabs_le.2 ct)
  have g2 := rabs_le.1 g2
  obtain ⟨X, hX⟩ : ∃ X, cb' * cl' = X := ⟨_, rfl⟩
  obtain ⟨Y, hY⟩ : ∃ Y, cb' * sl * ce - sb * se = Y := ⟨_, rfl⟩
  obtain ⟨Z, hZ⟩ : ∃ Z, cb' * sl * se + sb * ce = Z := ⟨_, rfl⟩
  have tot : X * X + Y * Y + Z * Z = (cb' * cb' + sb * sb) + cb' * cb' * (sl * sl + cl' * cl' - 1) + (cb' * sl * (cb' * sl) + sb * sb) * (se * se + ce * ce - 1) := by rw [← hX, ← hY, ← hZ]; grind
  have one1 : X * X + Y * Y + Z * Z ≤ 1 + 1 / 10000000000 := by rw [tot]; grind
  have one2 : 1 - 1 / 10000000000 ≤ X * X + Y * Y + Z * Z := by rw [tot]; grind
  rw [hX, hY, hZ]
  have x2 := sq X
  have y2 := sq Y
  have z2 := sq Z
  have bdd : ∀ {a : Rat}, a * a ≤ 1 + 1 / 10000000000 → rabs a ≤ 1 + 1 / 1000000000 := fun {a} h => sq_rabs (by decide +kernel) (Rat.le_trans h (by decide +kernel))
  have bX := bdd (show X * X ≤ 1 + 1 / 10000000000 by clear bdd; grind)
  have bY := bdd (show Y * Y ≤ 1 + 1 / 10000000000 by clear bdd; grind)
  have bZ := bdd (show Z * Z ≤ 1 + 1 / 10000000000 by clear bdd; grind)
  clear bdd tot
  refine ⟨?_, by grind, by grind, bZ⟩
  -- what is across is small
  have zz : rabs Z ≤ rabs cb' * (1 + 1 / 100000000000) * se + rabs sb * ce := by
    have a1 := mul_rabs (a := cb') (b := sl) Rat.le_refl nl.1
    have a2 : rabs (cb' * sl * se) ≤ rabs cb' * (1 + 1 / 100000000000) * se := by
      have := mul_rabs (a := cb' * sl) (b := se) a1 (show rabs se ≤ se by rw [rabs_pos (by grind)]; exact Rat.le_refl)
      exact this
    have a3 := mul_rabs (a := sb) (b := ce) Rat.le_refl (show rabs ce ≤ ce by rw [rabs_pos (by grind)]; exact Rat.le_refl)
    have a2 := rabs_le.1 a2
    have a3 := rabs_le.1 a3
    rw [← hZ]
    exact rabs_le.2 ⟨by clear sq hss g1 g2 one1 one2; grind, by clear sq hss g1 g2 one1 one2; grind⟩
  have cu : rabs cb' ≤ 1 + 1 / 100000000000 := nb.2
  have c0' := rabs_nonneg cb'
  have s0' := rabs_nonneg sb
  obtain ⟨u, hu⟩ : ∃ u, rabs cb' = u := ⟨_, rfl⟩
  obtain ⟨v, hv⟩ : ∃ v, rabs sb = v := ⟨_, rfl⟩
  have uu : u * u = cb' * cb' := by rw [← hu, rabs_sq]
  have vv : v * v = sb * sb := by rw [← hv, rabs_sq]
  rw [hu] at zz hcb cu c0'
  rw [hv] at zz hs s0'
  have zz2 : rabs Z ≤ u * se + v * ce + 1 / 10000000000 := by
    have : u * (1 + 1 / 100000000000) * se ≤ u * se + 1 / 10000000000 := by
      have m := mul_rabs (a := u) (b := se) (A := 2) (B := 1) (rabs_le.2 ⟨by grind, by grind⟩) (rabs_le.2 ⟨by grind, by grind⟩)
      have m := rabs_le.1 m
      grind
    grind
  have w0 : 0 ≤ u * se + v * ce := by
    have m1 := Rat.mul_nonneg c0' (show 0 ≤ se by grind)
    have m2 := Rat.mul_nonneg s0' (show 0 ≤ ce by grind)
    grind
  have w1 : u * se + v * ce ≤ 2 := by
    have m1 := Rat.mul_le_mul_of_nonneg_left (show se ≤ 4/10 by grind) c0'
    have m2 := Rat.mul_le_mul_of_nonneg_left (show ce ≤ 92/100 by grind) s0'
    have v1 : v ≤ 1 + 1 / 100000000000 := by rw [← hv]; exact nb.1
    grind
  have zq : Z * Z ≤ (u * se + v * ce) * (u * se + v * ce) + 5 / 10000000000 := by
    have h := sq_le_sq (rabs_nonneg Z) zz2
    rw [rabs_sq] at h
    generalize u * se + v * ce = w at *
    grind
  have rr : r0 ≤ u * ce - v * se := by
    have m1 := Rat.mul_le_mul_of_nonneg_left (show 9174/10000 ≤ ce by grind) c0'
    have m2 := Rat.mul_le_mul_of_nonneg_left (show se ≤ 3978/10000 by grind) s0'
    grind
  have rq := sq_le_sq hr0 rr
  have ident : (u * se + v * ce) * (u * se + v * ce) + (u * ce - v * se) * (u * ce - v * se) = (u * u + v * v) * (se * se + ce * ce) := by grind
  have pr : (u * u + v * v) * (se * se + ce * ce) ≤ (1 + 1 / 100000000000) * (1 + 1 / 100000000000) := by
    rw [uu, vv]
    have a : cb' * cb' + sb * sb ≤ 1 + 1 / 100000000000 := by grind
    have a0 : 0 ≤ cb' * cb' + sb * sb := by grind
    have b : se * se + ce * ce ≤ 1 + 1 / 100000000000 := by grind
    have m1 := Rat.mul_le_mul_of_nonneg_left b a0
    have m2 := Rat.mul_le_mul_of_nonneg_right a (show (0 : Rat) ≤ 1 + 1 / 100000000000 by grind)
    grind
  generalize (u * se + v * ce) * (u * se + v * ce) = W at *
  generalize (u * ce - v * se) * (u * ce - v * se) = V at *
  generalize (u * u + v * v) * (se * se + ce * ce) = N at *
  generalize r0 * r0 = R at *
  generalize Z * Z = ZZ at *
  generalize X * X + Y * Y = XY at *
  clear zz zz2 w0 w1 rr uu vv hu hv bX bY bZ hX hY hZ sq hss h1 h0 g1 g2 cl cb ct nl nb hs hsc hr
  grind
end
section
open Ieee
theorem prod_small {al ah bl bh B : Int} (ha : Sp1 al ah) (hb : Sp1 bl bh) (h1 : -B ≤ bl) (h2 : bh ≤ B) (B0 : 0 ≤ B) : -(B + 1) ≤ pLo al ah bl bh 1000000000 ∧ pHi al ah bl bh 1000000000 ≤ B + 1 := by
  obtain ⟨-, ⟨a, b, ea, eb, k2⟩, ⟨c, d, ec, ed, k3⟩⟩ := prod_ends ha hb
  obtain ⟨ao, a0, a1⟩ := ha
  obtain ⟨bo, -, -⟩ := hb
  have bd : ∀ x y : Int, -1000000000 ≤ x → x ≤ 1000000000 → -B ≤ y → y ≤ B → -(1000000000 * B) ≤ x * y ∧ x * y ≤ 1000000000 * B := by
    intro x y x0 x1 y0 y1
    have h1 := Int.mul_nonneg (show 0 ≤ 1000000000 - x by omega) (show 0 ≤ B - y by omega)
    have h2 := Int.mul_nonneg (show 0 ≤ 1000000000 + x by omega) (show 0 ≤ B + y by omega)
    have h3 := Int.mul_nonneg (show 0 ≤ 1000000000 - x by omega) (show 0 ≤ B + y by omega)
    have h4 := Int.mul_nonneg (show 0 ≤ 1000000000 + x by omega) (show 0 ≤ B - y by omega)
    constructor <;> grind
  have u1 := (bd a b (by omega) (by omega) (by omega) (by omega)).1
  have u2 := (bd c d (by omega) (by omega) (by omega) (by omega)).2
  clear bd
  generalize pLo al ah bl bh 1000000000 = L at *
  generalize pHi al ah bl bh 1000000000 = H at *
  generalize a * b = u at *
  generalize c * d = v at *
  constructor <;> omega
theorem eqX_sp {l0 l1 b0 b1 : Int} (hl : l0 ≤ l1) (hb : b0 ≤ b1) : Sp1 (eqX0 l0 l1 b0 b1) (eqX1 l0 l1 b0 b1) := prod_sp (cov_sp hb) (cov_sp hl)
theorem eqY_bd {l0 l1 b0 b1 : Int} (hl : l0 ≤ l1) (hb : b0 ≤ b1) : eqY0 l0 l1 b0 b1 ≤ eqY1 l0 l1 b0 b1 ∧ -1315258757 ≤ eqY0 l0 l1 b0 b1 ∧ eqY1 l0 l1 b0 b1 ≤ 1315258757 := by
  obtain ⟨-, -, tes, tcs⟩ := tilt_in
  have p1 := prod_small (eqA_sp hl hb) tcs (B := 917482417) (by decide) (by decide) (by decide)
  have p2 := prod_small (sov_sp _ _ hb) tes (B := 397776338) (by decide) (by decide) (by decide)
  have q1 := (prod_sp (eqA_sp hl hb) tcs).o
  have q2 := (prod_sp (sov_sp _ _ hb) tes).o
  unfold eqY0 eqY1 eqP0 eqP1 eqQ0 eqQ1
  omega
theorem eqZ_bd {l0 l1 b0 b1 : Int} (hl : l0 ≤ l1) (hb : b0 ≤ b1) : eqZ0 l0 l1 b0 b1 ≤ eqZ1 l0 l1 b0 b1 ∧ -1315258757 ≤ eqZ0 l0 l1 b0 b1 ∧ eqZ1 l0 l1 b0 b1 ≤ 1315258757 := by
  obtain ⟨-, -, tes, tcs⟩ := tilt_in
  have p1 := prod_small (eqA_sp hl hb) tes (B := 397776338) (by decide) (by decide) (by decide)
  have p2 := prod_small (sov_sp _ _ hb) tcs (B := 917482417) (by decide) (by decide) (by decide)
  have q1 := (prod_sp (eqA_sp hl hb) tes).o
  have q2 := (prod_sp (sov_sp _ _ hb) tcs).o
  unfold eqZ0 eqZ1 eqR0 eqR1 eqS0 eqS1
  omega
theorem rabs_int {n B : Int} (h1 : -B ≤ n) (h2 : n ≤ B) : rabs (n : Rat) ≤ (B : Rat) := by
  have a := icast h1
  have b := icast h2
  push_cast at a
  exact rabs_le.2 ⟨b, a⟩
/-- The arc of the rectangle holds the direction, by the reference's test. -/
theorem eq_inArc {l0 l1 b0 b1 : Int} {zl zb : Rat} (p : Pt l0 l1 b0 b1 zl zb) {D0 L H : Rat} {E : Nat → Rat} (hv : ArcV (eqY0 l0 l1 b0 b1) (eqY1 l0 l1 b0 b1) (eqX0 l0 l1 b0 b1) (eqX1 l0 l1 b0 b1) D0 E L H)
    (hw : arcHi (eqY0 l0 l1 b0 b1) (eqY1 l0 l1 b0 b1) (eqX0 l0 l1 b0 b1) (eqX1 l0 l1 b0 b1) - arcLo (eqY0 l0 l1 b0 b1) (eqY1 l0 l1 b0 b1) (eqX0 l0 l1 b0 b1) (eqX1 l0 l1 b0 b1) ≤ 400000000) {u v : Int} (hu : rabs ((u : Rat) - uQ * pY zl zb) ≤ 100000000) (hv2 : rabs ((v : Rat) - uQ * pX zl zb) ≤ 100000000)
    (bu : rabs (u : Rat) ≤ 1160000000000000000) (bv : rabs (v : Rat) ≤ 1160000000000000000) :
    InArcOk (arcLo (eqY0 l0 l1 b0 b1) (eqY1 l0 l1 b0 b1) (eqX0 l0 l1 b0 b1) (eqX1 l0 l1 b0 b1) % 1000000000) (arcHi (eqY0 l0 l1 b0 b1) (eqY1 l0 l1 b0 b1) (eqX0 l0 l1 b0 b1) (eqX1 l0 l1 b0 b1) % 1000000000) u v := by
  obtain ⟨ix, iy, -⟩ := eq_in p
  have sx := eqX_sp p.hl p.hb
  have sy := eqY_bd p.hl p.hb
  generalize eqX0 l0 l1 b0 b1 = x0 at *
  generalize eqX1 l0 l1 b0 b1 = x1 at *
  generalize eqY0 l0 l1 b0 b1 = y0 at *
  generalize eqY1 l0 l1 b0 b1 = y1 at *
  have c1 := arc_corners hv hw (y := y0) (x := x0) (.inl rfl) (.inl rfl)
  have c2 := arc_corners hv hw (y := y1) (x := x0) (.inr rfl) (.inl rfl)
  have c3 := arc_corners hv hw (y := y0) (x := x1) (.inl rfl) (.inr rfl)
  have c4 := arc_corners hv hw (y := y1) (x := x1) (.inr rfl) (.inr rfl)
  have m1 := emod_bd (arcLo y0 y1 x0 x1)
  have m2 := emod_bd (arcHi y0 y1 x0 x1)
  have q1 := rabs_int (n := x0) (B := 1100000000) (by have := sx.b0; omega) (by have := sx.b1; have := sx.o; omega)
  have q2 := rabs_int (n := x1) (B := 1100000000) (by have := sx.b0; have := sx.o; omega) (by have := sx.b1; omega)
  have q3 := rabs_int (n := y0) (B := 1400000000) (by omega) (by omega)
  have q4 := rabs_int (n := y1) (B := 1400000000) (by omega) (by omega)
  have near := rect_near m1.1 m1.2 m2.1 m2.2 c1 c2 c3 c4 q1 q2 q3 q4 ix.1 ix.2 iy.1 iy.2
  refine inArc_near m1.1 m1.2 m2.1 m2.2 near ?_ ?_ bu bv
  · rw [show 1000000000 * pY zl zb / 1000000000 = pY zl zb by grind]; exact hu
  · rw [show 1000000000 * pX zl zb / 1000000000 = pX zl zb by grind]; exact hv2
/-- The declination's interval holds that of the point, by the reference's test. -/
theorem eq_inAsin {l0 l1 b0 b1 : Int} {zl zb : Rat} (p : Pt l0 l1 b0 b1 zl zb) {z : Int} (hz : rabs ((z : Rat) - uQ * pZ zl zb) ≤ 100000000) (bz : rabs (pZ zl zb) ≤ 1 + 1 / 1000000000) : InAsin (asLo (eqZ0 l0 l1 b0 b1)) (asHi (eqZ1 l0 l1 b0 b1)) z := by
  obtain ⟨-, -, i1, i2⟩ := eq_in p
  have bz := rabs_le.1 bz
  have cn : ((-1000000000 : Int) : Rat) = -1000000000 := rfl
  have cp : ((1000000000 : Int) : Rat) = 1000000000 := rfl
  have cl : ∀ a : Int, cl9 a = a ∨ (cl9 a = -1000000000 ∧ a ≤ -1000000000) ∨ (cl9 a = 1000000000 ∧ 1000000000 ≤ a) := by intro a; unfold cl9; omega
  refine inAsin_of hz ?_ ?_
  · have h := as_low (eqZ0 l0 l1 b0 b1) (z := pZ zl zb + 1 / 1000000000) (by
      rcases cl (eqZ0 l0 l1 b0 b1) with h | ⟨h, g⟩ | ⟨h, g⟩
      · rw [h]; grind
      · rw [h, cn]; grind
      · rw [h, cp]
        have g := icast g
        rw [cp] at g; grind)
    grind
  · have h := as_high (eqZ1 l0 l1 b0 b1) (z := pZ zl zb - 1 / 1000000000) (by
      rcases cl (eqZ1 l0 l1 b0 b1) with h | ⟨h, g⟩ | ⟨h, g⟩
      · rw [h]; grind
      · rw [h, cn]
        have g := icast g
        rw [cn] at g; grind
      · rw [h, cp]; grind)
    grind
/-- A small rectangle around a point off the axis. -/
theorem box_of {yl yh xl xh : Int} {x y A B r ρ κ : Rat} (ix : InU xl xh x (1/10)) (iy : InU yl yh y (1/10)) (hx : xl ≤ xh) (hy : yl ≤ yh) (wx : (xh : Rat) - xl ≤ A) (wy : (yh : Rat) - yl ≤ B) (bx : rabs x ≤ 1 + 1 / 1000000) (by' : rabs y ≤ 1 + 1 / 1000000)
    (hr : r ≤ x * x + y * y) (hρ : 100000000 ≤ ρ) (k0 : 0 ≤ κ) (k1 : κ ≤ 1/20) (hA : A ≤ 50000000) (hB : B ≤ 50000000) (hnum : ρ * ρ + 2100000000 * (A + B + 4/10) ≤ 1000000000000000000 * r) (hd : A * A + B * B ≤ κ * ρ * (κ * ρ)) : Box yl yh xl xh ρ κ := by
  obtain ⟨x1, x2⟩ := ix
  obtain ⟨y1, y2⟩ := iy
  have hx := icast hx
  have hy := icast hy
  have bx := rabs_le.1 bx
  have by' := rabs_le.1 by'
  have sq : ∀ z : Rat, 0 ≤ z * z := fun z => by rw [← rabs_sq]; exact Rat.mul_nonneg (rabs_nonneg z) (rabs_nonneg z)
  refine ⟨hρ, k0, k1, ?_, ?_⟩
  · intro x' y' hx' hy'
    have gx : rabs ((x' : Rat) - 1000000000 * x) ≤ A + 1/10 := by rcases hx' with rfl | rfl <;> exact rabs_le.2 ⟨by clear sq; grind, by clear sq; grind⟩
    have gy : rabs ((y' : Rat) - 1000000000 * y) ≤ B + 1/10 := by rcases hy' with rfl | rfl <;> exact rabs_le.2 ⟨by clear sq; grind, by clear sq; grind⟩
    have gx' := rabs_le.1 gx
    have gy' := rabs_le.1 gy
    refine ⟨rabs_le.2 ⟨by clear sq; grind, by clear sq; grind⟩, rabs_le.2 ⟨by clear sq; grind, by clear sq; grind⟩, ?_⟩
    have m1 := rabs_le.1 (mul_rabs (a := x) (rabs_le.2 bx) gx)
    have m2 := rabs_le.1 (mul_rabs (a := y) (rabs_le.2 by') gy)
    have s1 := sq ((x' : Rat) - 1000000000 * x)
    have s2 := sq ((y' : Rat) - 1000000000 * y)
    have e : (x' : Rat) * x' + (y' : Rat) * y' = 1000000000000000000 * (x * x + y * y) + 2000000000 * (x * ((x' : Rat) - 1000000000 * x)) + 2000000000 * (y * ((y' : Rat) - 1000000000 * y)) + ((x' : Rat) - 1000000000 * x) * ((x' : Rat) - 1000000000 * x) + ((y' : Rat) - 1000000000 * y) * ((y' : Rat) - 1000000000 * y) := by grind
    rw [e]
    generalize x * ((x' : Rat) - 1000000000 * x) = u at *
    generalize y * ((y' : Rat) - 1000000000 * y) = v at *
    generalize ((x' : Rat) - 1000000000 * x) * ((x' : Rat) - 1000000000 * x) = p at *
    generalize ((y' : Rat) - 1000000000 * y) * ((y' : Rat) - 1000000000 * y) = q at *
    generalize x * x + y * y = n at *
    generalize ρ * ρ = rr at *
    have A0 : 0 ≤ A + 1/10 := by have := rabs_nonneg ((x' : Rat) - 1000000000 * x); clear sq; grind
    have B0 : 0 ≤ B + 1/10 := by have := rabs_nonneg ((y' : Rat) - 1000000000 * y); clear sq; grind
    clear sq e gx gy gx' gy' hd
    grind
  · have a := sq_le_sq (show 0 ≤ (xh : Rat) - xl by clear sq; grind) wx
    have b := sq_le_sq (show 0 ≤ (yh : Rat) - yl by clear sq; grind) wy
    generalize κ * ρ * (κ * ρ) = K at *
    clear sq
    grind
theorem Box.off {yl yh xl xh : Int} {ρ κ : Rat} (b : Box yl yh xl xh ρ κ) : ¬ (yl ≤ 0 ∧ 0 ≤ yh ∧ xl ≤ 0 ∧ 0 ≤ xh) := by
  rintro ⟨h1, h2, h3, h4⟩
  obtain ⟨hr, k0, k1, hb, hd⟩ := b
  obtain ⟨-, -, hn⟩ := hb xl yl (.inl rfl) (.inl rfl)
  have h1 := icast h1
  have h2 := icast h2
  have h3 := icast h3
  have h4 := icast h4
  have c0 : ((0 : Int) : Rat) = 0 := rfl
  rw [c0] at h1 h2 h3 h4
  have a := sq_le_sq (show 0 ≤ -(xl : Rat) by grind) (show -(xl : Rat) ≤ (xh : Rat) - xl by grind)
  have c := sq_le_sq (show 0 ≤ -(yl : Rat) by grind) (show -(yl : Rat) ≤ (yh : Rat) - yl by grind)
  have p := Rat.mul_le_mul_of_nonneg_right k1 (show 0 ≤ ρ by grind)
  have q := sq_le_sq (Rat.mul_nonneg k0 (show 0 ≤ ρ by grind)) p
  have r2 := sq_le_sq (show (0 : Rat) ≤ 100000000 by grind) hr
  clear hb
  grind
theorem Box.narrow {yl yh xl xh : Int} {ρ κ D0 L H : Rat} {E : Nat → Rat} (b : Box yl yh xl xh ρ κ) (hv : ArcV yl yh xl xh D0 E L H) : arcHi yl yh xl xh - arcLo yl yh xl xh ≤ 400000000 := by
  have h := arc_wide b hv
  have k1 := b.k1
  obtain ⟨t1, t2, -⟩ := tq_num
  generalize arcHi yl yh xl xh - arcLo yl yh xl xh = n at *
  by_cases q : n ≤ 400000000
  · exact q
  · exfalso
    have := tq_le (icast (show 400000000 ≤ n by omega))
    have c : ((400000000 : Int) : Rat) = 400000000 := rfl
    rw [c] at this
    have lim : tq * 400000000 ≥ 2 := by decide +kernel
    grind
/-- The width of a converted interval. -/
theorem eq_widths {l0 l1 b0 b1 : Int} (hl : l0 ≤ l1) (hb : b0 ≤ b1) {wl wb : Rat} (h1 : 62832 / 10000 * ((l1 - l0 : Int) : Rat) + 225/100 ≤ wl) (h2 : 62832 / 10000 * ((b1 - b0 : Int) : Rat) + 225/100 ≤ wb) :
    ((eqX1 l0 l1 b0 b1 : Int) : Rat) - eqX0 l0 l1 b0 b1 ≤ wl + wb + 2 ∧ ((eqY1 l0 l1 b0 b1 : Int) : Rat) - eqY0 l0 l1 b0 b1 ≤ 9175/10000 * (wl + wb + 2) + 3978/10000 * wb + 6 ∧ ((eqZ1 l0 l1 b0 b1 : Int) : Rat) - eqZ0 l0 l1 b0 b1 ≤ 3978/10000 * (wl + wb + 2) + 9175/10000 * wb + 6 := by
  obtain ⟨-, -, tes, tcs⟩ := tilt_in
  have one : ∀ {l h : Int}, Sp1 l h → rabs (l : Rat) ≤ 1000000000 ∧ rabs (h : Rat) ≤ 1000000000 := by
    intro l h s
    obtain ⟨o, a, b⟩ := s
    exact ⟨rabs_int (B := 1000000000) (by omega) (by omega), rabs_int (B := 1000000000) (by omega) (by omega)⟩
  have v1 := (over_ok l0 l1 hl).w
  have v2 := (over_ok b0 b1 hb).w
  have v3 := (over_ok (covB l0) (covE l0 l1) (by unfold covB covE; omega)).w
  have v4 := (over_ok (covB b0) (covE b0 b1) (by unfold covB covE; omega)).w
  have w3 := icast (show covE l0 l1 - covB l0 ≤ l1 - l0 by unfold covB covE; omega)
  have w4 := icast (show covE b0 b1 - covB b0 ≤ b1 - b0 by unfold covB covE; omega)
  have sB := sov_sp _ _ hb
  have sL := sov_sp _ _ hl
  have cB := cov_sp hb
  have cL := cov_sp hl
  have A := eqA_sp hl hb
  have pa := prod_wide cB sL (one cB).1 (one cB).2 (one sL).1 (one sL).2
  have px := prod_wide cB cL (one cB).1 (one cB).2 (one cL).1 (one cL).2
  have t1 := rabs_int (n := 917482416) (B := 917482417) (by decide) (by decide)
  have t2 := rabs_int (n := 917482417) (B := 917482417) (by decide) (by decide)
  have t3 := rabs_int (n := 397776337) (B := 397776338) (by decide) (by decide)
  have t4 := rabs_int (n := 397776338) (B := 397776338) (by decide) (by decide)
  have pp := prod_wide A tcs (one A).1 (one A).2 t1 t2
  have pq := prod_wide sB tes (one sB).1 (one sB).2 t3 t4
  have pr := prod_wide A tes (one A).1 (one A).2 t3 t4
  have ps := prod_wide sB tcs (one sB).1 (one sB).2 t1 t2
  have n1 : ((917482417 : Int) : Rat) = 917482417 := rfl
  have n2 : ((917482416 : Int) : Rat) = 917482416 := rfl
  have n3 : ((397776338 : Int) : Rat) = 397776338 := rfl
  have n4 : ((397776337 : Int) : Rat) = 397776337 := rfl
  rw [n1, n2] at pp ps
  rw [n3, n4] at pq pr
  have oa := icast A.o
  have ob := icast sB.o
  clear t1 t2 t3 t4 n1 n2 n3 n4 one tes tcs A cL cB sL
  have fa : ((eqA1 l0 l1 b0 b1 : Int) : Rat) - eqA0 l0 l1 b0 b1 ≤ wl + wb + 2 := by
    unfold eqA0 eqA1
    clear pp pq pr ps px
    push_cast at pa v1 v2 v3 v4 w3 w4 h1 h2
    grind
  refine ⟨?_, ?_, ?_⟩
  · unfold eqX0 eqX1
    clear pa pp pq pr ps
    push_cast at px v1 v2 v3 v4 w3 w4 h1 h2
    grind
  · unfold eqY0 eqY1 eqP0 eqP1 eqQ0 eqQ1
    clear pa px pr ps v3 v4 w3 w4
    push_cast at pp pq v1 v2 h1 h2
    push_cast
    grind
  · unfold eqZ0 eqZ1 eqR0 eqR1 eqS0 eqS1
    clear pa px pp pq v3 v4 w3 w4
    push_cast at pr ps v1 v2 h1 h2
    push_cast
    grind
/-- The width of the interval of an arc sine. -/
theorem asin_wide {m n : Int} {s c0 : Rat} (hmn : m ≤ n) (m1 : -1000000000 ≤ m) (n1 : n ≤ 1000000000) (hm : rabs (m : Rat) ≤ 1000000000 * s) (hn : rabs (n : Rat) ≤ 1000000000 * s) (s1 : s ≤ 1) (hc : 1/10 ≤ c0) (hsc : c0 * c0 + (s + 1 / 1000000000) * (s + 1 / 1000000000) ≤ 1 - 1 / 1000000000) :
    c0 * (48/100) * (tq * ((asHi n - asLo m : Int) : Rat)) ≤ ((n - m : Int) : Rat) / 1000000000 + 2 / 100000000 := by
  have cm : cl9 m = m := by unfold cl9; omega
  have cn : cl9 n = n := by unfold cl9; omega
  obtain ⟨-, Dm, -, am, -, a1, a2, -, -⟩ := asin_run m m1 (by omega)
  obtain ⟨-, Dn, -, an, -, -, -, b3, b4⟩ := asin_run n (by omega) n1
  have lo : arLo (asinW m) ≤ asLo m := by unfold asLo; rw [cm]; omega
  have hi : asHi n ≤ arHi (asinW n) := by unfold asHi; rw [cn]; omega
  have lo := icast lo
  have hi := icast hi
  obtain ⟨t1, t2, -⟩ := tq_num
  have hp := pi_num
  have w : ((asHi n - asLo m : Int) : Rat) ≤ Dn - Dm + 3 := by push_cast; grind
  have w := tq_le w
  have hcn := icast hmn
  have s0 : 0 ≤ s := by have := rabs_nonneg (m : Rat); grind
  have c1 : c0 ≤ 1 := by
    by_cases q : c0 ≤ 1
    · exact q
    · exfalso
      have := sq_le_sq (show (0 : Rat) ≤ 1 by decide +kernel) (show 1 ≤ c0 by grind)
      have := Rat.mul_nonneg (show 0 ≤ s + 1 / 1000000000 by grind) (show 0 ≤ s + 1 / 1000000000 by grind)
      grind
  by_cases h : Dn ≤ Dm
  · have := tq_le (show Dn - Dm + 3 ≤ 3 by grind)
    have w2 : tq * ((asHi n - asLo m : Int) : Rat) ≤ 2 / 100000000 := by grind
    have k : 0 ≤ c0 * (48/100) := by grind
    have m2 := Rat.mul_le_mul_of_nonneg_left w2 k
    push_cast
    push_cast at m2
    grind
  · have bm := rabs_le.1 am.b
    have bn := rabs_le.1 an.b
    have sm := rabs_le.1 am.s
    have sn := rabs_le.1 an.s
    have hm := rabs_le.1 hm
    have hn := rabs_le.1 hn
    have dd := tq_le (show 0 ≤ Dn - Dm by grind)
    obtain ⟨x, hx⟩ : ∃ x, tq * Dm = x := ⟨_, rfl⟩
    obtain ⟨y, hy⟩ : ∃ y, tq * Dn = y := ⟨_, rfl⟩
    rw [hx] at bm sm
    rw [hy] at bn sn
    have xy : x ≤ y := by grind
    obtain ⟨e1, -⟩ := sin_diff (m := (x + y) / 2) (d := (y - x) / 2) (rabs_le.2 ⟨by grind, by grind⟩) (rabs_le.2 ⟨by grind, by grind⟩)
    rw [show (x + y) / 2 + (y - x) / 2 = y by grind, show (x + y) / 2 - (y - x) / 2 = x by grind] at e1
    have e1 := rabs_le.1 e1
    have q1 := sin_mono (x := x) (y := (x + y) / 2) (by grind) (rabs_le.2 ⟨by grind, by grind⟩) (rabs_le.2 ⟨by grind, by grind⟩)
    have q2 := sin_mono (x := (x + y) / 2) (y := y) (by grind) (rabs_le.2 ⟨by grind, by grind⟩) (rabs_le.2 ⟨by grind, by grind⟩)
    have cu := C_up (d := 1 / 1000000000) (x := (x + y) / 2) (by grind) (by grind) (by grind) (by grind)
    have ci := rabs_le.1 (circ9 (y := (x + y) / 2) (rabs_le.2 ⟨by grind, by grind⟩))
    have sl := (S_lin (x := (y - x) / 2) (by grind) (by grind)).1
    have sb : rabs (S ((x + y) / 2)) ≤ s + 1 / 1000000000 := rabs_le.2 ⟨by grind, by grind⟩
    have sq := sq_le_sq (rabs_nonneg _) sb
    rw [rabs_sq] at sq
    generalize S ((x + y) / 2) = sM at *
    generalize C ((x + y) / 2) = cM at *
    generalize S ((y - x) / 2) = sD at *
    have cc : c0 * c0 ≤ rabs cM * rabs cM := by rw [rabs_sq]; grind
    have c2 := (rabs_le.1 (sq_rabs (rabs_nonneg cM) cc)).1
    have c3 : c0 ≤ cM := by
      unfold rabs at c2
      split at c2
      · exact c2
      · grind
    have d0 : 0 ≤ (y - x) / 2 := by grind
    have d1 : 48/100 * ((y - x) / 2) ≤ sD := by grind
    have p1 := Rat.mul_le_mul_of_nonneg_right c3 (show 0 ≤ sD by grind)
    have p2 := Rat.mul_le_mul_of_nonneg_left d1 (show 0 ≤ c0 by grind)
    have fin : c0 * (48/100) * (y - x) ≤ ((n : Rat) - m) / 1000000000 + 3 / 10000000000 := by grind
    have k : 0 ≤ c0 * (48/100) := by grind
    have w2 : tq * ((asHi n - asLo m : Int) : Rat) ≤ (y - x) + 19 / 1000000000 := by rw [← hx, ← hy]; grind
    have m2 := Rat.mul_le_mul_of_nonneg_left w2 k
    push_cast
    push_cast at m2
    clear w w2 p1 p2 e1 q1 q2 cu ci sl sb sq cc c2 lo hi a1 a2 b3 b4
    grind
end
section
open Ieee
/-- The argument of an angle in the unit 1 / 2^20. -/
def argU (v : Int) : Int := v % 1048576000000000 / 1048576 * 1000000 + v % 1048576000000000 % 1048576 * 1000000 / 1048576
theorem argU_bd (v : Int) : 0 ≤ argU v ∧ argU v < 1000000000000000 := by unfold argU; omega
def tiltA : Int := 65109000000000
def dirX (lon lat : Int) : Int := fm (sc (argU lat)).2 (sc (argU lon)).2
def dirY (lon lat : Int) : Int := fm (fm (sc (argU lat)).2 (sc (argU lon)).1) (sc tiltA).2 - fm (sc (argU lat)).1 (sc tiltA).1
def dirZ (lon lat : Int) : Int := fm (fm (sc (argU lat)).2 (sc (argU lon)).1) (sc tiltA).1 + fm (sc (argU lat)).1 (sc tiltA).2
/-- The angle of an argument in billionths of a turn. -/
def zA (a : Int) : Rat := (a : Rat) / 1000000
theorem zA_bd {a : Int} (h0 : 0 ≤ a) (h1 : a < 1000000000000000) : 0 ≤ zA a ∧ zA a ≤ 1000000000 := by
  have g0 := icast h0
  have g1 := icast (show a ≤ 1000000000000000 by omega)
  have c0 : ((0 : Int) : Rat) = 0 := rfl
  have c1 : ((1000000000000000 : Int) : Rat) = 1000000000000000 := rfl
  rw [c0] at g0
  rw [c1] at g1
  unfold zA
  constructor <;> grind
theorem sc_zA {a : Int} (h0 : 0 ≤ a) (h1 : a < 1000000000000000) : rabs (((sc a).1 : Rat) - uQ * S (tq * zA a)) ≤ 180000 ∧ rabs (((sc a).2 : Rat) - uQ * C (tq * zA a)) ≤ 180000 := by
  have h := sc_near3 h0 (show a ≤ 1000000000000000 by omega)
  have e : ang a = tq * zA a := by unfold ang zA tq; grind
  rw [e] at h
  obtain ⟨⟨h1, h2⟩, ⟨h3, h4⟩⟩ := h
  exact ⟨rabs_le.2 ⟨by grind, by grind⟩, rabs_le.2 ⟨by grind, by grind⟩⟩
theorem fm_two {s u : Int} {σ υ a b : Rat} (hs : rabs ((s : Rat) - uQ * σ) ≤ a) (hu : rabs ((u : Rat) - uQ * υ) ≤ b) (ha : a ≤ 10000000) (hb : b ≤ 10000000) (bσ : rabs σ ≤ 1 + 1 / 1000000) (bυ : rabs υ ≤ 1 + 1 / 1000000) : rabs ((fm s u : Rat) - uQ * (σ * υ)) ≤ 102/100 * (a + b) + 2 := by
  obtain ⟨f1, f2⟩ := fm_near s u
  have u0 : (0 : Rat) < uQ := by decide +kernel
  have a0 : 0 ≤ a := by have := rabs_nonneg ((s : Rat) - uQ * σ); grind
  have b0 : 0 ≤ b := by have := rabs_nonneg ((u : Rat) - uQ * υ); grind
  have m1 := rabs_le.1 (mul_rabs bσ hu)
  have hu' : rabs (u : Rat) ≤ uQ * (101/100) := by
    have k := rabs_le.1 hu
    have l := rabs_le.1 (mul_rabs (a := uQ) (A := uQ) (by rw [rabs_pos (by decide +kernel)]; exact Rat.le_refl) bυ)
    have hU : 1000000000000000000 ≤ uQ := by decide +kernel
    exact rabs_le.2 ⟨by grind, by grind⟩
  have m2 := rabs_le.1 (mul_rabs hs hu')
  have e : (s : Rat) * u = uQ * (uQ * (σ * υ)) + uQ * (σ * ((u : Rat) - uQ * υ)) + ((s : Rat) - uQ * σ) * u := by grind
  rw [e] at f1 f2
  generalize ((s : Rat) - uQ * σ) * u = d at *
  generalize σ * ((u : Rat) - uQ * υ) = g at *
  generalize σ * υ = z at *
  generalize (fm s u : Rat) = F at *
  have n1 := Rat.mul_le_mul_of_nonneg_left m1.1 (show 0 ≤ uQ by grind)
  have n2 := Rat.mul_le_mul_of_nonneg_left m1.2 (show 0 ≤ uQ by grind)
  have ua := Rat.mul_nonneg (show 0 ≤ uQ by grind) a0
  have ub := Rat.mul_nonneg (show 0 ≤ uQ by grind) b0
  have k1 : (F - uQ * z) * uQ ≤ (102/100 * (a + b) + 2) * uQ := by grind
  have k2 : -(102/100 * (a + b) + 2) * uQ ≤ (F - uQ * z) * uQ := by grind
  exact rabs_le.2 ⟨Rat.le_of_mul_le_mul_right k1 u0, Rat.le_of_mul_le_mul_right k2 u0⟩
/-- A number near a fraction of at most about 1 fits. -/
theorem fine_bd {n : Int} {x : Rat} (h : rabs ((n : Rat) - uQ * x) ≤ 100000000) (bx : rabs x ≤ 1 + 1 / 1000000) : rabs (n : Rat) ≤ 1160000000000000000 ∧ -1160000000000000000 ≤ n ∧ n ≤ 1160000000000000000 := by
  have h := rabs_le.1 h
  have l := rabs_le.1 (mul_rabs (a := uQ) (A := uQ) (by rw [rabs_pos (by decide +kernel)]; exact Rat.le_refl) bx)
  have hU : uQ = 1152921504606846976 := rfl
  rw [hU] at h l
  have r1 : (n : Rat) ≤ 1160000000000000000 := by grind
  have r2 : -1160000000000000000 ≤ (n : Rat) := by grind
  have c1 : ((1160000000000000000 : Int) : Rat) = 1160000000000000000 := rfl
  have c2 : ((-1160000000000000000 : Int) : Rat) = -1160000000000000000 := rfl
  refine ⟨rabs_le.2 ⟨r1, r2⟩, ?_, ?_⟩
  · rw [← c2] at r2; exact Rat.intCast_le_intCast.1 r2
  · rw [← c1] at r1; exact Rat.intCast_le_intCast.1 r1
/-- What the reference's direction is worth. -/
structure DirOk (lon lat : Int) : Prop where
  x : rabs ((dirX lon lat : Rat) - uQ * pX (zA (argU lon)) (zA (argU lat))) ≤ 10000000
  y : rabs ((dirY lon lat : Rat) - uQ * pY (zA (argU lon)) (zA (argU lat))) ≤ 10000000
  z : rabs ((dirZ lon lat : Rat) - uQ * pZ (zA (argU lon)) (zA (argU lat))) ≤ 10000000
theorem dir_ok (lon lat : Int) : DirOk lon lat := by
  obtain ⟨l0, l1⟩ := argU_bd lon
  obtain ⟨b0, b1⟩ := argU_bd lat
  obtain ⟨sl, cl⟩ := sc_zA l0 l1
  obtain ⟨sb, cb⟩ := sc_zA b0 b1
  have t := sc_zA (a := tiltA) (by decide) (by decide)
  have et : zA tiltA = 65109000 := by decide +kernel
  rw [et] at t
  have ts : rabs (((sc tiltA).1 : Rat) - uQ * se9) ≤ 180000 := t.1
  have tc : rabs (((sc tiltA).2 : Rat) - uQ * ce9) ≤ 180000 := t.2
  obtain ⟨zl0, zl1⟩ := zA_bd l0 l1
  obtain ⟨zb0, zb1⟩ := zA_bd b0 b1
  have nl := sc_one zl0 zl1
  have nb := sc_one zb0 zb1
  obtain ⟨q1, q2, q3, q4⟩ := tilt_num
  have ne : rabs se9 ≤ 1 + 1 / 1000000 := rabs_le.2 ⟨by grind, by grind⟩
  have nc : rabs ce9 ≤ 1 + 1 / 1000000 := rabs_le.2 ⟨by grind, by grind⟩
  have w1 : rabs (S (tq * zA (argU lon))) ≤ 1 + 1 / 1000000 := by have := nl.1; grind
  have w2 : rabs (C (tq * zA (argU lon))) ≤ 1 + 1 / 1000000 := by have := nl.2; grind
  have w3 : rabs (S (tq * zA (argU lat))) ≤ 1 + 1 / 1000000 := by have := nb.1; grind
  have w4 : rabs (C (tq * zA (argU lat))) ≤ 1 + 1 / 1000000 := by have := nb.2; grind
  have w5 : rabs (C (tq * zA (argU lat)) * S (tq * zA (argU lon))) ≤ 1 + 1 / 1000000 := by have := mul_rabs nb.2 nl.1; grind
  have X := fm_two cb cl (by grind) (by grind) w4 w2
  have A := fm_two cb sl (by grind) (by grind) w4 w1
  have P := fm_two A tc (by grind) (by grind) w5 nc
  have R := fm_two A ts (by grind) (by grind) w5 ne
  have Q := fm_two sb ts (by grind) (by grind) w3 ne
  have U := fm_two sb tc (by grind) (by grind) w3 nc
  have P := rabs_le.1 P
  have R := rabs_le.1 R
  have Q := rabs_le.1 Q
  have U := rabs_le.1 U
  refine ⟨?_, ?_, ?_⟩
  · unfold dirX pX; grind
  · unfold dirY pY
    rw [rabs_le]; push_cast
    constructor <;> grind
  · unfold dirZ pZ
    rw [rabs_le]; push_cast
    constructor <;> grind
end
end Go.Proofs.YtcgnhnmigmdalaaGreatDoor
