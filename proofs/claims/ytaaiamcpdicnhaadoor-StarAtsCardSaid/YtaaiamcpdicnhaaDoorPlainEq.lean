/- Products of intervals of sines; the conversion to the equator. No program in sight. -/
import Derived.Test.YtaaiamcpdicnhaaDoorPlainOvR
import Derived.Test.YtaaiamcpdicnhaaDoorPlainBox2
import Derived.Test.YtaaiamcpdicnhaaDoorIvA
import Derived.Test.YtaaiamcpdicnhaaDoorWkP
import Derived.Test.YtaaiamcpdicnhaaDoorTrD
set_option linter.unusedVariables false
set_option linter.unusedSimpArgs false
namespace Go.Proofs.YtaaiamcpdicnhaaDoor
open Ieee
theorem cov_any {lo hi k : Int} {z : Rat} (hlh : lo ≤ hi) (z0 : 0 ≤ z) (z1 : z ≤ 1000000000) (h1 : (lo : Rat) - 1/500 ≤ z + (k : Rat) * 1000000000) (h2 : z + (k : Rat) * 1000000000 ≤ (hi : Rat) + 1/500) :
    InU (sovLo (covB lo) (covE lo hi)) (sovHi (covB lo) (covE lo hi)) (C (tq * z)) (25/1000) := by
  have e := turn_split lo
  have b0 := (emod_bd lo).1
  have b1 := (emod_bd lo).2
  unfold covB covE
  generalize lo % 1000000000 = b at *
  generalize hq : lo / 1000000000 = q at *
  by_cases h : hi - lo ≤ 2000000000
  · rw [show min (hi - lo) 2000000000 = hi - lo by omega, show b + 250000000 + (hi - lo) = b + (hi - lo) + 250000000 by omega]
    refine (over_any (lo := b) (hi := b + (hi - lo)) (k := k - q) (by omega) z0 z1 ?_ ?_).2
    · push_cast; grind
    · push_cast; grind
  · rw [show min (hi - lo) 2000000000 = 2000000000 by omega, show b + 250000000 + 2000000000 = b + 2000000000 + 250000000 by omega]
    have B0 := icast b0
    have B1 := icast (show b ≤ 999999999 by omega)
    have c0 : ((0 : Int) : Rat) = 0 := rfl
    have c1 : ((1 : Int) : Rat) = 1 := rfl
    have cc : ((999999999 : Int) : Rat) = 999999999 := rfl
    have c2 : ((2000000000 : Int) : Rat) = 2000000000 := rfl
    rw [c0] at B0
    rw [cc] at B1
    by_cases g : (b : Rat) ≤ z
    · refine (over_any (lo := b) (hi := b + 2000000000) (k := 0) (by omega) z0 z1 ?_ ?_).2
      · rw [c0]; grind
      · rw [c0]; push_cast; grind
    · refine (over_any (lo := b) (hi := b + 2000000000) (k := 1) (by omega) z0 z1 ?_ ?_).2
      · rw [c1]; grind
      · rw [c1]; push_cast; grind
theorem bilin_lo {al ah bl bh X Y : Rat} (a1 : al ≤ X) (a2 : X ≤ ah) (b1 : bl ≤ Y) (b2 : Y ≤ bh) : al * bl ≤ X * Y ∨ al * bh ≤ X * Y ∨ ah * bl ≤ X * Y ∨ ah * bh ≤ X * Y := by
  have lin : ∀ s p q x : Rat, p ≤ x → x ≤ q → s * p ≤ s * x ∨ s * q ≤ s * x := by
    intro s p q x h1 h2
    by_cases h : 0 ≤ s
    · exact .inl (Rat.mul_le_mul_of_nonneg_left h1 h)
    · right
      have := Rat.mul_le_mul_of_nonneg_left h2 (show 0 ≤ -s by grind)
      grind
  rcases lin Y al ah X a1 a2 with h | h
  · rcases lin al bl bh Y b1 b2 with g | g
    · left; clear lin; grind
    · right; left; clear lin; grind
  · rcases lin ah bl bh Y b1 b2 with g | g
    · right; right; left; clear lin; grind
    · right; right; right; clear lin; grind
theorem bilin_hi {al ah bl bh X Y : Rat} (a1 : al ≤ X) (a2 : X ≤ ah) (b1 : bl ≤ Y) (b2 : Y ≤ bh) : X * Y ≤ al * bl ∨ X * Y ≤ al * bh ∨ X * Y ≤ ah * bl ∨ X * Y ≤ ah * bh := by
  have h := bilin_lo (al := -ah) (ah := -al) (X := -X) (Y := Y) (by grind) (by grind) b1 b2
  rcases h with h | h | h | h
  · right; right; left; grind
  · right; right; right; grind
  · left; grind
  · right; left; grind
/-- An interval of numbers from -1 to 1, in billionths. -/
structure Sp1 (l h : Int) : Prop where
  o : l ≤ h
  b0 : -1000000000 ≤ l
  b1 : h ≤ 1000000000
theorem mul9 {a b : Int} (a0 : -1000000000 ≤ a) (a1 : a ≤ 1000000000) (b0 : -1000000000 ≤ b) (b1 : b ≤ 1000000000) : -1000000000000000000 ≤ a * b ∧ a * b ≤ 1000000000000000000 := by
  have h1 := Int.mul_nonneg (show 0 ≤ 1000000000 - a by omega) (show 0 ≤ 1000000000 - b by omega)
  have h2 := Int.mul_nonneg (show 0 ≤ 1000000000 + a by omega) (show 0 ≤ 1000000000 + b by omega)
  have h3 := Int.mul_nonneg (show 0 ≤ 1000000000 - a by omega) (show 0 ≤ 1000000000 + b by omega)
  have h4 := Int.mul_nonneg (show 0 ≤ 1000000000 + a by omega) (show 0 ≤ 1000000000 - b by omega)
  constructor <;> grind
/-- A rounded product. -/
theorem rat9 {a b : Int} (a0 : -1000000000 ≤ a) (a1 : a ≤ 1000000000) (b0 : -1000000000 ≤ b) (b1 : b ≤ 1000000000) : ratLo a b 1000000000 * 1000000000 ≤ a * b ∧ a * b < (ratLo a b 1000000000 + 1) * 1000000000 ∧ a * b ≤ ratHi a b 1000000000 * 1000000000 ∧ (ratHi a b 1000000000 - 1) * 1000000000 < a * b := by
  obtain ⟨m1, m2⟩ := mul9 a0 a1 b0 b1
  obtain ⟨e1, e2⟩ := rat_x a b 1000000000
  rw [e1, e2]
  obtain ⟨p1, p2, -⟩ := rl_in (X := a * b) (d := 1000000000) (by decide) (by omega) (by omega)
  obtain ⟨q1, q2, -⟩ := rh_in (X := a * b) (d := 1000000000) (by decide) (by omega) (by omega)
  exact ⟨p1, p2, q1, q2⟩
theorem min4 (a b c d : Int) : (min (min (min a b) c) d ≤ a ∧ min (min (min a b) c) d ≤ b ∧ min (min (min a b) c) d ≤ c ∧ min (min (min a b) c) d ≤ d) ∧ (min (min (min a b) c) d = a ∨ min (min (min a b) c) d = b ∨ min (min (min a b) c) d = c ∨ min (min (min a b) c) d = d) := by omega
theorem max4 (a b c d : Int) : (a ≤ max (max (max a b) c) d ∧ b ≤ max (max (max a b) c) d ∧ c ≤ max (max (max a b) c) d ∧ d ≤ max (max (max a b) c) d) ∧ (max (max (max a b) c) d = a ∨ max (max (max a b) c) d = b ∨ max (max (max a b) c) d = c ∨ max (max (max a b) c) d = d) := by omega
/-- A corner that gives the least product, a corner that gives the greatest one. -/
theorem prod_ends {al ah bl bh : Int} (ha : Sp1 al ah) (hb : Sp1 bl bh) :
    (∀ a b : Int, (a = al ∨ a = ah) → (b = bl ∨ b = bh) → pLo al ah bl bh 1000000000 * 1000000000 ≤ a * b ∧ a * b ≤ pHi al ah bl bh 1000000000 * 1000000000) ∧
    (∃ a b : Int, (a = al ∨ a = ah) ∧ (b = bl ∨ b = bh) ∧ a * b < (pLo al ah bl bh 1000000000 + 1) * 1000000000) ∧ (∃ a b : Int, (a = al ∨ a = ah) ∧ (b = bl ∨ b = bh) ∧ (pHi al ah bl bh 1000000000 - 1) * 1000000000 < a * b) := by
  obtain ⟨ao, a0, a1⟩ := ha
  obtain ⟨bo, b0, b1⟩ := hb
  have r1 := rat9 (a := al) (b := bl) a0 (by omega) b0 (by omega)
  have r2 := rat9 (a := al) (b := bh) a0 (by omega) (by omega) b1
  have r3 := rat9 (a := ah) (b := bl) (by omega) a1 b0 (by omega)
  have r4 := rat9 (a := ah) (b := bh) (by omega) a1 (by omega) b1
  obtain ⟨⟨m1, m2, m3, m4⟩, m5⟩ := min4 (ratLo al bl 1000000000) (ratLo al bh 1000000000) (ratLo ah bl 1000000000) (ratLo ah bh 1000000000)
  obtain ⟨⟨n1, n2, n3, n4⟩, n5⟩ := max4 (ratHi al bl 1000000000) (ratHi al bh 1000000000) (ratHi ah bl 1000000000) (ratHi ah bh 1000000000)
  have eL : pLo al ah bl bh 1000000000 = min (min (min (ratLo al bl 1000000000) (ratLo al bh 1000000000)) (ratLo ah bl 1000000000)) (ratLo ah bh 1000000000) := rfl
  have eH : pHi al ah bl bh 1000000000 = max (max (max (ratHi al bl 1000000000) (ratHi al bh 1000000000)) (ratHi ah bl 1000000000)) (ratHi ah bh 1000000000) := rfl
  rw [← eL] at m1 m2 m3 m4 m5
  rw [← eH] at n1 n2 n3 n4 n5
  clear eL eH
  generalize pLo al ah bl bh 1000000000 = L at *
  generalize pHi al ah bl bh 1000000000 = H at *
  refine ⟨?_, ?_, ?_⟩
  · rintro a b (rfl | rfl) (rfl | rfl) <;> constructor <;> omega
  · rcases m5 with h | h | h | h <;> rw [h]
    · exact ⟨al, bl, .inl rfl, .inl rfl, r1.2.1⟩
    · exact ⟨al, bh, .inl rfl, .inr rfl, r2.2.1⟩
    · exact ⟨ah, bl, .inr rfl, .inl rfl, r3.2.1⟩
    · exact ⟨ah, bh, .inr rfl, .inr rfl, r4.2.1⟩
  · rcases n5 with h | h | h | h <;> rw [h]
    · exact ⟨al, bl, .inl rfl, .inl rfl, r1.2.2.2⟩
    · exact ⟨al, bh, .inl rfl, .inr rfl, r2.2.2.2⟩
    · exact ⟨ah, bl, .inr rfl, .inl rfl, r3.2.2.2⟩
    · exact ⟨ah, bh, .inr rfl, .inr rfl, r4.2.2.2⟩
theorem prod_sp {al ah bl bh : Int} (ha : Sp1 al ah) (hb : Sp1 bl bh) : Sp1 (pLo al ah bl bh 1000000000) (pHi al ah bl bh 1000000000) := by
  obtain ⟨h1, ⟨a, b, ea, eb, h2⟩, ⟨c, d, ec, ed, h3⟩⟩ := prod_ends ha hb
  obtain ⟨ao, a0, a1⟩ := ha
  obtain ⟨bo, b0, b1⟩ := hb
  obtain ⟨k1, k2⟩ := h1 al bl (.inl rfl) (.inl rfl)
  obtain ⟨m1, m2⟩ := mul9 (a := a) (b := b) (by omega) (by omega) (by omega) (by omega)
  obtain ⟨m3, m4⟩ := mul9 (a := c) (b := d) (by omega) (by omega) (by omega) (by omega)
  generalize pLo al ah bl bh 1000000000 = L at *
  generalize pHi al ah bl bh 1000000000 = H at *
  generalize al * bl = u at *
  generalize a * b = v at *
  generalize c * d = x at *
  exact ⟨by omega, by omega, by omega⟩
theorem prod_in {al ah bl bh : Int} (ha : Sp1 al ah) (hb : Sp1 bl bh) {X Y : Rat} (x1 : (al : Rat) ≤ X) (x2 : X ≤ (ah : Rat)) (y1 : (bl : Rat) ≤ Y) (y2 : Y ≤ (bh : Rat)) :
    ((pLo al ah bl bh 1000000000 : Int) : Rat) * 1000000000 ≤ X * Y ∧ X * Y ≤ ((pHi al ah bl bh 1000000000 : Int) : Rat) * 1000000000 := by
  obtain ⟨h1, -, -⟩ := prod_ends ha hb
  generalize pLo al ah bl bh 1000000000 = L at *
  generalize pHi al ah bl bh 1000000000 = H at *
  have c : ∀ a b : Int, (a = al ∨ a = ah) → (b = bl ∨ b = bh) → (L : Rat) * 1000000000 ≤ (a : Rat) * (b : Rat) ∧ (a : Rat) * (b : Rat) ≤ (H : Rat) * 1000000000 := by
    intro a b ea eb
    obtain ⟨g1, g2⟩ := h1 a b ea eb
    have g1 := icast g1
    have g2 := icast g2
    push_cast at g1 g2
    exact ⟨g1, g2⟩
  have c1 := c al bl (.inl rfl) (.inl rfl)
  have c2 := c al bh (.inl rfl) (.inr rfl)
  have c3 := c ah bl (.inr rfl) (.inl rfl)
  have c4 := c ah bh (.inr rfl) (.inr rfl)
  constructor
  · rcases bilin_lo x1 x2 y1 y2 with h | h | h | h
    · exact Rat.le_trans c1.1 h
    · exact Rat.le_trans c2.1 h
    · exact Rat.le_trans c3.1 h
    · exact Rat.le_trans c4.1 h
  · rcases bilin_hi x1 x2 y1 y2 with h | h | h | h
    · exact Rat.le_trans h c1.2
    · exact Rat.le_trans h c2.2
    · exact Rat.le_trans h c3.2
    · exact Rat.le_trans h c4.2
theorem diff_bd {a a' al ah : Int} {A : Rat} (h : a = al ∨ a = ah) (h' : a' = al ∨ a' = ah) (ho : al ≤ ah) (b1 : rabs (al : Rat) ≤ A) (b2 : rabs (ah : Rat) ≤ A) : rabs ((a : Rat) - a') ≤ (ah : Rat) - al ∧ rabs (a : Rat) ≤ A := by
  have ho := icast ho
  rcases h with rfl | rfl <;> rcases h' with rfl | rfl <;> refine ⟨rabs_le.2 ⟨by grind, by grind⟩, by assumption⟩
theorem prod_wide {al ah bl bh : Int} (ha : Sp1 al ah) (hb : Sp1 bl bh) {A B : Rat} (a1 : rabs (al : Rat) ≤ A) (a2 : rabs (ah : Rat) ≤ A) (b1 : rabs (bl : Rat) ≤ B) (b2 : rabs (bh : Rat) ≤ B) :
    ((pHi al ah bl bh 1000000000 - pLo al ah bl bh 1000000000 : Int) : Rat) * 1000000000 ≤ A * ((bh : Rat) - bl) + B * ((ah : Rat) - al) + 2000000000 := by
  obtain ⟨-, ⟨a, b, ea, eb, h2⟩, ⟨c, d, ec, ed, h3⟩⟩ := prod_ends ha hb
  generalize pLo al ah bl bh 1000000000 = L at *
  generalize pHi al ah bl bh 1000000000 = H at *
  have h2 := icast (show a * b ≤ (L + 1) * 1000000000 by omega)
  have h3 := icast (show (H - 1) * 1000000000 ≤ c * d by omega)
  push_cast at h2 h3
  have p1 := diff_bd ec ea ha.o a1 a2
  have p2 := diff_bd ed eb hb.o b1 b2
  have p3 := diff_bd eb ed hb.o b1 b2
  have m1 := (rabs_le.1 (mul_rabs p1.2 p2.1)).1
  have m2 := (rabs_le.1 (mul_rabs p3.2 p1.1)).1
  push_cast
  have e : (c : Rat) * d - (a : Rat) * b = (c : Rat) * ((d : Rat) - b) + (b : Rat) * ((c : Rat) - a) := by grind
  have m3 : (c : Rat) * d - (a : Rat) * b ≤ A * ((bh : Rat) - bl) + B * ((ah : Rat) - al) := by
    rw [e]
    generalize A * ((bh : Rat) - bl) = u at *
    generalize B * ((ah : Rat) - al) = v at *
    clear p1 p2 p3 h2 h3
    grind
  generalize A * ((bh : Rat) - bl) = u at *
  generalize B * ((ah : Rat) - al) = v at *
  generalize (c : Rat) * d = x at *
  generalize (a : Rat) * b = y at *
  clear m1 m2 p1 p2 p3 e
  grind
theorem clamp_ex {l h X ε : Rat} (lh : l ≤ h) (e0 : 0 ≤ ε) (h1 : l - ε ≤ X) (h2 : X ≤ h + ε) : ∃ X', l ≤ X' ∧ X' ≤ h ∧ rabs (X - X') ≤ ε := by
  by_cases a : X < l
  · exact ⟨l, Rat.le_refl, lh, rabs_le.2 ⟨by grind, by grind⟩⟩
  · by_cases b : h < X
    · exact ⟨h, lh, Rat.le_refl, rabs_le.2 ⟨by grind, by grind⟩⟩
    · exact ⟨X, by grind, by grind, rabs_le.2 ⟨by grind, by grind⟩⟩
theorem times_in {al ah bl bh : Int} (ha : Sp1 al ah) (hb : Sp1 bl bh) {x y ε δ : Rat} (hx : InU al ah x ε) (hy : InU bl bh y δ) (e0 : 0 ≤ ε) (d0 : 0 ≤ δ) (e1 : ε ≤ 1) (d1 : δ ≤ 1) (bx : rabs x ≤ 1 + 1 / 10000000) :
    InU (pLo al ah bl bh 1000000000) (pHi al ah bl bh 1000000000) (x * y) (ε + δ + 1/1000000) := by
  obtain ⟨X, X1, X2, X3⟩ := clamp_ex (icast ha.o) e0 hx.1 hx.2
  obtain ⟨Y, Y1, Y2, Y3⟩ := clamp_ex (icast hb.o) d0 hy.1 hy.2
  obtain ⟨p1, p2⟩ := prod_in ha hb X1 X2 Y1 Y2
  have B0 := icast hb.b0
  have B1 := icast hb.b1
  have cn : ((-1000000000 : Int) : Rat) = -1000000000 := rfl
  have cp : ((1000000000 : Int) : Rat) = 1000000000 := rfl
  rw [cn] at B0
  rw [cp] at B1
  have bY : rabs Y ≤ 1000000000 := rabs_le.2 ⟨by grind, by grind⟩
  have bx' := rabs_le.1 bx
  have bX : rabs (1000000000 * x) ≤ 1000000100 := rabs_le.2 ⟨by grind, by grind⟩
  have m1 := rabs_le.1 (mul_rabs bX Y3)
  have m2 := rabs_le.1 (mul_rabs X3 bY)
  unfold InU
  generalize ((pLo al ah bl bh 1000000000 : Int) : Rat) = L at *
  generalize ((pHi al ah bl bh 1000000000 : Int) : Rat) = H at *
  have e : 1000000000 * (1000000000 * (x * y)) = X * Y + 1000000000 * x * (1000000000 * y - Y) + (1000000000 * x - X) * Y := by grind
  clear hx hy X1 X2 X3 Y1 Y2 Y3 B0 B1 bY bX bx bx'
  generalize X * Y = u at *
  generalize 1000000000 * x * (1000000000 * y - Y) = v at *
  generalize (1000000000 * x - X) * Y = z at *
  generalize x * y = t at *
  constructor <;> grind
theorem sov_sp (lo hi : Int) (h : lo ≤ hi) : Sp1 (sovLo lo hi) (sovHi lo hi) := by
  have k := over_ok lo hi h
  exact ⟨k.o, k.b0, k.b1⟩
theorem InU.neg {L H : Int} {x ε : Rat} (h : InU L H x ε) : InU (-H) (-L) (-x) ε := by
  unfold InU at *; push_cast; constructor <;> grind
theorem InU.sub {L H L' H' : Int} {x y ε δ : Rat} (h : InU L H x ε) (h' : InU L' H' y δ) : InU (L - H') (H - L') (x - y) (ε + δ) := by
  unfold InU at *; push_cast; constructor <;> grind
theorem InU.add {L H L' H' : Int} {x y ε δ : Rat} (h : InU L H x ε) (h' : InU L' H' y δ) : InU (L + L') (H + H') (x + y) (ε + δ) := by
  unfold InU at *; push_cast; constructor <;> grind
end Go.Proofs.YtaaiamcpdicnhaaDoor
