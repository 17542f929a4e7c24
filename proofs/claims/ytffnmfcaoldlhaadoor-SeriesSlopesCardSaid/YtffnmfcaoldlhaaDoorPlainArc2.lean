/- What trig.Arc runs through, and what its interval holds. No program in sight. -/
import Derived.Test.YtffnmfcaoldlhaaDoorPlainArc
set_option linter.unusedVariables false
set_option linter.unusedSimpArgs false
namespace Go.Proofs.YtffnmfcaoldlhaaDoor
open Ieee
def wHT : Nat := 4737168216739020800
def wHN : Nat := 13960540253593796608
def fminW (x y : Nat) : Nat := match double.order x y with | some .lt => x | some .gt => y | some .eq => (if (double.read x).neg then x else y) | none => 0
def fmaxW (x y : Nat) : Nat := match double.order x y with | some .lt => y | some .gt => x | some .eq => (if (double.read x).neg then y else x) | none => 0
def adjA (d : Nat) : Nat := if gt0 d wHT then fsub d wTurn else d
def adjW (d : Nat) : Nat := if lt0 (adjA d) wHN then fadd (adjA d) wTurn else adjA d
/-- The corners of Arc's loop. -/
def arcC (yl yh xl xh : Int) : Nat → Int × Int
  | 0 => (yl, xh)
  | 1 => (yh, xl)
  | _ => (yh, xh)
def arcD (yl yh xl xh : Int) (k : Nat) : Nat := fsub (dirW (arcC yl yh xl xh k).1 (arcC yl yh xl xh k).2) (dirW yl xl)
def arcLow (yl yh xl xh : Int) : Nat → Nat
  | 0 => 0
  | k + 1 => fminW (arcLow yl yh xl xh k) (adjW (arcD yl yh xl xh k))
def arcHigh (yl yh xl xh : Int) : Nat → Nat
  | 0 => 0
  | k + 1 => fmaxW (arcHigh yl yh xl xh k) (adjW (arcD yl yh xl xh k))
def arcLo (yl yh xl xh : Int) : Int := arLo (fadd (dirW yl xl) (arcLow yl yh xl xh 3))
def arcHi (yl yh xl xh : Int) : Int := arHi (fadd (dirW yl xl) (arcHigh yl yh xl xh 3))
theorem fminW_num {x y : Nat} {X Y : Rat} (hx : Num x X) (hy : Num y Y) : Num (fminW x y) (if X ≤ Y then X else Y) ∧ (double.order x y).isSome = true := by
  obtain ⟨a, b, c⟩ := num_order hx hy
  by_cases h : X < Y
  · have e : (if X ≤ Y then X else Y) = X := if_pos (by grind)
    rw [e]; unfold fminW; rw [a h]; exact ⟨hx, rfl⟩
  · by_cases h2 : X = Y
    · subst h2
      have e : (if X ≤ X then X else X) = X := if_pos (Rat.le_refl)
      rw [e]; unfold fminW; rw [b rfl]
      refine ⟨?_, rfl⟩
      dsimp only
      split
      · exact hx
      · exact hy
    · have e : (if X ≤ Y then X else Y) = Y := if_neg (by grind)
      rw [e]; unfold fminW; rw [c (by grind)]; exact ⟨hy, rfl⟩
theorem fmaxW_num {x y : Nat} {X Y : Rat} (hx : Num x X) (hy : Num y Y) : Num (fmaxW x y) (if X ≤ Y then Y else X) ∧ (double.order x y).isSome = true := by
  obtain ⟨a, b, c⟩ := num_order hx hy
  by_cases h : X < Y
  · have e : (if X ≤ Y then Y else X) = Y := if_pos (by grind)
    rw [e]; unfold fmaxW; rw [a h]; exact ⟨hy, rfl⟩
  · by_cases h2 : X = Y
    · subst h2
      have e : (if X ≤ X then X else X) = X := if_pos (Rat.le_refl)
      rw [e]; unfold fmaxW; rw [b rfl]
      refine ⟨?_, rfl⟩
      dsimp only
      split
      · exact hy
      · exact hx
    · have e : (if X ≤ Y then Y else X) = X := if_neg (by grind)
      rw [e]; unfold fmaxW; rw [c (by grind)]; exact ⟨hx, rfl⟩
theorem ht_num : Num wHT 500000000 ∧ Num wHN (-500000000) ∧ Num wTurn 1000000000 := by
  have e1 : cv wHT = 500000000 := by decide +kernel
  have e2 : cv wHN = -500000000 := by decide +kernel
  have e3 : cv wTurn = 1000000000 := by decide +kernel
  have n1 := cv_num (show isNum wHT = true by decide +kernel)
  have n2 := cv_num (show isNum wHN = true by decide +kernel)
  have n3 := cv_num (show isNum wTurn = true by decide +kernel)
  rw [e1] at n1
  rw [e2] at n2
  rw [e3] at n3
  exact ⟨n1, n2, n3⟩
theorem min3 (a b c : Rat) : ∃ L, (if (if (if (0 : Rat) ≤ a then 0 else a) ≤ b then (if (0 : Rat) ≤ a then 0 else a) else b) ≤ c then (if (if (0 : Rat) ≤ a then 0 else a) ≤ b then (if (0 : Rat) ≤ a then 0 else a) else b) else c) = L ∧ L ≤ 0 ∧ L ≤ a ∧ L ≤ b ∧ L ≤ c ∧ (L = 0 ∨ L = a ∨ L = b ∨ L = c) := by
  refine ⟨_, rfl, ?_⟩
  grind
theorem max3 (a b c : Rat) : ∃ H, (if (if (if (0 : Rat) ≤ a then a else 0) ≤ b then b else (if (0 : Rat) ≤ a then a else 0)) ≤ c then c else (if (if (0 : Rat) ≤ a then a else 0) ≤ b then b else (if (0 : Rat) ≤ a then a else 0))) = H ∧ 0 ≤ H ∧ a ≤ H ∧ b ≤ H ∧ c ≤ H ∧ (H = 0 ∨ H = a ∨ H = b ∨ H = c) := by
  refine ⟨_, rfl, ?_⟩
  grind
theorem adjW_of (d d1 e : Nat) (h1 : (gt0 d wHT = true ∧ double.sub d wTurn = some d1) ∨ (gt0 d wHT = false ∧ d1 = d)) (h2 : (lt0 d1 wHN = true ∧ double.add d1 wTurn = some e) ∨ (lt0 d1 wHN = false ∧ e = d1)) : adjW d = e := by
  have eA : adjA d = d1 := by
    unfold adjA
    rcases h1 with ⟨a, b⟩ | ⟨a, rfl⟩
    · rw [if_pos a, fsub_of b]
    · rw [if_neg (by rw [a]; simp)]
  unfold adjW
  rw [eA]
  rcases h2 with ⟨a, b⟩ | ⟨a, rfl⟩
  · rw [if_pos a, fadd_of b]
  · rw [if_neg (by rw [a]; simp)]
/-- A round of Arc's loop: the difference brought within half a turn. -/
def AdjP (f f0 e : Nat) : Prop := ∃ d d1, double.sub f f0 = some d ∧ ((gt0 d wHT = true ∧ double.sub d wTurn = some d1) ∨ (gt0 d wHT = false ∧ d1 = d)) ∧ ((lt0 d1 wHN = true ∧ double.add d1 wTurn = some e) ∨ (lt0 d1 wHN = false ∧ e = d1))
theorem adj_run {f f0 : Nat} {D D0 : Rat} (hf : Num f D) (h0 : Num f0 D0) (hD : rabs D ≤ 500000000 + 1 / 100) (hD0 : rabs D0 ≤ 500000000 + 1 / 100) :
    AdjP f f0 (adjW (fsub f f0)) ∧ ∃ (E : Rat) (k : Int), Num (adjW (fsub f f0)) E ∧ rabs (D0 + E - (D + (k : Rat) * 1000000000)) ≤ 4 / 10000000 ∧ rabs E ≤ 500000001 := by
  obtain ⟨t1, t2, t3⟩ := ht_num
  have k30 : p2 ((30 : Nat) : Int) = 1073741824 := by decide +kernel
  have n30 : p2 (((30 : Nat) : Int) - 53) ≤ 12 / 100000000 := by decide +kernel
  have hD := rabs_le.1 hD
  have hD0 := rabs_le.1 hD0
  obtain ⟨d, d1, d2⟩ := sub_ap 30 (by omega) hf.ap h0.ap (by rw [k30]; grind) (by rw [k30]; grind)
  obtain ⟨E0, n1, n2, n3⟩ := d2.num
  rw [fsub_of d1]
  have g1 := gt0_num n1 t1
  have fin : ∀ (dd e : Nat) (E : Rat) (k : Int) (h1 : (gt0 d wHT = true ∧ double.sub d wTurn = some dd) ∨ (gt0 d wHT = false ∧ dd = d)) (h2 : (lt0 dd wHN = true ∧ double.add dd wTurn = some e) ∨ (lt0 dd wHN = false ∧ e = dd)), Num e E → rabs (D0 + E - (D + (k : Rat) * 1000000000)) ≤ 4 / 10000000 → rabs E ≤ 500000001 →
      AdjP f f0 (adjW d) ∧ ∃ (E : Rat) (k : Int), Num (adjW d) E ∧ rabs (D0 + E - (D + (k : Rat) * 1000000000)) ≤ 4 / 10000000 ∧ rabs E ≤ 500000001 := by
    intro dd e E k h1 h2 n a b
    rw [adjW_of d dd e h1 h2]
    exact ⟨⟨d, dd, d1, h1, h2⟩, E, k, n, a, b⟩
  by_cases h1 : 500000000 < E0
  · rw [decide_eq_true h1] at g1
    obtain ⟨e, e1, e2⟩ := sub_ap 30 (by omega) n1.ap t3.ap (by rw [k30]; grind) (by rw [k30]; grind)
    obtain ⟨E1, m1, m2, m3⟩ := e2.num
    have g2 := lt0_num m1 t2
    by_cases h2 : E1 < -500000000
    · rw [decide_eq_true h2] at g2
      obtain ⟨v, v1, v2⟩ := add_ap 30 (by omega) m1.ap t3.ap (by rw [k30]; grind) (by rw [k30]; grind)
      obtain ⟨E2, r1, r2, r3⟩ := v2.num
      exact fin e v E2 0 (.inl ⟨g1, e1⟩) (.inl ⟨g2, v1⟩) r1 (rabs_le.2 ⟨by push_cast; grind, by push_cast; grind⟩) (rabs_le.2 ⟨by grind, by grind⟩)
    · rw [decide_eq_false h2] at g2
      exact fin e e E1 (-1) (.inl ⟨g1, e1⟩) (.inr ⟨g2, rfl⟩) m1 (rabs_le.2 ⟨by push_cast; grind, by push_cast; grind⟩) (rabs_le.2 ⟨by grind, by grind⟩)
  · rw [decide_eq_false h1] at g1
    have g2 := lt0_num n1 t2
    by_cases h2 : E0 < -500000000
    · rw [decide_eq_true h2] at g2
      obtain ⟨e, e1, e2⟩ := add_ap 30 (by omega) n1.ap t3.ap (by rw [k30]; grind) (by rw [k30]; grind)
      obtain ⟨E1, m1, m2, m3⟩ := e2.num
      exact fin d e E1 1 (.inr ⟨g1, rfl⟩) (.inl ⟨g2, e1⟩) m1 (rabs_le.2 ⟨by push_cast; grind, by push_cast; grind⟩) (rabs_le.2 ⟨by grind, by grind⟩)
    · rw [decide_eq_false h2] at g2
      exact fin d d E0 0 (.inr ⟨g1, rfl⟩) (.inr ⟨g2, rfl⟩) n1 (rabs_le.2 ⟨by push_cast; grind, by push_cast; grind⟩) (rabs_le.2 ⟨by grind, by grind⟩)
/-- What Arc runs through, with the angles that it compares. -/
structure ArcR (yl yh xl xh : Int) : Prop where
  d0 : DirP yl xl (dirW yl xl)
  dk : ∀ k, k < 3 → DirP (arcC yl yh xl xh k).1 (arcC yl yh xl xh k).2 (dirW (arcC yl yh xl xh k).1 (arcC yl yh xl xh k).2)
  ad : ∀ k, k < 3 → AdjP (dirW (arcC yl yh xl xh k).1 (arcC yl yh xl xh k).2) (dirW yl xl) (adjW (arcD yl yh xl xh k))
  mn : ∀ k, k < 3 → (double.order (arcLow yl yh xl xh k) (adjW (arcD yl yh xl xh k))).isSome = true
  mx : ∀ k, k < 3 → (double.order (arcHigh yl yh xl xh k) (adjW (arcD yl yh xl xh k))).isSome = true
structure AroundP (v : Nat) : Prop where
  ex : ∃ s1 s2 X1 X2, double.sub v wSl = some s1 ∧ double.add v wSl = some s2 ∧ Num s1 X1 ∧ Num s2 X2 ∧ (double.read (fflr s1)).toInt .zero = some (arLo v) ∧ (double.read (fcei s2)).toInt .zero = some (arHi v) ∧ -4000000000000000 ≤ arLo v ∧ arLo v ≤ 4000000000000000 ∧ -4000000000000000 ≤ arHi v ∧ arHi v ≤ 4000000000000000
/-- The angles of Arc: that of the first corner, the differences of the others, the least and the greatest of them. -/
structure ArcV (yl yh xl xh : Int) (D0 : Rat) (E : Nat → Rat) (L H : Rat) : Prop where
  h0 : HeadI xl yl D0
  hk : ∀ k, k < 3 → ∃ D, ∃ j : Int, HeadI (arcC yl yh xl xh k).2 (arcC yl yh xl xh k).1 D ∧ rabs (D0 + E k - (D + (j : Rat) * 1000000000)) ≤ 4 / 10000000
  bE : ∀ k, k < 3 → rabs (E k) ≤ 500000001
  l0 : L ≤ 0
  lk : ∀ k, k < 3 → L ≤ E k
  le : L = 0 ∨ ∃ k, k < 3 ∧ L = E k
  g0 : 0 ≤ H
  gk : ∀ k, k < 3 → E k ≤ H
  ge : H = 0 ∨ ∃ k, k < 3 ∧ H = E k
  lo1 : (arcLo yl yh xl xh : Rat) ≤ D0 + L - 9 / 10000
  lo2 : D0 + L - 11 / 10000 < (arcLo yl yh xl xh : Rat) + 1
  hi1 : D0 + H + 9 / 10000 ≤ (arcHi yl yh xl xh : Rat)
  hi2 : (arcHi yl yh xl xh : Rat) < D0 + H + 11 / 10000 + 1
theorem arc_run (yl yh xl xh : Int) (b1 : -2000000000000000000 ≤ yl) (b2 : yl ≤ 2000000000000000000) (b3 : -2000000000000000000 ≤ yh) (b4 : yh ≤ 2000000000000000000) (b5 : -2000000000000000000 ≤ xl) (b6 : xl ≤ 2000000000000000000) (b7 : -2000000000000000000 ≤ xh) (b8 : xh ≤ 2000000000000000000)
    (hz : ∀ y x : Int, (y = yl ∨ y = yh) → (x = xl ∨ x = xh) → y ≠ 0 ∨ x ≠ 0) :
    ArcR yl yh xl xh ∧ AroundP (fadd (dirW yl xl) (arcLow yl yh xl xh 3)) ∧ AroundP (fadd (dirW yl xl) (arcHigh yl yh xl xh 3)) ∧ (∃ r, double.add (dirW yl xl) (arcLow yl yh xl xh 3) = some r) ∧ (∃ r, double.add (dirW yl xl) (arcHigh yl yh xl xh 3) = some r) ∧
      ∃ D0 E L H, ArcV yl yh xl xh D0 E L H := by
  obtain ⟨p0, D0, n0, hd0⟩ := dirI_run yl xl b1 b2 b5 b6 (hz yl xl (.inl rfl) (.inl rfl))
  have hc : ∀ k, k < 3 → DirP (arcC yl yh xl xh k).1 (arcC yl yh xl xh k).2 (dirW (arcC yl yh xl xh k).1 (arcC yl yh xl xh k).2) ∧ ∃ D, Num (dirW (arcC yl yh xl xh k).1 (arcC yl yh xl xh k).2) D ∧ HeadI (arcC yl yh xl xh k).2 (arcC yl yh xl xh k).1 D := by
    intro k hk
    rcases (show k = 0 ∨ k = 1 ∨ k = 2 by omega) with rfl | rfl | rfl
    · exact dirI_run yl xh b1 b2 b7 b8 (hz yl xh (.inl rfl) (.inr rfl))
    · exact dirI_run yh xl b3 b4 b5 b6 (hz yh xl (.inr rfl) (.inl rfl))
    · exact dirI_run yh xh b3 b4 b7 b8 (hz yh xh (.inr rfl) (.inr rfl))
  have ha : ∀ k, k < 3 → AdjP (dirW (arcC yl yh xl xh k).1 (arcC yl yh xl xh k).2) (dirW yl xl) (adjW (arcD yl yh xl xh k)) ∧ ∃ E : Rat, Num (adjW (arcD yl yh xl xh k)) E ∧ (∃ D, ∃ j : Int, HeadI (arcC yl yh xl xh k).2 (arcC yl yh xl xh k).1 D ∧ rabs (D0 + E - (D + (j : Rat) * 1000000000)) ≤ 4 / 10000000) ∧ rabs E ≤ 500000001 := by
    intro k hk
    obtain ⟨-, D, n, hd⟩ := hc k hk
    obtain ⟨a, E, j, e1, e2, e3⟩ := adj_run n n0 hd.b hd0.b
    exact ⟨a, E, e1, ⟨D, j, hd, e2⟩, e3⟩
  obtain ⟨-, E0, e01, e02, e03⟩ := ha 0 (by omega)
  obtain ⟨-, E1, e11, e12, e13⟩ := ha 1 (by omega)
  obtain ⟨-, E2, e21, e22, e23⟩ := ha 2 (by omega)
  have l1 := fminW_num num_zero e01
  have l2 := fminW_num l1.1 e11
  have l3 := fminW_num l2.1 e21
  have g1 := fmaxW_num num_zero e01
  have g2 := fmaxW_num g1.1 e11
  have g3 := fmaxW_num g2.1 e21
  have L3 : Num (arcLow yl yh xl xh 3) _ := l3.1
  have H3 : Num (arcHigh yl yh xl xh 3) _ := g3.1
  have m3 : ∀ (P : Nat → Prop), P 0 → P 1 → P 2 → ∀ k, k < 3 → P k := by
    intro P h0 h1 h2 k hk
    rcases (show k = 0 ∨ k = 1 ∨ k = 2 by omega) with rfl | rfl | rfl <;> assumption
  have bb0 := rabs_le.1 e03
  have bb1 := rabs_le.1 e13
  have bb2 := rabs_le.1 e23
  obtain ⟨L, hL, fL⟩ := min3 E0 E1 E2
  obtain ⟨H, hH, fH⟩ := max3 E0 E1 E2
  rw [hL] at L3
  rw [hH] at H3
  clear hL hH
  obtain ⟨f1, f2, f3, f4, f5⟩ := fL
  obtain ⟨k1, k2, k3, k4, k5⟩ := fH
  have z0 : rabs 0 ≤ 500000001 := by decide +kernel
  have lb : rabs L ≤ 500000001 := by rcases f5 with h | h | h | h <;> rw [h] <;> assumption
  have hb : rabs H ≤ 500000001 := by rcases k5 with h | h | h | h <;> rw [h] <;> assumption
  have D0b := rabs_le.1 hd0.b
  have lb1 := rabs_le.1 lb
  have hb1 := rabs_le.1 hb
  have q30 : p2 ((30 : Nat) : Int) = 1073741824 := by decide +kernel
  have n30 : p2 (((30 : Nat) : Int) - 53) ≤ 12 / 100000000 := by decide +kernel
  have t18 : (1 : Rat) / 10 ^ 18 ≤ 1 / 1000000000 := by decide +kernel
  have bD1 := D0b.1
  have bD2 := D0b.2
  have bL1 := lb1.1
  have bL2 := lb1.2
  have bH1 := hb1.1
  have bH2 := hb1.2
  have u1 : D0 + L ≤ 1000000002 := by clear hc ha hz; grind
  have u2 : -1000000002 ≤ D0 + L := by clear hc ha hz; grind
  have u3 : D0 + H ≤ 1000000002 := by clear hc ha hz; grind
  have u4 : -1000000002 ≤ D0 + H := by clear hc ha hz; grind
  obtain ⟨rl, a1, a2⟩ := add_ap 30 (by omega) n0.ap L3.ap (by rw [q30]; clear hc ha hz; grind) (by rw [q30]; clear hc ha hz; grind)
  obtain ⟨rh, c1, c2⟩ := add_ap 30 (by omega) n0.ap H3.ap (by rw [q30]; clear hc ha hz; grind) (by rw [q30]; clear hc ha hz; grind)
  obtain ⟨s1, s2, X1, X2, w1, w2, w3, w4, w5, w6, w7, w8, w9, w10, w11, w12, -, -⟩ := around_run 30 (by omega) a2 (by rw [q30]; clear hc ha hz; grind) (by rw [q30]; clear hc ha hz; grind)
  obtain ⟨s1', s2', X1', X2', v1, v2, v3, v4, v5, v6, v7, v8, v9, v10, -, -, v13, v14⟩ := around_run 30 (by omega) c2 (by rw [q30]; clear hc ha hz; grind) (by rw [q30]; clear hc ha hz; grind)
  have eL : arcLo yl yh xl xh = arLo rl := by unfold arcLo; rw [fadd_of a1]
  have eH : arcHi yl yh xl xh = arHi rh := by unfold arcHi; rw [fadd_of c1]
  refine ⟨⟨p0, fun k hk => (hc k hk).1, fun k hk => (ha k hk).1, ?_, ?_⟩, ?_, ?_, ⟨rl, a1⟩, ⟨rh, c1⟩, D0, (fun k => if k = 0 then E0 else if k = 1 then E1 else E2), L, H, ?_⟩
  · exact m3 _ l1.2 l2.2 l3.2
  · exact m3 _ g1.2 g2.2 g3.2
  · rw [fadd_of a1]; exact ⟨s1, s2, X1, X2, w1, w2, w3, w4, w5, w6, w7, w8, w9, w10⟩
  · rw [fadd_of c1]; exact ⟨s1', s2', X1', X2', v1, v2, v3, v4, v5, v6, v7, v8, v9, v10⟩
  · refine ⟨hd0, m3 _ e02 e12 e22, m3 _ e03 e13 e23, f1, m3 _ f2 f3 f4, ?_, k1, m3 _ k2 k3 k4, ?_, ?_, ?_, ?_, ?_⟩
    · rcases f5 with h | h | h | h
      · exact .inl h
      · exact .inr ⟨0, by omega, h⟩
      · exact .inr ⟨1, by omega, h⟩
      · exact .inr ⟨2, by omega, h⟩
    · rcases k5 with h | h | h | h
      · exact .inl h
      · exact .inr ⟨0, by omega, h⟩
      · exact .inr ⟨1, by omega, h⟩
      · exact .inr ⟨2, by omega, h⟩
    · rw [eL]; clear hc ha hz; grind
    · rw [eL]; clear hc ha hz; grind
    · rw [eH]; clear hc ha hz; grind
    · rw [eH]; clear hc ha hz; grind
end Go.Proofs.YtffnmfcaoldlhaaDoor
