/- eclipse.Next; eclipseWorks; the walk through the law EclipseNexts. -/
import Derived.Test.YtcgnhnmigmdalaaDoorPlainEcl4
set_option linter.unusedVariables false
set_option linter.unusedSimpArgs false
set_option maxRecDepth 100000
namespace Go.Proofs.YtcgnhnmigmdalaaDoor
open Go.RowKit
structure ER where
  k : Int
  a1 : Int
  a2 : Int
  a3 : Int
  a4 : Int
  a5 : Int
  a6 : Int
  x : Int
/-- What eclipse.Find answers. -/
def EFnd (n q : Int) (r : ER) : Prop := ∀ w, Tab w → Calls Tryd.prog 9 #[.int .i64 n, .int .i64 q] w fun e w' => e = .returned (.tuple #[.agg #[.int .i64 r.k, .int .i64 r.a1, .int .i64 r.a2, .int .i64 r.a3, .int .i64 r.a4, .int .i64 r.a5, .int .i64 r.a6], .int .i64 r.x]) ∧ Below w.heap.size w w'
theorem ph_inst {n q : Int} (n0 : -100000 ≤ n) (n1 : n ≤ 100000) (q0 : 0 ≤ q) (q1 : q ≤ 3) {x : Int} (h0 : phMid n q - 172800000 ≤ x) (h1 : x ≤ phMid n q + 172800000) : instB x = true := by
  unfold phMid at *
  exact inst_of (by omega) (by omega)
theorem eFnd_ok {n q : Int} (n0 : -100000 ≤ n) (n1 : n ≤ 100000) (hq : q = 0 ∨ q = 2) {r : ER} (hO : EOut q (phR n q).lo (phR n q).hi (eL0 n q) (eH0 n q) r.k r.a1 r.a2 r.a3 r.a4 r.a5 r.a6 r.x) : EFnd n q r := by
  intro w hT
  have ph := phR_ok (n := n) (q := q) n0 n1 (by omega) (by omega)
  have ha := ph.a
  have hb := ph.b
  have hc := ph.c
  have hw := ph.w
  obtain ⟨b1, b2, b3⟩ := ecl_bd (x0 := (phR n q).lo) (x1 := (phR n q).hi) (by omega) hw
  have B1 : -17000000 ≤ eL0 n q := b1
  have B2 : eL0 n q ≤ eH0 n q := b2
  have B3 : eH0 n q ≤ 17000000 := b3
  exact c_eFind_gen n q _ _ (eL0 n q) (eH0 n q) _ _ _ _ _ _ _ _ w hT hq (by omega) (by omega) (by omega) (by omega) hO
    (Lib.hid (fun w1 h => c_pFind_ok n q w1 h n0 n1 (by omega) (by omega))) (Lib.hid (fun w1 h => c_latitudes (phR n q).lo (phR n q).hi w1 h (ph_inst (n := n) (q := q) n0 n1 (by omega) (by omega) (x := (phR n q).lo) (by omega) (by omega)) (ph_inst (n := n) (q := q) n0 n1 (by omega) (by omega) (x := (phR n q).hi) (by omega) (by omega)) (by omega) hw))
theorem EFnd.use {n q k a1 a2 a3 a4 a5 a6 x : Int} (h : EFnd n q ⟨k, a1, a2, a3, a4, a5, a6, x⟩) : ∀ w, Tab w → Calls Tryd.prog 9 #[.int .i64 n, .int .i64 q] w fun e w' => e = .returned (.tuple #[.agg #[.int .i64 k, .int .i64 a1, .int .i64 a2, .int .i64 a3, .int .i64 a4, .int .i64 a5, .int .i64 a6], .int .i64 x]) ∧ Below w.heap.size w w' := h
theorem eFnd_ok' {n q : Int} (n0 : -100000 ≤ n) (n1 : n ≤ 100000) (hq : q = 0 ∨ q = 2) {k a1 a2 a3 a4 a5 a6 x : Int} (hO : EOut q (phR n q).lo (phR n q).hi (eL0 n q) (eH0 n q) k a1 a2 a3 a4 a5 a6 x) : EFnd n q ⟨k, a1, a2, a3, a4, a5, a6, x⟩ := eFnd_ok n0 n1 hq (r := ⟨k, a1, a2, a3, a4, a5, a6, x⟩) hO
theorem eOut_none {q lo hi l h : Int} (c : ePar q ≤ eLeast l h) : EOut q lo hi l h 0 lo hi l h 0 0 0 := .inl ⟨c, rfl, rfl, rfl, rfl, rfl, rfl, rfl, rfl⟩
theorem eOut_tot {q lo hi l h : Int} (c : eLeast l h < ePar q) (d : eMost l h < eTot q) : EOut q lo hi l h 2 lo hi l h (eM0 q l h) (eM1 q l h) 0 := .inr (.inl ⟨c, d, rfl, rfl, rfl, rfl, rfl, rfl, rfl, rfl⟩)
theorem eFnd_ex (n q : Int) : ∃ r, EFnd n q r := by
  by_cases hq : q = 0 ∨ q = 2
  · by_cases hn : -100000 ≤ n ∧ n ≤ 100000
    · obtain ⟨k, a1, a2, a3, a4, a5, a6, x, h⟩ := eOut_ex q (phR n q).lo (phR n q).hi (eL0 n q) (eH0 n q)
      exact ⟨_, eFnd_ok' hn.1 hn.2 hq h⟩
    · exact ⟨⟨0, 0, 0, 0, 0, 0, 0, 3⟩, fun w _ => c_eFind_rng n q w hq (by omega)⟩
  · exact ⟨⟨0, 0, 0, 0, 0, 0, 0, 1⟩, fun w _ => c_eFind_arg n q w (fun h => hq (.inl h)) (fun h => hq (.inr h))⟩
/-- The search, from number i on. -/
def nxS (f : Int → ER) (N : Nat → Int) : Nat → Nat → Int × Int
  | 0, _ => (0, 6)
  | g + 1, i => if (f (N i)).x ≠ 0 then (0, (f (N i)).x) else if (f (N i)).k ≠ 0 then (N i, 0) else nxS f N g (i + 1)
def nI (n : Int) (i : Nat) : Int := IntKind.i64.wrap (n + (i : Int))
theorem c_eNext (n q : Int) (f : Int → ER) (hf : ∀ m, EFnd m q (f m)) (w : World) (hT : Tab w) :
    Calls Tryd.prog 14 #[.int .i64 n, .int .i64 q] w fun e w' => e = .returned (.tuple #[.int .i64 (nxS f (nI n) 24 0).1, .int .i64 (nxS f (nI n) 24 0).2]) ∧ Below w.heap.size w w' := by
  have HF := Lib.hid hf
  have HT := Lib.hid hT
  obtain ⟨R, hR⟩ : ∃ R, R = nxS f (nI n) 24 0 := ⟨_, rfl⟩
  rw [← hR]
  have HR := Lib.hid hR
  clear hf hT hR
  have hgen := sgen; have hgen2 := sgen2; have hgen3 := sgen3; go_enter Tryd.func14, Tryd.ntmps14
  go_wp2_with fail
  go_loopg [9] 24 (fun gk i wr => ∃ j : Nat, gk + j = 24 ∧ i = .int .i64 (j : Int) ∧ R = nxS f (nI n) gk j ∧ Below w.heap.size w wr)
  case atStart => exact ⟨0, rfl, rfl, HR.out, Below.refl _ _⟩
  case round =>
    obtain ⟨j, hj, rfl, hS, hbel⟩ := hrel
    have hsz := hbel.size
    by_cases hlt : j < 24
    · have hjd : decide ((j : Int) < 24) = true := decide_eq_true (by omega)
      obtain ⟨g, rfl⟩ : ∃ g, gk = g + 1 := ⟨gk - 1, by omega⟩
      unfold nxS at hS
      have HE : Hid (∀ w1, Tab w1 → Calls Tryd.prog 9 #[.int .i64 (nI n j), .int .i64 q] w1 fun e w' => e = .returned (.tuple #[.agg #[.int .i64 (f (nI n j)).k, .int .i64 (f (nI n j)).a1, .int .i64 (f (nI n j)).a2, .int .i64 (f (nI n j)).a3, .int .i64 (f (nI n j)).a4, .int .i64 (f (nI n j)).a5, .int .i64 (f (nI n j)).a6], .int .i64 (f (nI n j)).x]) ∧ Below w1.heap.size w1 w') := Lib.hid (HF.out (nI n j))
      have hN : IntKind.i64.wrap (n + (j : Int)) = nI n j := rfl
      have hTT := Lib.hid (HT.out.below hbel)
      have HSS := Lib.hid hS
      clear hS
      generalize nI n j = m at *
      by_cases hx : (f m).x = 0
      · have f1 : ((f m).x != 0) = false := by simp [hx]
        by_cases hk : (f m).k = 0
        · have f2 : ((f m).k != 0) = false := by simp [hk]
          have HS2 : Hid (R = nxS f (nI n) g (j + 1)) := Lib.hid (by have h := HSS.out; rwa [if_neg (by omega), if_neg (by omega)] at h)
          clear HSS
          generalize f m = r at *
          go_wp2_with (go_at_call 9; (with_reducible refine (HE.out _ (hTT.out.below (by exact belz))).mono ?_); rintro e w1 ⟨rfl, hb⟩; have hz := hb.size; (try simp only [szA, szS, szD, szN] at hz); (try (refine bcB (n := wr.heap.size) hb ?_; intro h_wr_0 e_wr_0 d_wr_0 _ _)); (try (refine bcB (n := w.heap.size) hb ?_; intro h_w_0 e_w_0 d_w_0 _ _)))
          go_roundg g
          case measure => omega
          case rel => exact ⟨j + 1, by omega, rfl, HS2.out, by exact belz⟩
        · have f2 : ((f m).k != 0) = true := by simp [hk]
          have HS2 : Hid (R = (m, 0)) := Lib.hid (by have h := HSS.out; rwa [if_neg (by omega), if_pos hk] at h)
          clear HSS
          generalize f m = r at *
          go_wp2_with (go_at_call 9; (with_reducible refine (HE.out _ (hTT.out.below (by exact belz))).mono ?_); rintro e w1 ⟨rfl, hb⟩; have hz := hb.size; (try simp only [szA, szS, szD, szN] at hz); (try (refine bcB (n := wr.heap.size) hb ?_; intro h_wr_0 e_wr_0 d_wr_0 _ _)); (try (refine bcB (n := w.heap.size) hb ?_; intro h_w_0 e_w_0 d_w_0 _ _)))
          go_ret2
          refine ⟨by rw [HS2.out]; rfl, ?_⟩
          exact belz
      · have f1 : ((f m).x != 0) = true := by simp [hx]
        have HS2 : Hid (R = (0, (f m).x)) := Lib.hid (by have h := HSS.out; rwa [if_pos hx] at h)
        clear HSS
        generalize f m = r at *
        go_wp2_with (go_at_call 9; (with_reducible refine (HE.out _ (hTT.out.below (by exact belz))).mono ?_); rintro e w1 ⟨rfl, hb⟩; have hz := hb.size; (try simp only [szA, szS, szD, szN] at hz); (try (refine bcB (n := wr.heap.size) hb ?_; intro h_wr_0 e_wr_0 d_wr_0 _ _)); (try (refine bcB (n := w.heap.size) hb ?_; intro h_w_0 e_w_0 d_w_0 _ _)))
        go_ret2
        refine ⟨by rw [HS2.out]; rfl, ?_⟩
        exact belz
    · obtain rfl : j = 24 := by omega
      obtain rfl : gk = 0 := by omega
      have HS2 : Hid (R = (0, 6)) := Lib.hid hS
      clear hS
      go_wp2
      go_ret2
      refine ⟨by rw [HS2.out]; rfl, ?_⟩
      exact belz
/-- The lunations 24714 to 24719. -/
theorem fnd_none {n X : Int} (n0 : -100000 ≤ n) (n1 : n ≤ 100000) (h : phT n 0 - 43980 ≤ eL X ∧ eL X ≤ phT n 0 - 20 ∧ northV X ≤ -5000000 * 1048576) : EFnd n 0 ⟨0, (phR n 0).lo, (phR n 0).hi, eL0 n 0, eH0 n 0, 0, 0, 0⟩ :=
  eFnd_ok' n0 n1 (.inl rfl) (eOut_none (fix_none n0 n1 h))
theorem fnd_tot : EFnd 24719 0 ⟨2, (phR 24719 0).lo, (phR 24719 0).hi, eL0 24719 0, eH0 24719 0, eM0 0 (eL0 24719 0) (eH0 24719 0), eM1 0 (eL0 24719 0) (eH0 24719 0), 0⟩ := by
  obtain ⟨-, -, -, f1, f2⟩ := fix_tot
  exact eFnd_ok' (by omega) (by omega) (.inl rfl) (eOut_tot f1 f2)
theorem next_fix (w : World) (hT : Tab w) : Calls Tryd.prog 14 #[.int .i64 24714, .int .i64 0] w fun e w' => e = .returned (.tuple #[.int .i64 24719, .int .i64 0]) ∧ Below w.heap.size w w' := by
  obtain ⟨q0, q1, q2, q3, q4, -⟩ := fix_nums
  have ex : ∀ m, ∃ r, EFnd m 0 r ∧ (m = 24714 → r.k = 0 ∧ r.x = 0) ∧ (m = 24715 → r.k = 0 ∧ r.x = 0) ∧ (m = 24716 → r.k = 0 ∧ r.x = 0) ∧ (m = 24717 → r.k = 0 ∧ r.x = 0) ∧ (m = 24718 → r.k = 0 ∧ r.x = 0) ∧ (m = 24719 → r.k = 2 ∧ r.x = 0) := by
    intro m
    by_cases h0 : m = 24714
    · subst h0; exact ⟨_, fnd_none (by omega) (by omega) q0, fun _ => ⟨rfl, rfl⟩, by omega, by omega, by omega, by omega, by omega⟩
    · by_cases h1 : m = 24715
      · subst h1; exact ⟨_, fnd_none (by omega) (by omega) q1, by omega, fun _ => ⟨rfl, rfl⟩, by omega, by omega, by omega, by omega⟩
      · by_cases h2 : m = 24716
        · subst h2; exact ⟨_, fnd_none (by omega) (by omega) q2, by omega, by omega, fun _ => ⟨rfl, rfl⟩, by omega, by omega, by omega⟩
        · by_cases h3 : m = 24717
          · subst h3; exact ⟨_, fnd_none (by omega) (by omega) q3, by omega, by omega, by omega, fun _ => ⟨rfl, rfl⟩, by omega, by omega⟩
          · by_cases h4 : m = 24718
            · subst h4; exact ⟨_, fnd_none (by omega) (by omega) q4, by omega, by omega, by omega, by omega, fun _ => ⟨rfl, rfl⟩, by omega⟩
            · by_cases h5 : m = 24719
              · subst h5; exact ⟨_, fnd_tot, by omega, by omega, by omega, by omega, by omega, fun _ => ⟨rfl, rfl⟩⟩
              · obtain ⟨r, hr⟩ := eFnd_ex m 0
                exact ⟨r, hr, by omega, by omega, by omega, by omega, by omega, by omega⟩
  obtain ⟨f, hf⟩ := Classical.axiomOfChoice ex
  have h := c_eNext 24714 0 f (fun m => (hf m).1) w hT
  have N0 : nI 24714 0 = 24714 := by decide
  have N1 : nI 24714 1 = 24715 := by decide
  have N2 : nI 24714 2 = 24716 := by decide
  have N3 : nI 24714 3 = 24717 := by decide
  have N4 : nI 24714 4 = 24718 := by decide
  have N5 : nI 24714 5 = 24719 := by decide
  obtain ⟨-, a0, -, -, -, -, -⟩ := hf 24714
  obtain ⟨-, -, a1, -, -, -, -⟩ := hf 24715
  obtain ⟨-, -, -, a2, -, -, -⟩ := hf 24716
  obtain ⟨-, -, -, -, a3, -, -⟩ := hf 24717
  obtain ⟨-, -, -, -, -, a4, -⟩ := hf 24718
  obtain ⟨-, -, -, -, -, -, a5⟩ := hf 24719
  have e : nxS f (nI 24714) 24 0 = (24719, 0) := by
    rw [nxS, N0, (a0 rfl).1, (a0 rfl).2, if_neg (by omega), if_neg (by omega)]
    rw [nxS, N1, (a1 rfl).1, (a1 rfl).2, if_neg (by omega), if_neg (by omega)]
    rw [nxS, N2, (a2 rfl).1, (a2 rfl).2, if_neg (by omega), if_neg (by omega)]
    rw [nxS, N3, (a3 rfl).1, (a3 rfl).2, if_neg (by omega), if_neg (by omega)]
    rw [nxS, N4, (a4 rfl).1, (a4 rfl).2, if_neg (by omega), if_neg (by omega)]
    rw [nxS, N5, (a5 rfl).1, (a5 rfl).2, if_neg (by omega), if_pos (by omega)]
  rw [e] at h
  exact h
theorem c_eclipseWorks (w : World) (hT : Tab w) : Calls Tryd.prog 8 #[] w fun e w' => e = .returned (.bool true) ∧ Below w.heap.size w w' := by
  obtain ⟨f1, f2, f3, -, -⟩ := fix_tot
  have hF := fnd_tot
  have HF : Hid (∀ w1, Tab w1 → Calls Tryd.prog 9 #[.int .i64 24719, .int .i64 0] w1 fun e w' => e = .returned (.tuple #[.agg #[.int .i64 2, .int .i64 (phR 24719 0).lo, .int .i64 (phR 24719 0).hi, .int .i64 (eL0 24719 0), .int .i64 (eH0 24719 0), .int .i64 (eM0 0 (eL0 24719 0) (eH0 24719 0)), .int .i64 (eM1 0 (eL0 24719 0) (eH0 24719 0))], .int .i64 0]) ∧ Below w1.heap.size w1 w') := Lib.hid hF.use
  have HN := Lib.hid next_fix
  have HT := Lib.hid hT
  clear hF hT
  generalize eM0 0 (eL0 24719 0) (eH0 24719 0) = m0 at *
  generalize eM1 0 (eL0 24719 0) (eH0 24719 0) = m1 at *
  generalize eL0 24719 0 = l at *
  generalize eH0 24719 0 = h at *
  generalize phR 24719 0 = r at *
  have HH := Lib.hid (fun w1 => c_has1 l h 1695151 91000 w1 f1 f2 (by omega) (by omega) (by omega))
  have hgen := sgen; have hgen2 := sgen2; have hgen3 := sgen3; go_enter Tryd.func8, Tryd.ntmps8
  go_wp2_with (first | (go_at_call 9; (with_reducible refine (HF.out _ (HT.out.below (by exact belz))).mono ?_); rintro e w1 ⟨rfl, hb⟩; have hz := hb.size; (try simp only [szA, szS, szD, szN] at hz); (try (refine bcB (n := w.heap.size) hb ?_; intro h_w_0 e_w_0 d_w_0 _ _))) | (go_at_call 14; (with_reducible refine (HN.out _ (HT.out.below (by exact belz))).mono ?_); rintro e w2 ⟨rfl, hb⟩; have hz := hb.size; (try simp only [szA, szS, szD, szN] at hz); (try (refine bcB (n := w.heap.size) hb ?_; intro h_w_0 e_w_0 d_w_0 _ _)); (try (refine bcB (n := w1.heap.size) hb ?_; intro h_w1_0 e_w1_0 d_w1_0 _ _)); (try (refine bcB (n := w1.heap.size + 1) hb ?_; intro h_w1_1 e_w1_1 d_w1_1 _ _))) | (go_at_call 32; (with_reducible refine (HH.out _).mono ?_); rintro e w3 ⟨rfl, hb⟩; have hz := hb.size; (try simp only [szA, szS, szD, szN] at hz); (try (refine bcB (n := w.heap.size) hb ?_; intro h_w_0 e_w_0 d_w_0 _ _)); (try (refine bcB (n := w1.heap.size) hb ?_; intro h_w1_0 e_w1_0 d_w1_0 _ _)); (try (refine bcB (n := w1.heap.size + 1) hb ?_; intro h_w1_1 e_w1_1 d_w1_1 _ _)); (try (refine bcB (n := w2.heap.size) hb ?_; intro h_w2_0 e_w2_0 d_w2_0 _ _))))
  go_ret
  refine ⟨rfl, ?_⟩
  exact belz
theorem walk_EclipseNexts (n q : Int) (w : World) (hT : Tab w) :
    Calls Tryd.prog 4 #[.int .i64 n, .int .i64 q] w fun e w' => e = .returned (.bool true) ∧ Below w.heap.size w w' := by
  obtain ⟨f, hf⟩ := Classical.axiomOfChoice (fun m => eFnd_ex m q)
  have hN := fun w1 h => c_eNext n q f hf w1 h
  obtain ⟨⟨R1, R2⟩, hR⟩ : ∃ R, R = nxS f (nI n) 24 0 := ⟨_, rfl⟩
  rw [← hR] at hN
  have HN : Hid (∀ w1, Tab w1 → Calls Tryd.prog 14 #[.int .i64 n, .int .i64 q] w1 fun e w' => e = .returned (.tuple #[.int .i64 R1, .int .i64 R2]) ∧ Below w1.heap.size w1 w') := Lib.hid hN
  have HF := Lib.hid hf
  have HT := Lib.hid hT
  have HR := Lib.hid hR
  clear hf hT hR hN
  have hgen := sgen; have hgen2 := sgen2; have hgen3 := sgen3; go_enter Tryd.func4, Tryd.ntmps4
  go_upto_region 5 with (first | (go_at_call 8; (with_reducible refine (c_eclipseWorks _ (HT.out.below (by exact belz))).mono ?_); rintro e w1 ⟨rfl, hb⟩; have hz := hb.size; (try simp only [szA, szS, szD, szN] at hz); (try (refine bcB (n := w.heap.size) hb ?_; intro h_w_0 e_w_0 d_w_0 _ _))) | (go_at_call 14; (with_reducible refine (HN.out _ (HT.out.below (by exact belz))).mono ?_); rintro e w2 ⟨rfl, hb⟩; have hz := hb.size; (try simp only [szA, szS, szD, szN] at hz); (try (refine bcB (n := w.heap.size) hb ?_; intro h_w_0 e_w_0 d_w_0 _ _)); (try (refine bcB (n := w1.heap.size) hb ?_; intro h_w1_0 e_w1_0 d_w1_0 _ _))))
  have hb2 : Below w.heap.size w w2 := by exact belz
  clear HN hb
  go_loopg [18] 24 (fun gk i wr => ∃ j : Nat, gk + j = 24 ∧ i = .int .i64 (j : Int) ∧ (R1, R2) = nxS f (nI n) gk j ∧ Below w.heap.size w wr)
  case atStart => exact ⟨0, rfl, rfl, HR.out, hb2⟩
  case round =>
    clear HR hb2
    obtain ⟨j, hj, rfl, hS, hbel⟩ := hrel
    have hsz := hbel.size
    by_cases hlt : j < 24
    · have hjd : decide ((j : Int) < 24) = true := decide_eq_true (by omega)
      obtain ⟨g, rfl⟩ : ∃ g, gk = g + 1 := ⟨gk - 1, by omega⟩
      unfold nxS at hS
      have HE : Hid (∀ w1, Tab w1 → Calls Tryd.prog 9 #[.int .i64 (nI n j), .int .i64 q] w1 fun e w' => e = .returned (.tuple #[.agg #[.int .i64 (f (nI n j)).k, .int .i64 (f (nI n j)).a1, .int .i64 (f (nI n j)).a2, .int .i64 (f (nI n j)).a3, .int .i64 (f (nI n j)).a4, .int .i64 (f (nI n j)).a5, .int .i64 (f (nI n j)).a6], .int .i64 (f (nI n j)).x]) ∧ Below w1.heap.size w1 w') := Lib.hid (HF.out (nI n j))
      have hN : IntKind.i64.wrap (n + (j : Int)) = nI n j := rfl
      have hTT := Lib.hid (HT.out.below hbel)
      have HSS := Lib.hid hS
      clear hS
      generalize nI n j = m at *
      by_cases hx : (f m).x = 0
      · have f1 : ((f m).x != 0) = false := by simp [hx]
        by_cases hk : (f m).k = 0
        · have f2 : ((f m).k != 0) = false := by simp [hk]
          have HS2 : Hid ((R1, R2) = nxS f (nI n) g (j + 1)) := Lib.hid (by have h := HSS.out; rwa [if_neg (by omega), if_neg (by omega)] at h)
          clear HSS
          generalize f m = r at *
          go_wp2_with (go_at_call 9; (with_reducible refine (HE.out _ (hTT.out.below (by exact belz))).mono ?_); rintro e w3 ⟨rfl, hb⟩; have hz := hb.size; (try simp only [szA, szS, szD, szN] at hz); (try (refine bcB (n := wr.heap.size) hb ?_; intro h_wr_0 e_wr_0 d_wr_0 _ _)); (try (refine bcB (n := w.heap.size) hb ?_; intro h_w_0 e_w_0 d_w_0 _ _)))
          go_roundg g
          case measure => omega
          case rel => exact ⟨j + 1, by omega, rfl, HS2.out, by exact belz⟩
        · have f2 : ((f m).k != 0) = true := by simp [hk]
          have hS2 : (R1, R2) = (m, 0) := by have h := HSS.out; rwa [if_neg (by omega), if_pos hk] at h
          clear HSS
          generalize f m = r at *
          obtain ⟨e1, e2⟩ := Prod.mk.inj hS2
          subst e1 e2
          have f3 : (R1 == R1) = true := by simp
          clear hS2
          go_wp2_with (go_at_call 9; (with_reducible refine (HE.out _ (hTT.out.below (by exact belz))).mono ?_); rintro e w3 ⟨rfl, hb⟩; have hz := hb.size; (try simp only [szA, szS, szD, szN] at hz); (try (refine bcB (n := wr.heap.size) hb ?_; intro h_wr_0 e_wr_0 d_wr_0 _ _)); (try (refine bcB (n := w.heap.size) hb ?_; intro h_w_0 e_w_0 d_w_0 _ _)))
          go_ret
          refine ⟨rfl, ?_⟩
          exact belz
      · have f1 : ((f m).x != 0) = true := by simp [hx]
        have hS2 : (R1, R2) = (0, (f m).x) := by have h := HSS.out; rwa [if_pos hx] at h
        clear HSS
        generalize f m = r at *
        obtain ⟨e1, e2⟩ := Prod.mk.inj hS2
        subst e1 e2
        have f3 : (r.x == r.x) = true := by simp
        clear hS2
        go_wp2_with (go_at_call 9; (with_reducible refine (HE.out _ (hTT.out.below (by exact belz))).mono ?_); rintro e w3 ⟨rfl, hb⟩; have hz := hb.size; (try simp only [szA, szS, szD, szN] at hz); (try (refine bcB (n := wr.heap.size) hb ?_; intro h_wr_0 e_wr_0 d_wr_0 _ _)); (try (refine bcB (n := w.heap.size) hb ?_; intro h_w_0 e_w_0 d_w_0 _ _)))
        go_ret
        refine ⟨rfl, ?_⟩
        exact belz
    · obtain rfl : j = 24 := by omega
      obtain rfl : gk = 0 := by omega
      have hS2 : (R1, R2) = (0, 6) := hS
      obtain ⟨e1, e2⟩ := Prod.mk.inj hS2
      subst e1 e2
      clear hS hS2
      go_wp2
      go_ret
      refine ⟨rfl, ?_⟩
      exact belz
end Go.Proofs.YtcgnhnmigmdalaaDoor
