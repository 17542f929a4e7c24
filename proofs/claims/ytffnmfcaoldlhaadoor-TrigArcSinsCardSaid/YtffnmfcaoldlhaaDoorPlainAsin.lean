/- The angle whose sine is a number. No program in sight. -/
import Derived.Test.YtffnmfcaoldlhaaDoorPlainRoot
import Derived.Test.YtffnmfcaoldlhaaDoorPlainOver
import Derived.Test.YtffnmfcaoldlhaaDoorPlainTA
set_option linter.unusedVariables false
set_option linter.unusedSimpArgs false
namespace Go.Proofs.YtffnmfcaoldlhaaDoor
open Ieee
/-- An angle whose sine is a whole number of units. -/
structure Asin (n : Int) (D : Rat) : Prop where
  s : rabs (S (tq * D) - (n : Rat) / 1000000000) ≤ 1 / 10000000000
  b : rabs (tq * D) ≤ piQ / 2 + 2 / 10000000000
theorem cos_sign {θ : Rat} (h : rabs θ ≤ 3142/1000) (hc : -(9 / 100000000000) ≤ C θ) : rabs θ ≤ piQ / 2 + 2 / 10000000000 := by
  have hp := pi_num
  obtain ⟨-, -, p3, p4, -⟩ := at_pi
  have key : ∀ t : Rat, 0 ≤ t → t ≤ 3142/1000 → -(9 / 100000000000) ≤ C t → t ≤ piQ / 2 + 2 / 10000000000 := by
    intro t t0 t1 tc
    by_cases q : t ≤ piQ / 2 + 2 / 10000000000
    · exact q
    · exfalso
      have hq : rabs (piQ / 2) ≤ 16/5 := rabs_le.2 ⟨by grind, by grind⟩
      have ht : rabs t ≤ 32/5 := rabs_le.2 ⟨by grind, by grind⟩
      have a := rabs_le.1 (sin_sub ht hq)
      have hb := SC_bd ht
      have m1 := rabs_le.1 (mul_rabs hb.1 p4)
      have m2 := rabs_le.1 (mul_rabs hb.2 p3)
      by_cases q2 : t - piQ / 2 ≤ 8/5
      · have l := (S_lin (x := t - piQ / 2) (by grind) q2).1
        grind
      · grind
  have h1 := rabs_le.1 h
  by_cases h0 : 0 ≤ θ
  · have := key θ h0 h1.1 hc
    rw [rabs_pos h0]; exact this
  · have := key (-θ) (by grind) (by grind) (by rw [C_neg]; exact hc)
    rw [← rabs_neg, rabs_pos (by grind)]; exact this
theorem asin_alg1 {s y u1 u2 u3 : Rat} (e : 1000000000 * (s - y / 1000000000) = u1 - u2 + u3) (h1 : rabs u1 ≤ 1 / 100000) (h2 : rabs u2 ≤ 1 / 1000) (h3 : rabs u3 ≤ 82/1000) : rabs (s - y / 1000000000) ≤ 1 / 10000000000 := by
  have a := rabs_le.1 h1
  have b := rabs_le.1 h2
  have c := rabs_le.1 h3
  rw [rabs_le]
  generalize s - y / 1000000000 = z at *
  constructor <;> grind
theorem asin_alg2 {X c u1 u2 u3 : Rat} (X0 : 0 ≤ X) (e : 1000000000 * c = X + u1 - u3 - u2) (h1 : rabs u1 ≤ 1 / 10000) (h2 : rabs u2 ≤ 1 / 1000) (h3 : rabs u3 ≤ 82/1000) : -(9 / 100000000000) ≤ c := by
  have a := rabs_le.1 h1
  have b := rabs_le.1 h2
  have c := rabs_le.1 h3
  grind
theorem asin_of {X D : Rat} {n : Int} (h : Head X (n : Rat) D) (n1 : -1000000000 ≤ n) (n2 : n ≤ 1000000000) (X0 : 0 ≤ X) (hX : rabs (X * X - (1000000000000000000 - (n : Rat) * n)) ≤ 10000) : Asin n D := by
  obtain ⟨hn, hpp, hb⟩ := h
  have hp := pi_num
  obtain ⟨t1, t2, -⟩ := tq_num
  have tb : rabs (tq * D) ≤ 3142/1000 := by
    have := mul_rabs (show rabs tq ≤ 628319 / 100000000000000 from rabs_le.2 ⟨by grind, by grind⟩) hb
    grind
  have ci := rabs_le.1 (circ9 (y := tq * D) (by grind))
  have bb := SC_bd (y := tq * D) (by grind)
  have c1 : ((1000000000 : Int) : Rat) = 1000000000 := rfl
  have c2 : ((-1000000000 : Int) : Rat) = -1000000000 := rfl
  have N1 := icast n1
  have N2 := icast n2
  rw [c2] at N1
  rw [c1] at N2
  have hx := rabs_le.1 hX
  have nn := sq_nonneg (n : Rat)
  have Xb : X ≤ 1000000001 := by
    by_cases q : X ≤ 1000000001
    · exact q
    · have m1 := Rat.mul_nonneg (show 0 ≤ X - 1000000001 by grind) X0
      grind
  have rX := rabs_pos X0
  have rn : rabs (n : Rat) ≤ 1000000000 := rabs_le.2 ⟨N2, N1⟩
  generalize hs : S (tq * D) = s at *
  generalize hc : C (tq * D) = c at *
  generalize hy : (n : Rat) = y at *
  obtain ⟨N, hN⟩ : ∃ N, X * s - y * c = N := ⟨_, rfl⟩
  obtain ⟨P, hP⟩ : ∃ P, X * c + y * s = P := ⟨_, rfl⟩
  rw [hN, rX] at hn
  rw [hP, rX] at hpp
  have hN2 : rabs N ≤ 81/1000 := by clear hN hP hx hX; grind
  have NN := rabs_le.1 (mul_rabs hN2 hN2)
  have P0 : 0 ≤ P := by have := rabs_nonneg y; clear hN hP hx hX; grind
  have id1 : P * P + N * N = (X * X + y * y) * (s * s + c * c) := by rw [← hN, ← hP]; grind
  have zz : rabs (X * X + y * y) ≤ 1000000000000010000 := rabs_le.2 ⟨by grind, by grind⟩
  have k1 := rabs_le.1 (mul_rabs zz (show rabs (s * s + c * c - 1) ≤ 1 / 1000000000000000 from rabs_le.2 ci))
  have pp : rabs (P * P - 1000000000000000000) ≤ 20000 := by
    have e : P * P - 1000000000000000000 = (X * X + y * y) * (s * s + c * c - 1) + (X * X - (1000000000000000000 - y * y)) - N * N := by grind
    rw [e, rabs_le]
    constructor <;> grind
  have pp1 := rabs_le.1 pp
  have Pn : rabs (P - 1000000000) ≤ 1 / 10000 := by
    rw [rabs_le]
    constructor
    · by_cases q : P - 1000000000 ≤ 1 / 10000
      · exact q
      · have m1 := Rat.mul_nonneg (show 0 ≤ P - 1000000000 - 1 / 10000 by grind) (show 0 ≤ P + 1000000000 by grind)
        grind
    · by_cases q : -(1 / 10000) ≤ P - 1000000000
      · exact q
      · have m1 := Rat.mul_nonneg (show 0 ≤ 1000000000 - 1 / 10000 - P by grind) (show 0 ≤ P + 1000000000 by grind)
        grind
  have Pn1 := rabs_le.1 Pn
  have id2 : y * (s * s + c * c) = s * P - c * N := by rw [← hN, ← hP]; grind
  have id3 : X * (s * s + c * c) = c * P + s * N := by rw [← hN, ← hP]; grind
  have k2 := rabs_le.1 (mul_rabs rn (show rabs (s * s + c * c - 1) ≤ 1 / 1000000000000000 from rabs_le.2 ci))
  have k3 := rabs_le.1 (mul_rabs bb.2 hN2)
  have k4 := rabs_le.1 (mul_rabs bb.1 Pn)
  have k5 := rabs_le.1 (mul_rabs bb.1 hN2)
  have k6 := rabs_le.1 (mul_rabs bb.2 Pn)
  have k7 := rabs_le.1 (mul_rabs (show rabs X ≤ 1000000001 by rw [rX]; exact Xb) (show rabs (s * s + c * c - 1) ≤ 1 / 1000000000000000 from rabs_le.2 ci))
  constructor
  · rw [hs, hy]
    have e : 1000000000 * (s - y / 1000000000) = (s * P - c * N - y) - s * (P - 1000000000) + c * N := by grind
    have e2 : s * P - c * N - y = y * (s * s + c * c - 1) := by rw [← id2]; grind
    rw [e2] at e
    exact asin_alg1 (u1 := y * (s * s + c * c - 1)) (u2 := s * (P - 1000000000)) (u3 := c * N) e (rabs_le.2 ⟨by clear e2 e id2 id3 hN hP; grind, by clear e2 e id2 id3 hN hP; grind⟩) (rabs_le.2 ⟨by clear e2 e id2 id3 hN hP; grind, by clear e2 e id2 id3 hN hP; grind⟩) (rabs_le.2 ⟨by clear e2 e id2 id3 hN hP; grind, by clear e2 e id2 id3 hN hP; grind⟩)
  · refine cos_sign tb ?_
    rw [hc]
    have e : 1000000000 * c = X + X * (s * s + c * c - 1) - s * N - c * (P - 1000000000) := by
      have : c * P = X * (s * s + c * c) - s * N := by rw [id3]; grind
      grind
    exact asin_alg2 (u1 := X * (s * s + c * c - 1)) (u2 := c * (P - 1000000000)) (u3 := s * N) X0 e (rabs_le.2 ⟨by clear e id2 id3 hN hP; grind, by clear e id2 id3 hN hP; grind⟩) (rabs_le.2 ⟨by clear e id2 id3 hN hP; grind, by clear e id2 id3 hN hP; grind⟩) (rabs_le.2 ⟨by clear e id2 id3 hN hP; grind, by clear e id2 id3 hN hP; grind⟩)
theorem sin_mono {x y : Rat} (h : x ≤ y) (hx : rabs x ≤ piQ / 2 + 3 / 10000000000) (hy : rabs y ≤ piQ / 2 + 3 / 10000000000) : S x ≤ S y + 7 / 10000000000 := by
  have hp := pi_num
  have x1 := rabs_le.1 hx
  have y1 := rabs_le.1 hy
  have hm : rabs ((y + x) / 2) ≤ 32/5 := rabs_le.2 ⟨by grind, by grind⟩
  have hd : rabs ((y - x) / 2) ≤ 16/5 := rabs_le.2 ⟨by grind, by grind⟩
  have d := rabs_le.1 (sin_diff hm hd).1
  have e1 : (y + x) / 2 + (y - x) / 2 = y := by grind
  have e2 : (y + x) / 2 - (y - x) / 2 = x := by grind
  rw [e1, e2] at d
  have cu := C_up (d := 3 / 10000000000) (x := (y + x) / 2) (by grind) (by grind) (by grind) (by grind)
  have sl := (S_lin (x := (y - x) / 2) (by grind) (by grind)).1
  have sb := rabs_le.1 (SC_bd (y := (y - x) / 2) (by grind)).1
  have m1 := Rat.mul_nonneg (show 0 ≤ C ((y + x) / 2) + 302 / 1000000000000 by grind) (show 0 ≤ S ((y - x) / 2) by grind)
  generalize C ((y + x) / 2) = c at *
  generalize S ((y - x) / 2) = s at *
  grind
/-- A greater sine has a greater angle. -/
theorem asin_lt {m n : Int} {D E : Rat} (h : m < n) (hm : Asin m D) (hn : Asin n E) : D ≤ E := by
  by_cases q : D ≤ E
  · exact q
  · exfalso
    have hb := hm.b
    have he := hn.b
    have := sin_mono (x := tq * E) (y := tq * D) (tq_le (by grind)) (by grind) (by grind)
    have a := rabs_le.1 hm.s
    have b := rabs_le.1 hn.s
    have c := icast (show m + 1 ≤ n by omega)
    push_cast at c
    grind
end Go.Proofs.YtffnmfcaoldlhaaDoor
