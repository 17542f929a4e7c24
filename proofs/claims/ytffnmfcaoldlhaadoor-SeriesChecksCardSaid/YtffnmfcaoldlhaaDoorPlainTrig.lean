/- Radians, the interval around a number, and the sine of an angle, as plain functions. No program in sight. -/
import Derived.Test.YtffnmfcaoldlhaaDoorPlainMir
import Derived.Test.YtffnmfcaoldlhaaDoorPlainSc2
set_option linter.unusedVariables false
set_option linter.unusedSimpArgs false
namespace Go.Proofs.YtffnmfcaoldlhaaDoor
open Ieee
/-- A word that reads as a whole number is cut to it. -/
theorem cut_int {w : Nat} {n : Int} (h : Num w (n : Rat)) : (double.read w).toInt .zero = some n := by
  obtain ⟨s, m, p, h1, h2⟩ := h
  unfold Reads at h1
  rw [h1]
  unfold Datum.toInt Datum.integral
  dsimp only
  rw [cut_is _ _ _ _ (by decide)]
  dsimp only
  have e := shift_rv s m p
  rw [h2] at e
  have hp := Nat.two_pow_pos (-p).toNat
  generalize m <<< p.toNat = N at *
  generalize 2 ^ (-p).toNat = g at *
  have e2 : n * (g : Int) = (if s then -1 else 1) * (N : Int) := by
    have : ((n * (g : Int) : Int) : Rat) = (((if s then -1 else 1) * (N : Int) : Int) : Rat) := by
      push_cast
      rw [e]
      cases s <;> simp
    exact_mod_cast this
  have hN : N = n.natAbs * g := by
    have a := congrArg Int.natAbs e2
    rw [Int.natAbs_mul] at a
    cases s
    · simp at a; omega
    · simp at a; omega
  have hq : N / g = n.natAbs := by rw [hN]; exact Nat.mul_div_cancel _ hp
  rw [hq]
  unfold signed
  congr 1
  cases s
  · simp at e2 ⊢
    have : 0 ≤ n := by
      by_cases q : 0 ≤ n
      · exact q
      · have := Int.mul_neg_of_neg_of_pos (show n < 0 by omega) (show (0 : Int) < g by omega)
        omega
    omega
  · simp at e2 ⊢
    have : n ≤ 0 := by
      by_cases q : n ≤ 0
      · exact q
      · have := Int.mul_pos (show 0 < n by omega) (show (0 : Int) < g by omega)
        omega
    omega
/-- A whole number of at most 53 digits in floating point. -/
theorem fofI_num (n : Int) (h1 : -9007199254740992 < n) (h2 : n < 9007199254740992) : Num (fofI n) (n : Rat) := by
  obtain ⟨m, p, g1, g2⟩ := write_whole (decide (n < 0)) n.natAbs (by omega)
  refine ⟨_, m, p, g1, ?_⟩
  rw [g2, total_rv n 0 (decide (n < 0)) (fun _ => rfl), p2_zero, Rat.mul_one]
theorem fofI_ap (n : Int) (K : Nat) (hK : K ≤ 900) (h1 : (n : Rat) ≤ p2 K) (h2 : -p2 K ≤ (n : Rat)) : Ap (fofI n) (n : Rat) (p2 (K - 53)) := nearest_ap n K hK h1 h2
theorem signed_nat (s : Bool) (k : Nat) (h : k < 2 ^ 53) : -9007199254740992 < signed s k 0 ∧ signed s k 0 < 9007199254740992 ∧ (signed s k 0).natAbs = k := by
  unfold signed
  cases s <;> simp <;> omega
theorem sg_abs (s : Bool) (k : Nat) : rv s k 0 = ((signed s k 0 : Int) : Rat) := by
  unfold rv signed
  rw [p2_zero]
  cases s
  · simp [Rat.intCast_natCast]
  · simp [Rat.intCast_natCast]; grind
theorem small_of {s : Bool} {k : Nat} (h1 : ((signed s k 0 : Int) : Rat) ≤ 9000000000000000) (h2 : -9000000000000000 ≤ ((signed s k 0 : Int) : Rat)) : k < 2 ^ 53 := by
  have a1 : signed s k 0 ≤ 9000000000000000 := Rat.intCast_le_intCast.1 h1
  have a2 : -9000000000000000 ≤ signed s k 0 := Rat.intCast_le_intCast.1 h2
  unfold signed at a1 a2
  cases s <;> simp at a1 a2 <;> omega
/-- Floor and ceiling, and what they are cut to. -/
theorem flr_cut {x : Nat} {X : Rat} (h : Num x X) (b1 : X ≤ 8000000000000000) (b2 : -8000000000000000 ≤ X) : ∃ n : Int, Num (fflr x) (n : Rat) ∧ (double.read (fflr x)).toInt .zero = some n ∧ (n : Rat) ≤ X ∧ X < (n : Rat) + 1 := by
  obtain ⟨s, m, p, h1, h2⟩ := h
  obtain ⟨k, k1, k2, k3⟩ := integral_down s m p
  have hk : k < 2 ^ 53 := small_of (s := s) (by grind) (by grind)
  obtain ⟨m', p', g1, g2⟩ := write_whole s k hk
  rw [sg_abs] at g2
  unfold Reads at h1
  have hn : Num (fflr x) ((signed s k 0 : Int) : Rat) := by
    unfold fflr
    rw [h1, k1]
    exact ⟨s, m', p', g1, g2⟩
  exact ⟨signed s k 0, hn, cut_int hn, by grind, by grind⟩
theorem cei_cut {x : Nat} {X : Rat} (h : Num x X) (b1 : X ≤ 8000000000000000) (b2 : -8000000000000000 ≤ X) : ∃ n : Int, Num (fcei x) (n : Rat) ∧ (double.read (fcei x)).toInt .zero = some n ∧ X ≤ (n : Rat) ∧ (n : Rat) < X + 1 := by
  obtain ⟨s, m, p, h1, h2⟩ := h
  obtain ⟨k, k1, k2, k3⟩ := integral_up s m p
  have hk : k < 2 ^ 53 := small_of (s := s) (by grind) (by grind)
  obtain ⟨m', p', g1, g2⟩ := write_whole s k hk
  rw [sg_abs] at g2
  unfold Reads at h1
  have hn : Num (fcei x) ((signed s k 0 : Int) : Rat) := by
    unfold fcei
    rw [h1, k1]
    exact ⟨s, m', p', g1, g2⟩
  exact ⟨signed s k 0, hn, cut_int hn, by grind, by grind⟩
def wSl : Nat := 4562254508917369340
def wTurn : Nat := 4741671816366391296
def wTwo : Nat := 4611686018427387904
def wPi : Nat := 4614256656552045848
def arLo (v : Nat) : Int := fcut (fflr (fsub v wSl))
def arHi (v : Nat) : Int := fcut (fcei (fadd v wSl))
/-- What trig.Around runs through, and what it answers. -/
theorem around_run {v : Nat} {V e : Rat} (K : Nat) (hK : K ≤ 50) (hv : Ap v V e) (b1 : V + e + 1 ≤ p2 K) (b2 : -p2 K ≤ V - e - 1) :
    ∃ s1 s2 X1 X2, double.sub v wSl = some s1 ∧ double.add v wSl = some s2 ∧ Num s1 X1 ∧ Num s2 X2 ∧ (double.read (fflr s1)).toInt .zero = some (arLo v) ∧ (double.read (fcei s2)).toInt .zero = some (arHi v) ∧
      -4000000000000000 ≤ arLo v ∧ arLo v ≤ 4000000000000000 ∧ -4000000000000000 ≤ arHi v ∧ arHi v ≤ 4000000000000000 ∧
      (arLo v : Rat) ≤ V - 1/1000 + (e + p2 (K - 53) + 1 / 10 ^ 18) ∧ V - 1/1000 - (e + p2 (K - 53) + 1 / 10 ^ 18) < (arLo v : Rat) + 1 ∧
      V + 1/1000 ≤ (arHi v : Rat) + (e + p2 (K - 53) + 1 / 10 ^ 18) ∧ (arHi v : Rat) < V + 1/1000 + (e + p2 (K - 53) + 1 / 10 ^ 18) + 1 := by
  have e0 := hv.pos
  have hs := cv_ap (show isNum wSl = true by decide +kernel)
  have sb : cv wSl ≤ 1/1000 + 1 / 10 ^ 18 ∧ 1/1000 ≤ cv wSl + 1 / 10 ^ 18 := by decide +kernel
  have t18 : (1 : Rat) / 10 ^ 18 ≤ 1 / 1000000000 := by decide +kernel
  have t18' : (0 : Rat) ≤ 1 / 10 ^ 18 := by decide +kernel
  have pK : p2 ((K : Int)) ≤ 1200000000000000 := by
    have h := p2_mono (a := (K : Int)) (b := ((50 : Nat) : Int)) (by omega)
    have h2 : p2 ((50 : Nat) : Int) = 1125899906842624 := by decide +kernel
    grind
  have pu : p2 ((K : Int) - 53) ≤ 1/8 := by
    have h := p2_mono (a := (K : Int) - 53) (b := ((50 : Nat) : Int) - 53) (by omega)
    have h2 : p2 (((50 : Nat) : Int) - 53) = 1/8 := by decide +kernel
    grind
  have pu0 := p2_pos ((K : Int) - 53)
  generalize (1 : Rat) / 10 ^ 18 = d at *
  generalize cv wSl = sl at *
  obtain ⟨s1, q1, q2⟩ := sub_ap K (by omega) hv hs (by grind) (by grind)
  obtain ⟨s2, r1, r2⟩ := add_ap K (by omega) hv hs (by grind) (by grind)
  obtain ⟨X1, n1, n2, n3⟩ := q2.num
  obtain ⟨X2, m1, m2, m3⟩ := r2.num
  obtain ⟨lo, f1, f2, f3, f4⟩ := flr_cut n1 (by grind) (by grind)
  obtain ⟨hi, g1, g2, g3, g4⟩ := cei_cut m1 (by grind) (by grind)
  have hlo : arLo v = lo := by unfold arLo; rw [fsub_of q1, fcut_of f2]
  have hhi : arHi v = hi := by unfold arHi; rw [fadd_of r1, fcut_of g2]
  rw [hlo, hhi]
  have c1 : (lo : Rat) ≤ ((4000000000000000 : Int) : Rat) := by
    have : ((4000000000000000 : Int) : Rat) = 4000000000000000 := rfl
    rw [this]; grind
  have c2 : ((-4000000000000000 : Int) : Rat) ≤ (lo : Rat) := by
    have : ((-4000000000000000 : Int) : Rat) = -4000000000000000 := rfl
    rw [this]; grind
  have c3 : (hi : Rat) ≤ ((4000000000000000 : Int) : Rat) := by
    have : ((4000000000000000 : Int) : Rat) = 4000000000000000 := rfl
    rw [this]; grind
  have c4 : ((-4000000000000000 : Int) : Rat) ≤ (hi : Rat) := by
    have : ((-4000000000000000 : Int) : Rat) = -4000000000000000 := rfl
    rw [this]; grind
  exact ⟨s1, s2, X1, X2, q1, r1, n1, m1, f2, g2, Rat.intCast_le_intCast.1 c2, Rat.intCast_le_intCast.1 c1, Rat.intCast_le_intCast.1 c4, Rat.intCast_le_intCast.1 c3, by grind, by grind, by grind, by grind⟩
/-- What trig.radians runs through at an angle. -/
def RadP (x q3 : Nat) : Prop := ∃ q1 q2, double.div x wTurn = some q1 ∧ double.mul q1 wTwo = some q2 ∧ double.mul q2 wPi = some q3
def radW (x : Nat) : Nat := fmul (fmul (fdiv x wTurn) wTwo) wPi
theorem radW_of {x q : Nat} (h : RadP x q) : radW x = q := by
  obtain ⟨q1, q2, h1, h2, h3⟩ := h
  unfold radW
  rw [fdiv_of h1, fmul_of h2, fmul_of h3]
theorem rad_zero : RadP 0 0 := ⟨0, 0, by decide +kernel, by decide +kernel, by decide +kernel⟩
theorem map_lt {d : Option Datum} {r : Nat} (h : d.map double.write = some r) : ∃ x, d = some x ∧ r = double.write x := by
  cases d with
  | none => cases h
  | some x => exact ⟨x, rfl, by cases h; rfl⟩
/-- Radians of a number of units from 0 to a turn that is known up to a small error. -/
theorem rad_run {x : Nat} {A e : Rat} (hx : Ap x A e) (a0 : 0 ≤ A) (a1 : A ≤ 1000000000) (he : e ≤ 3 / 10000000) :
    ∃ q, RadP x q ∧ Ap q (2 * piQ * A / 1000000000) (7 / 1000000000000000) := by
  have e0 := hx.pos
  obtain ⟨s, m, i, h1, h2, h3⟩ := hx
  have ht : Reads wTurn false 8388608000000000 (-23) := by unfold Reads; decide +kernel
  have tv : rv false 8388608000000000 (-23) = 1000000000 := by decide +kernel
  have p0 : p2 ((0 : Nat) : Int) = 1 := by decide +kernel
  have u54 : p2 (((1 : Nat) : Int) - 54) ≤ 12 / 100000000000000000 := by decide +kernel
  have u53 : p2 (((1 : Nat) : Int) - 53) ≤ 23 / 100000000000000000 := by decide +kernel
  have p1 : p2 ((1 : Nat) : Int) = 2 := by decide +kernel
  have p2' : p2 ((2 : Nat) : Int) = 4 := by decide +kernel
  have w53 : p2 (((2 : Nat) : Int) - 53) ≤ 45 / 100000000000000000 := by decide +kernel
  have p3 : p2 ((3 : Nat) : Int) = 8 := by decide +kernel
  have x53 : p2 (((3 : Nat) : Int) - 53) ≤ 89 / 100000000000000000 := by decide +kernel
  have n54 := Rat.le_of_lt (p2_pos (((1 : Nat) : Int) - 54))
  have n53 := Rat.le_of_lt (p2_pos (((1 : Nat) : Int) - 53))
  have m53 := Rat.le_of_lt (p2_pos (((2 : Nat) : Int) - 53))
  have o53 := Rat.le_of_lt (p2_pos (((3 : Nat) : Int) - 53))
  generalize hX : rv s m i = X at *
  have dv : X / 1000000000 = X * (1 / 1000000000) := by rw [Rat.div_def, Rat.div_def]; grind
  obtain ⟨q1, d1, d2⟩ := div_val 1 (by omega) h1 ht (by decide) (by rw [tv, hX, dv, p1]; grind) (by rw [tv, hX, dv, p1]; grind)
  rw [tv, hX, dv] at d2
  have d3 := d2.move (Y := A * (1 / 1000000000)) (d := 3 / 10000000000000000) (by grind) (by grind)
  have d4 := d3.mono (e' := 65 / 100000000000000000) (by grind)
  have hb : 0 ≤ A * (1 / 1000000000) ∧ A * (1 / 1000000000) ≤ 1 := by constructor <;> grind
  have hA : 2 * piQ * A / 1000000000 = A * (1 / 1000000000) * 2 * piQ := by rw [Rat.div_def]; grind
  rw [hA]
  generalize A * (1 / 1000000000) = B at *
  have h2w := cv_ap (show isNum wTwo = true by decide +kernel)
  have e2w : cv wTwo = 2 := by decide +kernel
  rw [e2w] at h2w
  obtain ⟨q2, g1, g2⟩ := mul_ap 1 2 2 (by omega) d4 h2w hb.2 (by grind) (by grind) (by grind) (by rw [p2']; grind)
  have hpw := cv_ap (show isNum wPi = true by decide +kernel)
  have epw : cv wPi ≤ piQ + 13 / 100000000000000000 ∧ piQ ≤ cv wPi + 13 / 100000000000000000 := by decide +kernel
  have pib : piQ ≤ 315/100 ∧ 0 ≤ piQ := by decide +kernel
  generalize cv wPi = P at *
  have g3 := g2.mono (e' := 18 / 10000000000000000) (by grind)
  obtain ⟨q3, k1, k2⟩ := mul_ap 2 (316/100) 3 (by omega) g3 hpw (by grind) (by grind) (by grind) (by grind) (by rw [p3]; grind)
  refine ⟨q3, ⟨q1, q2, d1, g1, k1⟩, ?_⟩
  have l1 := Rat.mul_le_mul_of_nonneg_left epw.1 (show (0 : Rat) ≤ B * 2 by grind)
  have l2 := Rat.mul_le_mul_of_nonneg_left epw.2 (show (0 : Rat) ≤ B * 2 by grind)
  exact (k2.move (Y := B * 2 * piQ) (d := 26 / 100000000000000000) (by grind) (by grind)).mono (by grind)
end Go.Proofs.YtffnmfcaoldlhaaDoor
