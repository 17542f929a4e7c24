/- The contract of trig.Arc. The contract of trig.Arc where its intervals are right. The contracts of trig.Sin, Cos and Root, and of the self-check of package trig. -/
import Derived.Test.YtcgnhnmigmdalaaDoorAtA
import Derived.Test.YtcgnhnmigmdalaaDoorWkD
import Derived.Test.YtcgnhnmigmdalaaDoorTrB
import Derived.Deep.RegionHeld3
import Derived.Deep.DeepCutAuto
set_option linter.unusedVariables false
set_option linter.unusedSimpArgs false
namespace Go.Proofs.YtcgnhnmigmdalaaDoor
section
open Go.RowKit
theorem min2_eq (x y : Nat) (h : (Ieee.double.order x y).isSome = true) : Builtin.min2 (.float .f64 x) (.float .f64 y) = pure (.float .f64 (fminW x y)) := by
  unfold fminW
  have e : Builtin.min2 (.float .f64 x) (.float .f64 y) = (match FloatKind.f64.format.order x y with
    | none => do pure (.float .f64 (← choose (.nanMinMax .f64 false x y)))
    | some .lt => pure (.float .f64 x)
    | some .gt => pure (.float .f64 y)
    | some .eq => pure (.float .f64 (if (FloatKind.f64.decode x).neg then x else y))) := rfl
  rw [e, show FloatKind.f64.format.order x y = Ieee.double.order x y from rfl, show FloatKind.f64.decode x = Ieee.double.read x from rfl]
  cases ho : Ieee.double.order x y with
  | none => rw [ho] at h; cases h
  | some o => cases o <;> rfl
theorem max2_eq (x y : Nat) (h : (Ieee.double.order x y).isSome = true) : Builtin.max2 (.float .f64 x) (.float .f64 y) = pure (.float .f64 (fmaxW x y)) := by
  unfold fmaxW
  have e : Builtin.max2 (.float .f64 x) (.float .f64 y) = (match FloatKind.f64.format.order x y with
    | none => do pure (.float .f64 (← choose (.nanMinMax .f64 true x y)))
    | some .lt => pure (.float .f64 y)
    | some .gt => pure (.float .f64 x)
    | some .eq => pure (.float .f64 (if (FloatKind.f64.decode x).neg then y else x))) := rfl
  rw [e, show FloatKind.f64.format.order x y = Ieee.double.order x y from rfl, show FloatKind.f64.decode x = Ieee.double.read x from rfl]
  cases ho : Ieee.double.order x y with
  | none => rw [ho] at h; cases h
  | some o => cases o <;> rfl
theorem run_minF {x y : Nat} (h : (Ieee.double.order x y).isSome = true) : ∀ ts t w, (Builtin.min_ ts t #[.float .f64 x, .float .f64 y]).run Tryd.prog w = .ok (.float .f64 (fminW x y)) w := by
  intro ts t w
  have := min2_eq x y h
  simp [Builtin.min_, this]
theorem run_maxF {x y : Nat} (h : (Ieee.double.order x y).isSome = true) : ∀ ts t w, (Builtin.max_ ts t #[.float .f64 x, .float .f64 y]).run Tryd.prog w = .ok (.float .f64 (fmaxW x y)) w := by
  intro ts t w
  have := max2_eq x y h
  simp [Builtin.max_, this]
theorem c_AroundP {v : Nat} (h : AroundP v) (w : World) : Calls Tryd.prog 78 #[fl v] w fun e w' => e = .returned (.agg #[.int .i64 (arLo v), .int .i64 (arHi v)]) ∧ Below w.heap.size w w' := by
  obtain ⟨s1, s2, X1, X2, w1, w2, w3, w4, w5, w6, w7, w8, w9, w10⟩ := h
  exact c_Around w1 w2 w3 w4 w5 w6 w7 w8 w9 w10 w
end
section
open Go.RowKit
end
section
open Go.RowKit
def angOk (a : Int) : Bool := decide (-1000000000000000000 ≤ a) && decide (a ≤ 1000000000000000000)
theorem c_trRange (a : Int) (w : World) : Calls Tryd.prog 114 #[.int .i64 a] w fun e w' => e = .returned (.bool (angOk a)) ∧ w = w' := by
  rcases (show a < -1000000000000000000 ∨ (-1000000000000000000 ≤ a ∧ a ≤ 1000000000000000000) ∨ 1000000000000000000 < a by omega) with h | ⟨h1, h2⟩ | h
  · have e : angOk a = false := by unfold angOk; rw [decide_eq_false (by omega)]; rfl
    rw [e]
    have hgen := sgen; have hgen2 := sgen2; have hgen3 := sgen3; go_enter Tryd.func114, Tryd.ntmps114
    go_wp2
    go_ret
    exact ⟨rfl, rfl⟩
  · have e : angOk a = true := by unfold angOk; rw [decide_eq_true h1, decide_eq_true h2]; rfl
    have d1 : decide (-1000000000000000000 ≤ a) = true := decide_eq_true h1
    have d2 : decide (a ≤ 1000000000000000000) = true := decide_eq_true h2
    rw [e]
    have hgen := sgen; have hgen2 := sgen2; have hgen3 := sgen3; go_enter Tryd.func114, Tryd.ntmps114
    go_wp2
    go_ret
    exact ⟨rfl, rfl⟩
  · have e : angOk a = false := by unfold angOk; rw [decide_eq_false (show ¬ a ≤ 1000000000000000000 by omega)]; simp
    have d1 : decide (-1000000000000000000 ≤ a) = true := decide_eq_true (by omega)
    have d2 : decide (a ≤ 1000000000000000000) = false := decide_eq_false (by omega)
    rw [e]
    have hgen := sgen; have hgen2 := sgen2; have hgen3 := sgen3; go_enter Tryd.func114, Tryd.ntmps114
    go_wp2
    go_ret
    exact ⟨rfl, rfl⟩
theorem c_Sin_ok (a : Int) (w : World) (ht : Tab w) (h : angOk a = true) : Calls Tryd.prog 97 #[.int .i64 a] w fun e w' => e = .returned (.tuple #[.agg #[.int .i64 (sineLo a), .int .i64 (sineHi a)], .int .i64 0]) ∧ Below w.heap.size w w' := by
  have hh := h
  unfold angOk at hh
  simp at hh
  have HR := Lib.hid (fun w1 => c_trRange a w1)
  rw [h] at HR
  have HT := Lib.hid ht
  have HS := Lib.hid (fun w1 (hw : Tab w1) => c_sine a w1 hw (by omega) (by omega))
  clear ht h hh
  generalize sineLo a = sl at *
  generalize sineHi a = sh at *
  have hgen := sgen; have hgen2 := sgen2; have hgen3 := sgen3; go_enter Tryd.func97, Tryd.ntmps97
  go_wp2_with (first | (go_at_call 114; refine (HR.out _).mono ?_; rintro e w' ⟨rfl, rfl⟩) | (go_at_call 112; (refine (HS.out _ (HT.out.below (by exact belz))).mono ?_); rintro e w1 ⟨rfl, hb⟩; have hz := hb.size; (try simp only [szA, szS, szD, szN] at hz); (try (refine bcB (n := w.heap.size) hb ?_; intro h_w_0 e_w_0 d_w_0 _ _))))
  refine bodyPost_ret (v := .tuple #[.agg #[.int .i64 sl, .int .i64 sh], .int .i64 0]) (by simp only [results, Tryd.results97]; go_simp) rfl ⟨rfl, ?_⟩
  exact belz
theorem c_Sin_bad (a : Int) (w : World) (h : angOk a = false) : Calls Tryd.prog 97 #[.int .i64 a] w fun e w' => e = .returned (.tuple #[.agg #[.int .i64 0, .int .i64 0], .int .i64 3]) ∧ Below w.heap.size w w' := by
  have HR := Lib.hid (fun w1 => c_trRange a w1)
  rw [h] at HR
  clear h
  have hgen := sgen; have hgen2 := sgen2; have hgen3 := sgen3; go_enter Tryd.func97, Tryd.ntmps97
  go_wp2_with (go_at_call 114; refine (HR.out _).mono ?_; rintro e w' ⟨rfl, rfl⟩)
  refine bodyPost_ret (v := .tuple #[.agg #[.int .i64 0, .int .i64 0], .int .i64 3]) (by simp only [results, Tryd.results97]; go_simp) rfl ⟨rfl, ?_⟩
  exact belz
theorem c_Cos_ok (a : Int) (w : World) (ht : Tab w) (h : angOk a = true) : Calls Tryd.prog 98 #[.int .i64 a] w fun e w' => e = .returned (.tuple #[.agg #[.int .i64 (sineLo (a % 1000000000 + 250000000)), .int .i64 (sineHi (a % 1000000000 + 250000000))], .int .i64 0]) ∧ Below w.heap.size w w' := by
  have hh := h
  unfold angOk at hh
  simp at hh
  have HR := Lib.hid (fun w1 => c_trRange a w1)
  rw [h] at HR
  have HT := Lib.hid ht
  have HM := Lib.hid (fun w1 => c_mod a 1000000000 w1 (by omega) (by omega) (by omega) (by omega))
  have m0 := Int.emod_nonneg a (show (1000000000 : Int) ≠ 0 by omega)
  have m1 := Int.emod_lt_of_pos a (show (0 : Int) < 1000000000 by omega)
  have HS := Lib.hid (fun w1 (hw : Tab w1) => c_sine (a % 1000000000 + 250000000) w1 hw (by omega) (by omega))
  clear ht h hh
  generalize a % 1000000000 = b at *
  generalize sineLo (b + 250000000) = sl at *
  generalize sineHi (b + 250000000) = sh at *
  have hgen := sgen; have hgen2 := sgen2; have hgen3 := sgen3; go_enter Tryd.func98, Tryd.ntmps98
  go_wp2_with (first | (go_at_call 114; refine (HR.out _).mono ?_; rintro e w' ⟨rfl, rfl⟩) | (go_at_call 86; refine (HM.out _).mono ?_; rintro e w' ⟨rfl, nn, rfl⟩) | (go_at_call 112; (refine (HS.out _ (HT.out.below (by exact belz))).mono ?_); rintro e w1 ⟨rfl, hb⟩; have hz := hb.size; (try simp only [szA, szS, szD, szN] at hz); (try (refine bcB (n := w.heap.size) hb ?_; intro h_w_0 e_w_0 d_w_0 _ _))))
  refine bodyPost_ret (v := .tuple #[.agg #[.int .i64 sl, .int .i64 sh], .int .i64 0]) (by simp only [results, Tryd.results98]; go_simp) rfl ⟨rfl, ?_⟩
  exact belz
theorem c_Cos_bad (a : Int) (w : World) (h : angOk a = false) : Calls Tryd.prog 98 #[.int .i64 a] w fun e w' => e = .returned (.tuple #[.agg #[.int .i64 0, .int .i64 0], .int .i64 3]) ∧ Below w.heap.size w w' := by
  have HR := Lib.hid (fun w1 => c_trRange a w1)
  rw [h] at HR
  clear h
  have hgen := sgen; have hgen2 := sgen2; have hgen3 := sgen3; go_enter Tryd.func98, Tryd.ntmps98
  go_wp2_with (go_at_call 114; refine (HR.out _).mono ?_; rintro e w' ⟨rfl, rfl⟩)
  refine bodyPost_ret (v := .tuple #[.agg #[.int .i64 0, .int .i64 0], .int .i64 3]) (by simp only [results, Tryd.results98]; go_simp) rfl ⟨rfl, ?_⟩
  exact belz
/-- The least interval around the roots. -/
structure RootOk (lo hi p q : Int) : Prop where
  p0 : 0 ≤ p
  p1 : p * p ≤ lo
  p2 : lo < (p + 1) * (p + 1)
  q0 : 0 ≤ q
  q1 : hi ≤ q * q
  q2 : q = 0 ∨ (q - 1) * (q - 1) < hi
theorem root9 {R n : Int} (h0 : 0 ≤ R) (h : R * R ≤ n) (h1 : n ≤ 1000000000000000000) : R ≤ 1000000000 ∧ R * R ≤ 1000000000000000000 ∧ 0 ≤ R * R := ⟨root_le h h1, by omega, Int.mul_nonneg h0 h0⟩
theorem root29 {p q : Int} (h : RootOk 2 9 p q) : p = 1 ∧ q = 3 := by
  obtain ⟨p0, p1, p2, q0, q1, q2⟩ := h
  have hp : p ≤ 1 := by
    by_cases k : p ≤ 1
    · exact k
    · have := sq_mono (a := 2) (b := p) (by omega) (by omega); omega
  have hp2 : 1 ≤ p := by
    by_cases k : 1 ≤ p
    · exact k
    · have : p = 0 := by omega
      subst this; omega
  have hq : 3 ≤ q := by
    by_cases k : 3 ≤ q
    · exact k
    · have := sq_mono (a := q) (b := 2) (by omega) (by omega); omega
  have hq2 : q ≤ 3 := by
    by_cases k : q ≤ 3
    · exact k
    · have := sq_mono (a := 3) (b := q - 1) (by omega) (by omega); omega
  omega
theorem c_Sin_fix (w : World) (ht : Tab w) : Calls Tryd.prog 97 #[.int .i64 125000000] w fun e w' => e = .returned (.tuple #[.agg #[.int .i64 707106781, .int .i64 707106782], .int .i64 0]) ∧ Below w.heap.size w w' := by
  have h := c_Sin_ok 125000000 w ht (by decide)
  rw [show sineLo 125000000 = 707106781 by decide +kernel, show sineHi 125000000 = 707106782 by decide +kernel] at h
  exact h
theorem c_Cos_fix (w : World) (ht : Tab w) : Calls Tryd.prog 98 #[.int .i64 0] w fun e w' => e = .returned (.tuple #[.agg #[.int .i64 1000000000, .int .i64 1000000000], .int .i64 0]) ∧ Below w.heap.size w w' := by
  have h := c_Cos_ok 0 w ht (by decide)
  rw [show sineLo (0 % 1000000000 + 250000000) = 1000000000 by decide +kernel, show sineHi (0 % 1000000000 + 250000000) = 1000000000 by decide +kernel] at h
  exact h
end
end Go.Proofs.YtcgnhnmigmdalaaDoor
