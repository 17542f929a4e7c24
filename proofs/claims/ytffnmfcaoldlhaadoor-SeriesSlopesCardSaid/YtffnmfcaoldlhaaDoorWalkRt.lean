/- The contracts of math.Sqrt and of whole.Root. -/
import Derived.Test.YtffnmfcaoldlhaaDoorWalkAt2
import Derived.Deep.LoopGhost
set_option linter.unusedVariables false
set_option linter.unusedSimpArgs false
namespace Go.Proofs.YtffnmfcaoldlhaaDoor
open Go.RowKit
theorem sq_eq (x : Nat) : Extern.MathSqrt.sqrt #[.float .f64 x] = (match FloatKind.f64.format.sqrt x with
    | some r => pure (.float .f64 r)
    | none => do pure (.float .f64 (← choose (.nanBits .f64 x x)))) := rfl
theorem run_sqrt {x r : Nat} (h : Ieee.double.sqrt x = some r) (w : World) : (callFunc 114 #[.float .f64 x]).run Tryd.prog w = .ok (.value (.float .f64 r)) w := by
  rw [run_callFunc_extern Tryd.func114 (by kernel_rfl) (by kernel_rfl) (by kernel_rfl) (e := Extern.MathSqrt.sqrt) (by rfl)]
  rw [sq_eq]
  rw [show FloatKind.f64.format.sqrt x = Ieee.double.sqrt x from rfl, h]
  rfl
theorem c_Sqrt {x r : Nat} (h : Ieee.double.sqrt x = some r) (w : World) : Calls Tryd.prog 95 #[fl x] w fun e w' => e = .returned (fl r) ∧ w = w' := by
  have hx := run_sqrt h
  clear h
  have hgen := sgen; have hgen2 := sgen2; have hgen3 := sgen3; go_enter Tryd.func95, Tryd.ntmps95
  go_wp2
  go_ret
  exact ⟨rfl, rfl⟩
theorem p2_33 : p2 33 = ((8589934592 : Nat) : Rat) := by decide +kernel
/-- The start of whole.Root. -/
theorem root_start (n : Int) (h0 : 0 ≤ n) (h1 : n ≤ 1000000000000000000) : ∃ s k, Ieee.double.sqrt (fofI n) = some s ∧ (Ieee.double.read s).toInt .zero = some ((k : Nat) : Int) ∧ k ≤ 8589934592 := by
  have r0 : (0 : Rat) ≤ (n : Rat) := by exact_mod_cast h0
  have r1 : (n : Rat) ≤ ((1000000000000000000 : Int) : Rat) := Rat.intCast_le_intCast.2 h1
  have c1 : ((1000000000000000000 : Int) : Rat) = 1000000000000000000 := rfl
  rw [c1] at r1
  have p60 : p2 ((60 : Nat) : Int) = 1152921504606846976 := by decide +kernel
  have p7 : p2 (((60 : Nat) : Int) - 53) = 128 := by decide +kernel
  have p62 : p2 62 = 4611686018427387904 := by decide +kernel
  obtain ⟨s, m, p, h2, h3, h4⟩ := fofI_ap n 60 (by omega) (by rw [p60]; grind) (by rw [p60]; grind)
  have hs := sign_of (fofI_lt63 n h0) h2
  subst hs
  obtain ⟨r, e1, m', p', e2, e3⟩ := sqrt_ok h2 (by rw [p62]; rw [p7] at h3; grind)
  obtain ⟨k, k1, k2, k3⟩ := toInt_pos m' p'
  refine ⟨r, k, e1, ?_, ?_⟩
  · unfold Reads at e2
    rw [e2]; exact k1
  · rw [p2_33] at e3
    have : (k : Rat) ≤ ((8589934592 : Nat) : Rat) := Rat.le_trans k2 e3
    exact_mod_cast this
theorem quo_le {n r : Int} (hr : 0 < r) : (r ≤ n / r ↔ r * r ≤ n) := Int.le_ediv_iff_mul_le hr
theorem sq_mono {a b : Int} (ha : 0 ≤ a) (h : a ≤ b) : a * a ≤ b * b := Int.le_trans (Int.mul_le_mul_of_nonneg_left h ha) (Int.mul_le_mul_of_nonneg_right h (by omega))
theorem root_le {r n : Int} (h : r * r ≤ n) (h1 : n ≤ 1000000000000000000) : r ≤ 1000000000 := by
  by_cases q : r ≤ 1000000000
  · exact q
  · have := sq_mono (a := 1000000001) (b := r) (by omega) (by omega)
    omega
theorem ret_wroot {a b : Int} (h : a = b) : Ending.returned (.tuple #[.int .i64 a, .int .i64 0]) = .returned (.tuple #[.int .i64 b, .int .i64 0]) := by rw [h]
set_option maxHeartbeats 1000000 in
theorem c_wroot (n : Int) (w : World) (h0 : 0 ≤ n) (h1 : n ≤ 1000000000000000000) :
    Calls Tryd.prog 68 #[.int .i64 n] w fun e w' => (∃ R : Int, e = .returned (.tuple #[.int .i64 R, .int .i64 0]) ∧ 0 ≤ R ∧ R * R ≤ n ∧ n < (R + 1) * (R + 1)) ∧ w = w' := by
  obtain ⟨s, k, e1, e2, e3⟩ := root_start n h0 h1
  have k1 := hcut e2 (by omega) (by omega)
  have HQ := Lib.hid (fun w1 => c_Sqrt e1 w1)
  obtain ⟨xn, hxn⟩ : ∃ z, fofI n = z := ⟨_, rfl⟩
  rw [hxn] at HQ
  have k2 : floatOfInt .f64 n = xn := hxn
  clear e1 e2 hxn
  have hgen := sgen; have hgen2 := sgen2; have hgen3 := sgen3; go_enter Tryd.func68, Tryd.ntmps68
  go_wp2_with (go_at_call 95; refine (HQ.out _).mono ?_; rintro e w' ⟨rfl, rfl⟩)
  go_loopg [4] k (fun gk s4 wr => ∃ r : Int, s4 = .int .i64 r ∧ gk = r.toNat ∧ 0 ≤ r ∧ r ≤ 8589934592 ∧ wr = w)
  case atStart => exact ⟨k, rfl, by omega, by omega, by omega, rfl⟩
  case round =>
    obtain ⟨r, rfl, hg, r0, r1, rfl⟩ := hrel
    have done : ∀ (x : Int), 0 ≤ x → x ≤ 8589934592 → x * x ≤ n → x ≤ 1000000000 := fun x _ _ h => root_le h h1
    obtain ⟨wo, rfl⟩ : ∃ wo : World, wo = wr := ⟨_, rfl⟩
    by_cases hr : r = 0
    · have d1 : decide (0 < r) = false := decide_eq_false (by omega)
      have hsq : r * r ≤ n := by rw [hr]; omega
      have HS := Lib.hid hsq
      clear hsq
      go_wp2
      go_loopg [4] (8589934593 - r).toNat (fun gk s4 wr => ∃ r : Int, s4 = .int .i64 r ∧ gk = (8589934593 - r).toNat ∧ 0 ≤ r ∧ r ≤ 1000000000 ∧ r * r ≤ n ∧ wr = wo)
      case atStart => exact ⟨r, rfl, rfl, r0, root_le HS.out h1, HS.out, rfl⟩
      case round =>
        clear HS
        obtain ⟨x, rfl, hg2, x0, x1, hsq, rfl⟩ := hrel
        have HS := Lib.hid hsq
        have hc := quo_le (n := n) (r := x + 1) (by omega)
        have ht : n.tdiv (x + 1) = n / (x + 1) := Int.tdiv_eq_ediv_of_nonneg h0
        have q0 : 0 ≤ n / (x + 1) := Int.ediv_nonneg h0 (by omega)
        have q1 : n / (x + 1) ≤ n := Int.ediv_le_self _ h0
        have b0 : (x + 1 == 0) = false := by simp; omega
        clear hsq
        by_cases hx : (x + 1) * (x + 1) ≤ n
        · have hx2 := hc.2 hx
          have HX := Lib.hid hx
          clear hc hx
          generalize n / (x + 1) = q at *
          go_wp2
          go_roundg (gk - 1)
          case measure => omega
          case rel => exact ⟨x + 1, rfl, by omega, by omega, root_le HX.out h1, HX.out, rfl⟩
        · have hx2 : ¬ x + 1 ≤ n / (x + 1) := fun h => hx (hc.1 h)
          have HX := Lib.hid hx
          clear hc hx
          generalize n / (x + 1) = q at *
          go_wp2
          refine bodyPost_ret (v := .tuple #[.int .i64 x, .int .i64 0]) (by simp only [results, Tryd.results68]; go_simp) rfl ⟨⟨x, rfl, x0, HS.out, ?_⟩, rfl⟩
          have := HX.out
          omega
    · have hc := quo_le (n := n) (r := r) (by omega)
      have ht : n.tdiv r = n / r := Int.tdiv_eq_ediv_of_nonneg h0
      have q0 : 0 ≤ n / r := Int.ediv_nonneg h0 (by omega)
      have q1 : n / r ≤ n := Int.ediv_le_self _ h0
      have b0 : (r == 0) = false := by simp; omega
      have d1 : decide (0 < r) = true := decide_eq_true (by omega)
      by_cases hx : r * r ≤ n
      · have hx2 := hc.2 hx
        have HS := Lib.hid hx
        clear hc hx
        generalize n / r = q at *
        go_wp2
        go_loopg [4] (8589934593 - r).toNat (fun gk s4 wr => ∃ r : Int, s4 = .int .i64 r ∧ gk = (8589934593 - r).toNat ∧ 0 ≤ r ∧ r ≤ 1000000000 ∧ r * r ≤ n ∧ wr = wo)
        case atStart => exact ⟨r, rfl, rfl, r0, root_le HS.out h1, HS.out, rfl⟩
        case round =>
          clear HS
          obtain ⟨x, rfl, hg2, x0, x1, hsq, rfl⟩ := hrel
          have HS := Lib.hid hsq
          have hc := quo_le (n := n) (r := x + 1) (by omega)
          have ht : n.tdiv (x + 1) = n / (x + 1) := Int.tdiv_eq_ediv_of_nonneg h0
          have q0 : 0 ≤ n / (x + 1) := Int.ediv_nonneg h0 (by omega)
          have q1 : n / (x + 1) ≤ n := Int.ediv_le_self _ h0
          have b0 : (x + 1 == 0) = false := by simp; omega
          clear hsq
          by_cases hx : (x + 1) * (x + 1) ≤ n
          · have hx2 := hc.2 hx
            have HX := Lib.hid hx
            clear hc hx
            generalize n / (x + 1) = q at *
            go_wp2
            go_roundg (gk - 1)
            case measure => omega
            case rel => exact ⟨x + 1, rfl, by omega, by omega, root_le HX.out h1, HX.out, rfl⟩
          · have hx2 : ¬ x + 1 ≤ n / (x + 1) := fun h => hx (hc.1 h)
            have HX := Lib.hid hx
            clear hc hx
            generalize n / (x + 1) = q at *
            go_wp2
            refine bodyPost_ret (v := .tuple #[.int .i64 x, .int .i64 0]) (by simp only [results, Tryd.results68]; go_simp) rfl ⟨⟨x, rfl, x0, HS.out, ?_⟩, rfl⟩
            have := HX.out
            omega
      · have hx2 : ¬ r ≤ n / r := fun h => hx (hc.1 h)
        clear hc hx
        generalize n / r = q at *
        go_wp2
        go_roundg (gk - 1)
        case measure => omega
        case rel => exact ⟨r - 1, rfl, by omega, by omega, by omega, rfl⟩
end Go.Proofs.YtffnmfcaoldlhaaDoor
