/- The contract of the reference's Dependent with two columns. -/
import Derived.Test.YtcnmjfngaahhmaaWalkDep
set_option linter.unusedVariables false
set_option linter.unusedSimpArgs false
namespace Go.Proofs.Ytcnmjfngaahhmaa
open Go.RowKit
theorem mul10 {x y : Int} (hx : -10 ≤ x ∧ x ≤ 10) (hy : -10 ≤ y ∧ y ≤ 10) : -100 ≤ x * y ∧ x * y ≤ 100 := by
  obtain ⟨x0, x1⟩ := hx
  obtain ⟨y0, y1⟩ := hy
  have a := Int.mul_nonneg (show 0 ≤ 10 - x by omega) (show 0 ≤ 10 - y by omega)
  have b := Int.mul_nonneg (show 0 ≤ 10 + x by omega) (show 0 ≤ 10 + y by omega)
  have c := Int.mul_nonneg (show 0 ≤ 10 - x by omega) (show 0 ≤ 10 + y by omega)
  have d := Int.mul_nonneg (show 0 ≤ 10 + x by omega) (show 0 ≤ 10 - y by omega)
  constructor <;> grind
set_option maxRecDepth 100000 in
set_option maxHeartbeats 2000000 in
theorem c_dep2 (a : Option Addr) (n cap : Nat) (R : Nat → Nat → Int) (w : World) (n0 : 0 < n) (n8 : n ≤ 8) (hR : ∀ i, i < n → RowK w a n cap 2 R i) (hB : ∀ i j, i < n → j < 2 → -10 ≤ R i j ∧ R i j ≤ 10) (hz : ∀ i q, i < n → q < n → mn2 R i q = 0) : Calls Try.prog 12 #[.slice a n cap] w fun e w' => e = .returned (.bool true) ∧ ∃ kk, w' = w.drewN kk := by
  obtain ⟨b, off, a0, cap0, c0, ix0, -⟩ := (hR 0 n0).ex
  have HR := Lib.hid hR
  have HZ := Lib.hid hz
  have HB := Lib.hid hB
  simp only [Int.natCast_zero, Nat.add_zero] at c0 ix0
  have hn : (n : Int) ≤ 8 := by omega
  clear hR hz hB
  have hgen := sgen; have hgen2 := sgen2; have hgen3 := sgen3; go_enter Try.func12, Try.ntmps12
  go_wp2_with fail
  go_loopg [16] n (fun gk i wr => ∃ j : Nat, gk + j = n ∧ i = .int .i64 (j : Int) ∧ ∃ k, wr = w.drewN k)
  case atStart => exact ⟨0, by omega, rfl, 0, rfl⟩
  case round =>
    obtain ⟨j, hj, rfl, kd, rfl⟩ := hrel
    by_cases hlt : j < n
    · obtain ⟨b1, off1, a1, cap1, c1, ix1, e1⟩ := (HR.out j hlt).ex
      obtain ⟨b2, off2, c2, ix2⟩ := e1 0 (by omega)
      obtain ⟨b5, off5, c5, ix5⟩ := e1 1 (by omega)
      simp only [Int.natCast_zero, Int.natCast_one, Nat.add_zero] at c2 ix2 c5 ix5
      have x0 := HB.out j 0 hlt (by omega)
      have x1 := HB.out j 1 hlt (by omega)
      clear e1
      go_wp2_with fail
      go_loopg [30] n (fun gk i wr => ∃ q : Nat, gk + q = n ∧ i = .int .i64 (q : Int) ∧ ∃ k, wr = w.drewN k)
      case atStart => exact ⟨0, by omega, rfl, kd, rfl⟩
      case round =>
        obtain ⟨q, hq, rfl, ke, rfl⟩ := hrel
        by_cases hlq : q < n
        · obtain ⟨b3, off3, a3, cap3, c3, ix3, e3⟩ := (HR.out q hlq).ex
          obtain ⟨b6, off6, c6, ix6⟩ := e3 0 (by omega)
          obtain ⟨b7, off7, c7, ix7⟩ := e3 1 (by omega)
          simp only [Int.natCast_zero, Int.natCast_one, Nat.add_zero] at c6 ix6 c7 ix7
          have y0 := HB.out q 0 hlq (by omega)
          have y1 := HB.out q 1 hlq (by omega)
          have hm := HZ.out j q hlt hlq
          unfold mn2 at hm
          have p1 := mul10 x0 y1
          have p2 := mul10 x1 y0
          obtain ⟨P, hP⟩ : ∃ P, P = R j 0 * R q 1 := ⟨_, rfl⟩
          have w1 : IntKind.i64.wrap (R j 0 * R q 1) = P := (IntWalk.i64_in _ (by omega)).trans hP.symm
          have w2 : IntKind.i64.wrap (R j 1 * R q 0) = P := (IntWalk.i64_in _ (by omega)).trans (by omega)
          have w3 : (P != P) = false := by simp
          have w4 : ((2 : Int) == 2) = true := rfl
          clear e3 hm p1 p2 hP y0 y1
          go_wp2_with fail
          go_quiet (fail)
          clear w1 w2 w3 w4
          go_wp2_with fail
          go_loopg [55] n (fun gk i wr => ∃ p : Nat, gk + p = n ∧ i = .int .i64 (p : Int) ∧ ∃ k, wr = w.drewN k)
          case atStart => exact ⟨0, by omega, rfl, _, rfl⟩
          case round =>
            obtain ⟨p, hp, rfl, kf, rfl⟩ := hrel
            by_cases hlp : p < n
            · obtain ⟨b4, off4, a4, cap4, c4, ix4, -⟩ := (HR.out p hlp).ex
              go_wp2_with fail
              go_quiet (fail)
              go_wp2_with fail
              go_roundg (n - (p + 1))
              case measure => omega
              case rel => exact ⟨p + 1, by omega, rfl, _, rfl⟩
            · go_wp2_with fail
              go_roundg (n - (q + 1))
              case measure => omega
              case rel => exact ⟨q + 1, by omega, rfl, _, rfl⟩
        · go_wp2_with fail
          go_roundg (n - (j + 1))
          case measure => omega
          case rel => exact ⟨j + 1, by omega, rfl, _, rfl⟩
    · go_wp2
      go_ret
      exact ⟨rfl, _, rfl⟩
end Go.Proofs.Ytcnmjfngaahhmaa
