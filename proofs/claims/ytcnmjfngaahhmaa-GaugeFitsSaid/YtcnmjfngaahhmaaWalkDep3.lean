/- The contract of the reference's Dependent with three columns. -/
import Derived.Test.YtcnmjfngaahhmaaWalkDep2
set_option linter.unusedVariables false
set_option linter.unusedSimpArgs false
namespace Go.Proofs.Ytcnmjfngaahhmaa
open Go.RowKit
theorem mul2k {x y A B : Int} (hx : -A ≤ x ∧ x ≤ A) (hy : -B ≤ y ∧ y ≤ B) (a0 : 0 ≤ A) (b0 : 0 ≤ B) : -(A * B) ≤ x * y ∧ x * y ≤ A * B := by
  obtain ⟨x0, x1⟩ := hx
  obtain ⟨y0, y1⟩ := hy
  have a := Int.mul_nonneg (show 0 ≤ A - x by omega) (show 0 ≤ B - y by omega)
  have b := Int.mul_nonneg (show 0 ≤ A + x by omega) (show 0 ≤ B + y by omega)
  have c := Int.mul_nonneg (show 0 ≤ A - x by omega) (show 0 ≤ B + y by omega)
  have d := Int.mul_nonneg (show 0 ≤ A + x by omega) (show 0 ≤ B - y by omega)
  constructor <;> grind
theorem dep3_num {a0 a1 a2 b0 b1 b2 c0 c1 c2 : Int} (x0 : -10 ≤ a0 ∧ a0 ≤ 10) (x1 : -10 ≤ a1 ∧ a1 ≤ 10) (x2 : -10 ≤ a2 ∧ a2 ≤ 10) (y0 : -10 ≤ b0 ∧ b0 ≤ 10) (y1 : -10 ≤ b1 ∧ b1 ≤ 10) (y2 : -10 ≤ b2 ∧ b2 ≤ 10) (z0 : -10 ≤ c0 ∧ c0 ≤ 10) (z1 : -10 ≤ c1 ∧ c1 ≤ 10) (z2 : -10 ≤ c2 ∧ c2 ≤ 10)
    (hm : a0 * (b1 * c2 - b2 * c1) - a1 * (b0 * c2 - b2 * c0) + a2 * (b0 * c1 - b1 * c0) = 0) :
    IntKind.i64.wrap (b1 * c2) = b1 * c2 ∧ IntKind.i64.wrap (b2 * c1) = b2 * c1 ∧ IntKind.i64.wrap (b0 * c2) = b0 * c2 ∧ IntKind.i64.wrap (b2 * c0) = b2 * c0 ∧ IntKind.i64.wrap (b0 * c1) = b0 * c1 ∧ IntKind.i64.wrap (b1 * c0) = b1 * c0
    ∧ IntKind.i64.wrap (b1 * c2 - b2 * c1) = b1 * c2 - b2 * c1 ∧ IntKind.i64.wrap (b0 * c2 - b2 * c0) = b0 * c2 - b2 * c0 ∧ IntKind.i64.wrap (b0 * c1 - b1 * c0) = b0 * c1 - b1 * c0
    ∧ IntKind.i64.wrap (a0 * (b1 * c2 - b2 * c1)) = a0 * (b1 * c2 - b2 * c1) ∧ IntKind.i64.wrap (a1 * (b0 * c2 - b2 * c0)) = a1 * (b0 * c2 - b2 * c0) ∧ IntKind.i64.wrap (a2 * (b0 * c1 - b1 * c0)) = a2 * (b0 * c1 - b1 * c0)
    ∧ IntKind.i64.wrap (a0 * (b1 * c2 - b2 * c1) - a1 * (b0 * c2 - b2 * c0)) = a0 * (b1 * c2 - b2 * c1) - a1 * (b0 * c2 - b2 * c0) ∧ IntKind.i64.wrap (a0 * (b1 * c2 - b2 * c1) - a1 * (b0 * c2 - b2 * c0) + a2 * (b0 * c1 - b1 * c0)) = 0 := by
  have p1 := mul10 y1 z2
  have p2 := mul10 y2 z1
  have p3 := mul10 y0 z2
  have p4 := mul10 y2 z0
  have p5 := mul10 y0 z1
  have p6 := mul10 y1 z0
  have q1 := mul2k (A := 10) (B := 200) x0 (show -200 ≤ b1 * c2 - b2 * c1 ∧ b1 * c2 - b2 * c1 ≤ 200 by omega) (by omega) (by omega)
  have q2 := mul2k (A := 10) (B := 200) x1 (show -200 ≤ b0 * c2 - b2 * c0 ∧ b0 * c2 - b2 * c0 ≤ 200 by omega) (by omega) (by omega)
  have q3 := mul2k (A := 10) (B := 200) x2 (show -200 ≤ b0 * c1 - b1 * c0 ∧ b0 * c1 - b1 * c0 ≤ 200 by omega) (by omega) (by omega)
  refine ⟨IntWalk.i64_in _ (by omega), IntWalk.i64_in _ (by omega), IntWalk.i64_in _ (by omega), IntWalk.i64_in _ (by omega), IntWalk.i64_in _ (by omega), IntWalk.i64_in _ (by omega), IntWalk.i64_in _ (by omega), IntWalk.i64_in _ (by omega), IntWalk.i64_in _ (by omega), IntWalk.i64_in _ (by omega), IntWalk.i64_in _ (by omega), IntWalk.i64_in _ (by omega), IntWalk.i64_in _ (by omega), ?_⟩
  rw [hm]
  exact IntWalk.i64_in _ (by omega)
set_option maxRecDepth 100000 in
set_option maxHeartbeats 8000000 in
theorem c_dep3 (a : Option Addr) (n cap : Nat) (R : Nat → Nat → Int) (w : World) (n0 : 0 < n) (n8 : n ≤ 8) (hR : ∀ i, i < n → RowK w a n cap 3 R i) (hB : ∀ i j, i < n → j < 3 → -10 ≤ R i j ∧ R i j ≤ 10) (hz : ∀ i q p, i < n → q < n → p < n → mn3 R i q p = 0) : Calls Try.prog 12 #[.slice a n cap] w fun e w' => e = .returned (.bool true) ∧ ∃ kk, w' = w.drewN kk := by
  obtain ⟨b, off, a0, cap0, c0, ix0, -⟩ := (hR 0 n0).ex
  have HR := Lib.hid hR
  have HZ := Lib.hid hz
  have HB := Lib.hid hB
  simp only [Int.natCast_zero, Nat.add_zero] at c0 ix0
  have hn : (n : Int) ≤ 8 := by omega
  clear hR hz hB
  have hgen := sgen; have hgen2 := sgen2; have hgen3 := sgen3; go_enter Try.func12, Try.ntmps12
  go_wp2_with fail
  go_loopg [16] n (fun gk i wr => ∃ j : Nat, gk + j = n ∧ i = .int .i64 (j : Int) ∧ ∃ k, wr = w.drewN k)
  case atStart => exact ⟨0, by omega, rfl, 0, rfl⟩
  case round =>
    obtain ⟨j, hj, rfl, kd, rfl⟩ := hrel
    by_cases hlt : j < n
    · obtain ⟨b1, off1, a1, cap1, c1, ix1, e1⟩ := (HR.out j hlt).ex
      obtain ⟨b2, off2, c2, ix2⟩ := e1 0 (by omega)
      obtain ⟨b5, off5, c5, ix5⟩ := e1 1 (by omega)
      obtain ⟨b8, off8, c8, ix8⟩ := e1 2 (by omega)
      have n2c : ((2 : Nat) : Int) = 2 := rfl
      simp only [Int.natCast_zero, Int.natCast_one, Nat.add_zero, n2c] at c2 ix2 c5 ix5 c8 ix8
      have x2 := HB.out j 2 hlt (by omega)
      have x0 := HB.out j 0 hlt (by omega)
      have x1 := HB.out j 1 hlt (by omega)
      clear e1
      go_wp2_with fail
      go_loopg [30] n (fun gk i wr => ∃ q : Nat, gk + q = n ∧ i = .int .i64 (q : Int) ∧ ∃ k, wr = w.drewN k)
      case atStart => exact ⟨0, by omega, rfl, kd, rfl⟩
      case round =>
        obtain ⟨q, hq, rfl, ke, rfl⟩ := hrel
        by_cases hlq : q < n
        · obtain ⟨b3, off3, a3, cap3, c3, ix3, e3⟩ := (HR.out q hlq).ex
          obtain ⟨b6, off6, c6, ix6⟩ := e3 0 (by omega)
          obtain ⟨b7, off7, c7, ix7⟩ := e3 1 (by omega)
          obtain ⟨b9, off9, c9, ix9⟩ := e3 2 (by omega)
          simp only [Int.natCast_zero, Int.natCast_one, Nat.add_zero, n2c] at c6 ix6 c7 ix7 c9 ix9
          have y0 := HB.out q 0 hlq (by omega)
          have y1 := HB.out q 1 hlq (by omega)
          have y2 := HB.out q 2 hlq (by omega)
          clear e3
          go_wp2_with fail
          go_quiet (fail)
          go_wp2_with fail
          go_loopg [55] n (fun gk i wr => ∃ p : Nat, gk + p = n ∧ i = .int .i64 (p : Int) ∧ ∃ k, wr = w.drewN k)
          case atStart => exact ⟨0, by omega, rfl, _, rfl⟩
          case round =>
            obtain ⟨p, hp, rfl, kf, rfl⟩ := hrel
            by_cases hlp : p < n
            · obtain ⟨b4, off4, a4, cap4, c4, ix4, e4⟩ := (HR.out p hlp).ex
              obtain ⟨b10, off10, c10, ix10⟩ := e4 0 (by omega)
              obtain ⟨b11, off11, c11, ix11⟩ := e4 1 (by omega)
              obtain ⟨b12, off12, c12, ix12⟩ := e4 2 (by omega)
              simp only [Int.natCast_zero, Int.natCast_one, Nat.add_zero, n2c] at c10 ix10 c11 ix11 c12 ix12
              have z0 := HB.out p 0 hlp (by omega)
              have z1 := HB.out p 1 hlp (by omega)
              have z2 := HB.out p 2 hlp (by omega)
              have hm := HZ.out j q p hlt hlq hlp
              unfold mn3 at hm
              clear e4
              generalize R j 0 = a0' at *
              generalize R j 1 = a1' at *
              generalize R j 2 = a2' at *
              generalize R q 0 = b0' at *
              generalize R q 1 = b1' at *
              generalize R q 2 = b2' at *
              generalize R p 0 = c0' at *
              generalize R p 1 = c1' at *
              generalize R p 2 = c2' at *
              obtain ⟨m1, m2, m3, m4, m5, m6, k1, k2, k3, t1, t2, t3, u1, u2⟩ := dep3_num x0 x1 x2 y0 y1 y2 z0 z1 z2 hm
              have w4 : ((3 : Int) == 3) = true := rfl
              have w5 : ((0 : Int) != 0) = false := rfl
              clear hm
              go_wp2_with fail
              go_quiet (fail)
              go_wp2_with fail
              go_roundg (n - (p + 1))
              case measure => omega
              case rel => exact ⟨p + 1, by omega, rfl, _, rfl⟩
            · go_wp2_with fail
              go_roundg (n - (q + 1))
              case measure => omega
              case rel => exact ⟨q + 1, by omega, rfl, _, rfl⟩
        · go_wp2_with fail
          go_roundg (n - (j + 1))
          case measure => omega
          case rel => exact ⟨j + 1, by omega, rfl, _, rfl⟩
    · go_wp2
      go_ret
      exact ⟨rfl, _, rfl⟩
end Go.Proofs.Ytcnmjfngaahhmaa
