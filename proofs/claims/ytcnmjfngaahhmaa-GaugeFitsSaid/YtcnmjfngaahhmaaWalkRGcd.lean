/- The contract of the reference's Gcd. -/
import Derived.Test.YtcnmjfngaahhmaaWalkGcd
import Derived.Deep.DeepCutAuto
set_option linter.unusedVariables false
set_option linter.unusedSimpArgs false
namespace Go.Proofs.Ytcnmjfngaahhmaa
open Go.RowKit
def rgcd (a b : Int) : Int := if Nat.gcd a.natAbs b.natAbs = 0 then 1 else (Nat.gcd a.natAbs b.natAbs : Nat)
set_option maxHeartbeats 1000000 in
theorem c_rGcd (a b : Int) (w : World) (a0 : -4000000000000000000 ≤ a) (a1 : a ≤ 4000000000000000000) (b0 : -4000000000000000000 ≤ b) (b1 : b ≤ 4000000000000000000) : Calls Try.prog 13 #[.int .i64 a, .int .i64 b] w fun e w' => e = .returned (.int .i64 (rgcd a b)) ∧ Below w.heap.size w w' := by
  have m1 : max a (-a) = (a.natAbs : Int) := by omega
  have m2 : max b (-b) = (b.natAbs : Int) := by omega
  have n1 : IntKind.i64.wrap (-a) = -a := IntWalk.i64_in _ (by omega)
  have n2 : IntKind.i64.wrap (-b) = -b := IntWalk.i64_in _ (by omega)
  have s1 : (-a < a ∧ a = (a.natAbs : Int) ∧ ¬ a < -a ∧ -a ≤ a) ∨ (a < -a ∧ -a = (a.natAbs : Int) ∧ ¬ -a < a ∧ a ≤ -a) ∨ (a = 0 ∧ a = (a.natAbs : Int) ∧ a = 0 ∧ a = 0) := by omega
  have s2 : (-b < b ∧ b = (b.natAbs : Int) ∧ ¬ b < -b ∧ -b ≤ b) ∨ (b < -b ∧ -b = (b.natAbs : Int) ∧ ¬ -b < b ∧ b ≤ -b) ∨ (b = 0 ∧ b = (b.natAbs : Int) ∧ b = 0 ∧ b = 0) := by omega
  have HR : Hid (rgcd a b = if Nat.gcd a.natAbs b.natAbs = 0 then 1 else ((Nat.gcd a.natAbs b.natAbs : Nat) : Int)) := Lib.hid rfl
  have xb : a.natAbs ≤ 4000000000000000000 := by omega
  have yb : b.natAbs ≤ 4000000000000000000 := by omega
  generalize a.natAbs = x0 at *
  generalize b.natAbs = y0 at *
  have hgen := sgen; have hgen2 := sgen2; have hgen3 := sgen3; go_enter Try.func13, Try.ntmps13
  rcases s1 with ⟨c1, c2, c5, c6⟩ | ⟨c1, c2, c5, c6⟩ | ⟨c1, c2, c5, c6⟩ <;> rcases s2 with ⟨c3, c4, c7, c8⟩ | ⟨c3, c4, c7, c8⟩ | ⟨c3, c4, c7, c8⟩
  all_goals
    go_wp2
    go_loopg [0, 1] (x0 + y0) (fun gk p q wr => ∃ x y : Nat, gk = x + y ∧ x ≤ 4000000000000000000 ∧ y ≤ 4000000000000000000 ∧ p = .int .i64 (x : Int) ∧ q = .int .i64 (y : Int) ∧ Nat.gcd x y = Nat.gcd x0 y0 ∧ Below w.heap.size w wr)
    case atStart => exact ⟨x0, y0, rfl, xb, yb, by rw [← c2]; (try rw [c5]), by rw [← c4]; (try rw [c7]), rfl, Below.refl _ _⟩
    case round =>
      obtain ⟨x, y, hgk, hx, hy, rfl, rfl, hg, hbel⟩ := hrel
      have HG := Lib.hid hg
      clear hg c1 c2 c3 c4 c5 c6 c7 c8 m1 m2 n1 n2 a0 a1 b0 b1
      by_cases hz : x = 0 ∨ y = 0
      · have ha : IntKind.i64.wrap ((x : Int) + (y : Int)) = (x : Int) + (y : Int) := IntWalk.i64_in _ (by omega)
        have hxy : Nat.gcd x0 y0 = x + y := by
          rw [← HG.out]
          rcases hz with h | h
          · subst h; rw [Nat.gcd_zero_left, Nat.zero_add]
          · subst h; rw [Nat.gcd_zero_right, Nat.add_zero]
        have HR2 := Lib.hid (HR.out.trans (by rw [hxy]))
        clear HG HR hxy
        have d1 : ((x : Int) != 0) = true ∧ ((y : Int) != 0) = false ∨ ((x : Int) != 0) = false := by
          by_cases h : x = 0
          · exact .inr (by simp [h])
          · exact .inl ⟨by simp; exact h, by simp; omega⟩
        by_cases ht : x + y = 0
        · have d2 : ((x : Int) + (y : Int) == 0) = true := by simp; omega
          have HV := Lib.hid (HR2.out.trans (if_pos ht))
          rcases d1 with ⟨d1, d3⟩ | d1
          all_goals
            go_wp2
            go_ret
            exact ⟨by rw [HV.out]; rfl, hbel⟩
        · have d2 : ((x : Int) + (y : Int) == 0) = false := by simp; omega
          have HV := Lib.hid (HR2.out.trans (if_neg ht))
          rcases d1 with ⟨d1, d3⟩ | d1
          all_goals
            go_wp2
            go_ret
            exact ⟨by rw [HV.out, Int.natCast_add]; rfl, hbel⟩
      · have d1 : ((x : Int) != 0) = true := by simp; omega
        have d3 : ((y : Int) != 0) = true := by simp; omega
        by_cases hlt : x < y
        · have d4 : decide ((x : Int) < (y : Int)) = true := decide_eq_true (by omega)
          have d5 : ((x : Int) == 0) = false := by simp; omega
          have e1 : (y : Int).tmod (x : Int) = ((y % x : Nat) : Int) := by rw [Int.tmod_eq_emod_of_nonneg (by omega)]; rfl
          have e3 : (y : Int) % (x : Int) = ((y % x : Nat) : Int) := rfl
          have hm := Nat.mod_lt y (show 0 < x by omega)
          have HX := Lib.hid (show Nat.gcd (y % x) x = Nat.gcd x0 y0 by rw [← HG.out, ← Nat.gcd_rec])
          clear HG
          generalize y % x = r at *
          have e2 : IntKind.i64.wrap (r : Int) = (r : Int) := IntWalk.i64_in _ (by omega)
          go_wp2
          go_roundg (r + x)
          case measure => omega
          case rel => exact ⟨r, x, rfl, by omega, by omega, by first | rfl | rw [e3], rfl, HX.out, by exact belz⟩
        · have d4 : decide ((x : Int) < (y : Int)) = false := decide_eq_false (by omega)
          have d5 : ((y : Int) == 0) = false := by simp; omega
          have e1 : (x : Int).tmod (y : Int) = ((x % y : Nat) : Int) := by rw [Int.tmod_eq_emod_of_nonneg (by omega)]; rfl
          have e3 : (x : Int) % (y : Int) = ((x % y : Nat) : Int) := rfl
          have hm := Nat.mod_lt x (show 0 < y by omega)
          have HX := Lib.hid (show Nat.gcd (x % y) y = Nat.gcd x0 y0 by rw [← HG.out, Nat.gcd_comm x y, Nat.gcd_rec y x])
          clear HG
          generalize x % y = r at *
          have e2 : IntKind.i64.wrap (r : Int) = (r : Int) := IntWalk.i64_in _ (by omega)
          go_wp2
          go_roundg (r + y)
          case measure => omega
          case rel => exact ⟨r, y, rfl, by omega, by omega, by first | rfl | rw [e3], rfl, HX.out, by exact belz⟩
end Go.Proofs.Ytcnmjfngaahhmaa
