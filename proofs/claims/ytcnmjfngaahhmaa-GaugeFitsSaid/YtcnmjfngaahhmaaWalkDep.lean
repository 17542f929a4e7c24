/- The contract of the reference's Dependent where all determinants are 0. -/
import Derived.Test.YtcnmjfngaahhmaaWalkMat2
import Derived.Test.YtcnmjfngaahhmaaWalk1
import Derived.Test.YtcnmjfngaahhmaaPlainGau
import Derived.Deep.LoopGhost
import Derived.Deep.QuietTactic
import Derived.BigQuiet
import Derived.BigGuard
import Derived.IntWalk
set_option linter.unusedVariables false
set_option linter.unusedSimpArgs false
namespace Go.Proofs.Ytcnmjfngaahhmaa
open Go.RowKit
/-- The numbers of the rows. -/
def rwF (L : List (List Int)) (i j : Nat) : Int := (L.getD i []).getD j 0
/-- A row as the walk meets it. -/
structure RowK (w : World) (a : Option Addr) (n cap k : Nat) (R : Nat → Nat → Int) (i : Nat) : Prop where
  ex : ∃ b off a' cap', w.cell? ⟨b, off + i, none⟩ = some (.slice a' k cap') ∧ (∀ w' : World, (Instr.indexAt 22 (.slice a n cap) (.int .i64 i)).run Try.prog w' = .ok (.pointer (some ⟨b, off + i, none⟩)) w') ∧ ∀ j, j < k → ∃ b5 off5, w.cell? ⟨b5, off5 + j, none⟩ = some (.int .i64 (R i j)) ∧ ∀ w' : World, (Instr.indexAt 23 (.slice a' k cap') (.int .i64 j)).run Try.prog w' = .ok (.pointer (some ⟨b5, off5 + j, none⟩)) w'
theorem row_k {w : World} {a : Option Addr} {L : List (List Int)} {cap k : Nat} (hM : MatSlice w a L) (hk : ∀ r ∈ L, r.length = k) {i : Nat} (hi : i < L.length) : RowK w a L.length cap k (rwF L) i := by
  obtain ⟨b, off, v, ha, hb, c0, ⟨a', cap', e, hc, hr⟩⟩ := hM i hi
  have hl := hk L[i] (List.getElem_mem hi)
  subst e
  rw [hl] at c0
  refine ⟨b, off, a', cap', c0, @ix_Row a b off L.length cap i ha hi, fun j hj => ?_⟩
  obtain ⟨b5, off5, ha5, hb5, c5⟩ := hr j (by omega)
  refine ⟨b5, off5, ?_, @ix_Int a' b5 off5 k cap' j ha5 hj⟩
  have e : rwF L i j = (L[i])[j]'(by omega) := by
    unfold rwF
    simp only [List.getD_eq_getElem?_getD, List.getElem?_eq_getElem hi, Option.getD_some]
    rw [List.getElem?_eq_getElem (by omega), Option.getD_some]
  rw [e]
  exact c5
set_option maxRecDepth 100000 in
set_option maxHeartbeats 2000000 in
theorem c_dep1 (a : Option Addr) (n cap : Nat) (R : Nat → Nat → Int) (w : World) (n0 : 0 < n) (n8 : n ≤ 8) (hR : ∀ i, i < n → RowK w a n cap 1 R i) (hz : ∀ i, i < n → R i 0 = 0) : Calls Try.prog 12 #[.slice a n cap] w fun e w' => e = .returned (.bool true) ∧ ∃ kk, w' = w.drewN kk := by
  obtain ⟨b, off, a0, cap0, c0, ix0, -⟩ := (hR 0 n0).ex
  have HR := Lib.hid hR
  have HZ := Lib.hid hz
  simp only [Int.natCast_zero, Nat.add_zero] at c0 ix0
  have hn : (n : Int) ≤ 8 := by omega
  clear hR hz
  have hgen := sgen; have hgen2 := sgen2; have hgen3 := sgen3; go_enter Try.func12, Try.ntmps12
  go_wp2_with fail
  go_loopg [16] n (fun gk i wr => ∃ j : Nat, gk + j = n ∧ i = .int .i64 (j : Int) ∧ ∃ k, wr = w.drewN k)
  case atStart => exact ⟨0, by omega, rfl, 0, rfl⟩
  case round =>
    obtain ⟨j, hj, rfl, kd, rfl⟩ := hrel
    by_cases hlt : j < n
    · obtain ⟨b1, off1, a1, cap1, c1, ix1, e1⟩ := (HR.out j hlt).ex
      obtain ⟨b2, off2, c2, ix2⟩ := e1 0 (by omega)
      simp only [Int.natCast_zero, Nat.add_zero] at c2 ix2
      rw [HZ.out j hlt] at c2
      clear e1
      go_wp2_with fail
      go_loopg [30] n (fun gk i wr => ∃ q : Nat, gk + q = n ∧ i = .int .i64 (q : Int) ∧ ∃ k, wr = w.drewN k)
      case atStart => exact ⟨0, by omega, rfl, kd, rfl⟩
      case round =>
        obtain ⟨q, hq, rfl, ke, rfl⟩ := hrel
        by_cases hlq : q < n
        · obtain ⟨b3, off3, a3, cap3, c3, ix3, -⟩ := (HR.out q hlq).ex
          go_wp2_with fail
          go_quiet (fail)
          go_wp2_with fail
          go_loopg [55] n (fun gk i wr => ∃ p : Nat, gk + p = n ∧ i = .int .i64 (p : Int) ∧ ∃ k, wr = w.drewN k)
          case atStart => exact ⟨0, by omega, rfl, _, rfl⟩
          case round =>
            obtain ⟨p, hp, rfl, kf, rfl⟩ := hrel
            by_cases hlp : p < n
            · obtain ⟨b4, off4, a4, cap4, c4, ix4, -⟩ := (HR.out p hlp).ex
              go_wp2_with fail
              go_quiet (fail)
              go_wp2_with fail
              go_roundg (n - (p + 1))
              case measure => omega
              case rel => exact ⟨p + 1, by omega, rfl, _, rfl⟩
            · go_wp2_with fail
              go_roundg (n - (q + 1))
              case measure => omega
              case rel => exact ⟨q + 1, by omega, rfl, _, rfl⟩
        · go_wp2_with fail
          go_roundg (n - (j + 1))
          case measure => omega
          case rel => exact ⟨j + 1, by omega, rfl, _, rfl⟩
    · go_wp2
      go_ret
      exact ⟨rfl, _, rfl⟩
end Go.Proofs.Ytcnmjfngaahhmaa
