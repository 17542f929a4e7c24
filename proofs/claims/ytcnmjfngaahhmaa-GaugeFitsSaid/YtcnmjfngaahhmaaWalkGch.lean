/- The contracts of gauge.Check and gaugeErr. -/
import Derived.Test.YtcnmjfngaahhmaaWalkMat2
import Derived.Test.YtcnmjfngaahhmaaWalk1
import Derived.Test.YtcnmjfngaahhmaaPlainFe
import Derived.Deep.LoopGhost
import Derived.IntWalk
set_option linter.unusedVariables false
set_option linter.unusedSimpArgs false
namespace Go.Proofs.Ytcnmjfngaahhmaa
open Go.RowKit
def rowOne (n : Int) : Int := if n < -10 ∨ 10 < n then 3 else 0
def rowE (k : Nat) (r : List Int) (h : Int) : Int := if r.length ≠ k then 8 else if fe rowOne r ≠ 0 then fe rowOne r else if h < -1000 ∨ 1000 < h then 3 else 0
def gIx (L : List (List Int)) (hs : List Int) (i : Nat) : Int := rowE (L.getD 0 []).length (L.getD i []) (hs.getD i 0)
def gForm (L : List (List Int)) (hs : List Int) : Prop := L.length = 0 ∨ hs.length ≠ L.length ∨ (L.getD 0 []).length < 1 ∨ 3 < (L.getD 0 []).length
instance (L : List (List Int)) (hs : List Int) : Decidable (gForm L hs) := by unfold gForm; infer_instance
/-- The error of readings. -/
def gErr (L : List (List Int)) (hs : List Int) : Int := if 8 < L.length then 2 else if gForm L hs then 8 else fe (gIx L hs) (List.range L.length)
theorem c_inRange (n m : Int) (w : World) (m0 : 0 ≤ m) (m1 : m ≤ 1000000) : Calls Try.prog 27 #[.int .i64 n, .int .i64 m] w fun e w' => e = .returned (.bool (decide (-m ≤ n ∧ n ≤ m))) ∧ w = w' := by
  have e1 : IntKind.i64.wrap (-m) = -m := IntWalk.i64_in _ (by omega)
  by_cases h1 : -m ≤ n
  · have d1 : decide (-m ≤ n) = true := decide_eq_true h1
    by_cases h2 : n ≤ m
    · have d2 : decide (n ≤ m) = true := decide_eq_true h2
      rw [decide_eq_true (show -m ≤ n ∧ n ≤ m from ⟨h1, h2⟩)]
      have hgen := sgen; have hgen2 := sgen2; have hgen3 := sgen3; go_enter Try.func27, Try.ntmps27
      go_wp2
      go_ret
      exact ⟨rfl, rfl⟩
    · have d2 : decide (n ≤ m) = false := decide_eq_false h2
      rw [decide_eq_false (show ¬ (-m ≤ n ∧ n ≤ m) from fun h => h2 h.2)]
      have hgen := sgen; have hgen2 := sgen2; have hgen3 := sgen3; go_enter Try.func27, Try.ntmps27
      go_wp2
      go_ret
      exact ⟨rfl, rfl⟩
  · have d1 : decide (-m ≤ n) = false := decide_eq_false h1
    rw [decide_eq_false (show ¬ (-m ≤ n ∧ n ≤ m) from fun h => h1 h.1)]
    have hgen := sgen; have hgen2 := sgen2; have hgen3 := sgen3; go_enter Try.func27, Try.ntmps27
    go_wp2
    go_ret
    exact ⟨rfl, rfl⟩
theorem c_gCheck_large (a ah : Option Addr) (len cap lenh caph : Nat) (w : World) (h : 8 < len) : Calls Try.prog 11 #[.slice a len cap, .slice ah lenh caph] w fun e w' => e = .returned (.int .i64 2) ∧ w = w' := by
  have h1 : decide ((8 : Int) < (len : Int)) = true := decide_eq_true (by omega)
  have hgen := sgen; have hgen2 := sgen2; have hgen3 := sgen3; go_enter Try.func11, Try.ntmps11
  go_wp2
  go_ret
  exact ⟨rfl, rfl⟩
theorem c_gCheck_form (a ah : Option Addr) (L : List (List Int)) (hs : List Int) (cap caph : Nat) (w : World) (h8 : L.length ≤ 8) (hM : MatSlice w a L) (h : gForm L hs) : Calls Try.prog 11 #[.slice a L.length cap, .slice ah hs.length caph] w fun e w' => e = .returned (.int .i64 8) ∧ w = w' := by
  obtain ⟨n, hn⟩ : ∃ n, n = L.length := ⟨_, rfl⟩
  obtain ⟨m, hm⟩ : ∃ m, m = hs.length := ⟨_, rfl⟩
  unfold gForm at h
  rw [← hn, ← hm] at h
  rw [← hn] at h8
  rw [← hn, ← hm]
  have h1 : decide ((8 : Int) < (n : Int)) = false := decide_eq_false (by omega)
  by_cases hz : n = 0
  · have d1 : ((n : Int) == 0) = true := by rw [beq_iff_eq]; omega
    clear h hM hn hm
    have hgen := sgen; have hgen2 := sgen2; have hgen3 := sgen3; go_enter Try.func11, Try.ntmps11
    go_wp2
    go_ret
    exact ⟨rfl, rfl⟩
  · have d1 : ((n : Int) == 0) = false := by rw [beq_eq_false_iff_ne]; omega
    by_cases hl : m = n
    · have d2 : ((m : Int) != (n : Int)) = false := by rw [bne_eq_false_iff_eq]; omega
      obtain ⟨b, off, v, ha, hb, c0, ⟨a0, cap0, e0, hc0, hi0⟩⟩ := hM 0 (by omega)
      have eg : L.getD 0 [] = L[0]'(by omega) := by rw [List.getD_eq_getElem?_getD, List.getElem?_eq_getElem (by omega)]; rfl
      rw [eg] at h
      have ix1 := @ix_Row a b off n cap 0 ha (by omega)
      simp only [Int.natCast_zero, Nat.add_zero] at ix1 c0
      subst e0
      generalize (L[0]'(by omega)).length = k at *
      clear ha hi0 hM eg hn hm
      by_cases h3 : k < 1
      · have d3 : decide ((k : Int) < 1) = true := decide_eq_true (by omega)
        have hgen := sgen; have hgen2 := sgen2; have hgen3 := sgen3; go_enter Try.func11, Try.ntmps11
        go_wp2
        go_ret
        exact ⟨rfl, rfl⟩
      · have d3 : decide ((k : Int) < 1) = false := decide_eq_false (by omega)
        have d4 : decide ((3 : Int) < (k : Int)) = true := decide_eq_true (by omega)
        have hgen := sgen; have hgen2 := sgen2; have hgen3 := sgen3; go_enter Try.func11, Try.ntmps11
        go_wp2
        go_ret
        exact ⟨rfl, rfl⟩
    · have d2 : ((m : Int) != (n : Int)) = true := by rw [bne_iff_ne]; omega
      clear h hM hn hm
      have hgen := sgen; have hgen2 := sgen2; have hgen3 := sgen3; go_enter Try.func11, Try.ntmps11
      go_wp2
      go_ret
      exact ⟨rfl, rfl⟩
end Go.Proofs.Ytcnmjfngaahhmaa
