/- The contracts of spread.newer and of the law's later: one order of notices. -/
import Derived.Test.YtbcehnhiedbbbaaDoorWalkNo7
import Derived.BigQuiet
set_option linter.unusedVariables false
set_option linter.unusedSimpArgs false
namespace Go.Proofs.YtbcehnhiedbbbaaDoor
open Go.RowKit
/-- The text t0 is greater than the text t1. -/
def gtT (t0 t1 : ByteArray) : Bool := !(Op.bytesLess t0.toList t1.toList || t0.toList == t1.toList)
/-- A notice is newer than another. -/
def nwF (n0 : Int) (t0 : ByteArray) (n1 : Int) (t1 : ByteArray) : Bool := if n0 = n1 then gtT t0 t1 else decide (n1 < n0)
theorem run_gtr (t0 t1 : ByteArray) : ∀ w, (binOp .gtr 9 (.string t0) (.string t1)).run Tryd.prog w = .ok (.bool (gtT t0 t1)) w := fun w => by
  unfold gtT
  simp [binOp, Op.stringOp]
theorem c_newer (a0 n0 : Int) (t0 : ByteArray) (s0 : Int) (a1 n1 : Int) (t1 : ByteArray) (s1 : Int) (w : World) : Calls Tryd.prog 48 #[.agg #[.int .i64 a0, .int .i64 n0, .string t0, .int .i64 s0], .agg #[.int .i64 a1, .int .i64 n1, .string t1, .int .i64 s1]] w fun e w' => e = .returned (.bool (nwF n0 t0 n1 t1)) ∧ Below w.heap.size w w' := by
  have hrun := run_gtr t0 t1
  unfold nwF
  by_cases h : n0 = n1
  · subst h
    have d := decide_eq_false (Int.lt_irrefl n0)
    rw [if_pos rfl]
    generalize gtT t0 t1 = g at *
    have hgen := sgen; have hgen2 := sgen2; have hgen3 := sgen3; go_enter Tryd.func48, Tryd.ntmps48
    go_wp2_with fail
    go_ret
    refine ⟨rfl, ?_⟩
    exact belz
  · rw [if_neg h]
    have e : (n0 == n1) = false := by simpa using h
    by_cases hl : n1 < n0
    · have d := decide_eq_true hl
      rw [d]
      have hgen := sgen; have hgen2 := sgen2; have hgen3 := sgen3; go_enter Tryd.func48, Tryd.ntmps48
      go_wp2_with fail
      go_ret
      refine ⟨rfl, ?_⟩
      exact belz
    · have d := decide_eq_false hl
      rw [d]
      have hgen := sgen; have hgen2 := sgen2; have hgen3 := sgen3; go_enter Tryd.func48, Tryd.ntmps48
      go_wp2_with fail
      go_ret
      refine ⟨rfl, ?_⟩
      exact belz
theorem c_later (a0 n0 : Int) (t0 : ByteArray) (s0 : Int) (a1 n1 : Int) (t1 : ByteArray) (s1 : Int) (w : World) : Calls Tryd.prog 22 #[.agg #[.int .i64 a0, .int .i64 n0, .string t0, .int .i64 s0], .agg #[.int .i64 a1, .int .i64 n1, .string t1, .int .i64 s1]] w fun e w' => e = .returned (.bool (nwF n0 t0 n1 t1)) ∧ Below w.heap.size w w' := by
  have hrun := run_gtr t0 t1
  unfold nwF
  by_cases h : n0 = n1
  · subst h
    rw [if_pos rfl]
    generalize gtT t0 t1 = g at *
    have hgen := sgen; have hgen2 := sgen2; have hgen3 := sgen3; go_enter Tryd.func22, Tryd.ntmps22
    go_wp2_with fail
    go_ret
    refine ⟨rfl, ?_⟩
    exact belz
  · rw [if_neg h]
    have e : (n0 != n1) = true := by simpa using h
    have hgen := sgen; have hgen2 := sgen2; have hgen3 := sgen3; go_enter Tryd.func22, Tryd.ntmps22
    go_wp2_with fail
    go_ret
    refine ⟨rfl, ?_⟩
    exact belz
end Go.Proofs.YtbcehnhiedbbbaaDoor
