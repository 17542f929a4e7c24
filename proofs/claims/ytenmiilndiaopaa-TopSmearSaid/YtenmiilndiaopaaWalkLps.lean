/- Contracts of leap.Check and of the reference's LeapsErr. -/
import Derived.Test.YtenmiilndiaopaaWalk1
import Derived.Test.YtenmiilndiaopaaPlainLps
import Derived.Test.YtenmiilndiaopaaIxLeap
import Derived.Deep.LoopGhost
import Derived.Deep.QuietTactic
import Derived.BigQuiet
set_option linter.unusedVariables false
set_option linter.unusedSimpArgs false
namespace Go.Proofs.Ytenmiilndiaopaa
open Go.RowKit
theorem leapsErr_small {l : List Lp} (h : ¬ 60 < l.length) : leapsErr l = lpsFrom (-5000000) l := by unfold leapsErr; rw [if_neg h]
theorem c_lpc_large (a : Option Addr) (len cap : Nat) (w : World) (h : 60 < len) : Calls Try.prog 22 #[.slice a len cap] w fun e w' => e = .returned (.int .i64 2) ∧ Below w.heap.size w w' := by
  have hgen := sgen; have hgen2 := sgen2; have hgen3 := sgen3; go_enter Try.func22, Try.ntmps22
  go_wp2
  go_ret
  exact ⟨rfl, Below.refl _ _⟩
end Go.Proofs.Ytenmiilndiaopaa
