/- Proved here: the law SharpenEarliers answers true for every input and leaves its arguments as they were. The condition: the tables of math.Sin hold what the program's text lays; the card ties it to the text. -/
import Derived.Test.YtplhegjgkmabiaaDoorWalkShE
import Derived.Test.YtplhegjgkmabiaaDoorOpA
import Derived.Test.YtplhegjgkmabiaaDoorCards
import Derived.Test.YtplhegjgkmabiaaDoorTie
import Derived.ProofKit
import Derived.OpenShut
import Derived.ShutString
import Derived.ChangeOld
import Derived.Handed
import Derived.Lib.SmallJoins
import Derived.SevenTiedAt
set_option linter.unusedVariables false
set_option linter.unusedSimpArgs false
namespace Go.Proofs.YtplhegjgkmabiaaDoor.sharpenEarliers
open Go.ChangeShapes Go.WideShapes Go.ChangeAt Go.RowKit Go.Joins
open Go.ChangeMaps (open_string shut_string)

theorem own : ownKnob Tryd.prog.godebug = none := by kernel_rfl
theorem laidOut : laidOutB Tryd.prog = true := by kernel_rfl

set_option maxRecDepth 100000 in
theorem lifted (os : Os) (started : os.Started) (H : Type) (enc : TypeId × Value → H) :
    ReturnsInHanded {} Tryd.checked os 12 .any (fun w args => (Rows.sharpenEarliersSpec.pre enc Tryd.prog Tryd.f12 Rows.sharpenEarliersRow.domain false w args ∧ laidMet Tryd.prog Rows.sharpenEarliersRow.laid w) ∧ sizedMet enc Tryd.prog Tryd.f12 (OpenSpec.ofChange Rows.sharpenEarliersSpec) false w args)
      (Rows.sharpenEarliersSpec.post enc Tryd.prog Tryd.f12 false true false false) := by
  refine returnsInHanded_of_change_and (C := Tryd.checked) (X := fun w _ => laidMet Tryd.prog Rows.sharpenEarliersRow.laid w) (fun _ _ _ hh h => h.of_heap hh) own started (by kernel_rfl) Tryd.func12
    (ChangeSpec.witness_at (enc := enc) (C := Tryd.checked) (os := os) (X := fun w _ => laidMet Tryd.prog Rows.sharpenEarliersRow.laid w) false (laidWorld os) #[.agg #[.int .i64 0, .int .i64 0], .agg #[.int .i64 0, .int .i64 0]] 8 rfl (by kernel_rfl) (by kernel_rfl) (by kernel_rfl) (by kernel_rfl) (by kernel_rfl) (laid_met os _)) ?_
  intro W base args ds gs before hval0 hW hcnd _ hL _
  have hT : Tab W := tab_of_laid hL
  have hval : ∀ (j : Nat) t v, Tryd.f12.params[j]? = some t → args[j]? = some v → Value.okWide Tryd.prog W .any base t v := hval0
  have hW' := hW
  obtain ⟨p, q, hA0, hV, rfl, hfz, hnd⟩ := hW
  have hA : DataW.TrodAll enc Tryd.prog W 0 (fun _ => true) true Tryd.f12.params.toList args.toList ds p := hA0
  rw [Tryd.params12] at hA hval
  obtain ⟨v0, vs0, d0, ds0, p0, q0, hargs, rfl, rfl, h0, r0⟩ := trodAll_cons hA
  obtain ⟨v1, vs1, d1, ds1, p1, q1, rfl, rfl, rfl, h1, r1⟩ := trodAll_cons r0
  obtain ⟨rfl, rfl, rfl⟩ := trodAll_nil r1
  obtain rfl : args = #[v0, v1] := by cases args; simp_all
  obtain ⟨rfl, rfl⟩ := trodVars_none hV
  have k0 := h0
  have lt0 : ∀ x ∈ p0, x.block < W.heap.size := by obtain ⟨m, hm⟩ := k0; exact DataW.trod_lt m _ _ _ hm
  have k1 := h1
  have lt1 : ∀ x ∈ p1, x.block < W.heap.size := by obtain ⟨m, hm⟩ := k1; exact DataW.trod_lt m _ _ _ hm
  obtain ⟨c0a, c0b, y0a, y0b, m0, rfl, rfl, rfl, hy0a, hy0b⟩ := open_agg2 Tryd.underlying25 (by kernel_rfl) cells_span (hval 0 25 v0 rfl rfl) h0
  obtain ⟨lo0, e0a, _, w0a⟩ := DataW.trod_int Tryd.underlying3 hy0a
  obtain ⟨hi0, e0b, _, w0b⟩ := DataW.trod_int Tryd.underlying3 hy0b
  simp at e0a e0b
  subst e0a e0b
  have wf_0a := wf64_of w0a
  have wf_0b := wf64_of w0b
  obtain ⟨c1a, c1b, y1a, y1b, m1, rfl, rfl, rfl, hy1a, hy1b⟩ := open_agg2 Tryd.underlying25 (by kernel_rfl) cells_span (hval 1 25 v1 rfl rfl) h1
  obtain ⟨lo1, e1a, _, w1a⟩ := DataW.trod_int Tryd.underlying3 hy1a
  obtain ⟨hi1, e1b, _, w1b⟩ := DataW.trod_int Tryd.underlying3 hy1b
  simp at e1a e1b
  subst e1a e1b
  have wf_1a := wf64_of w1a
  have wf_1b := wf64_of w1b
  clear hA0 hval0
  refine (walk_SharpenEarliers lo0 hi0 lo1 hi1 W hT).mono fun e W' ⟨he, bel⟩ => ?_
  subst he
  exact ⟨_, rfl, _, _, _, [], _, [], hW', trodAll_mk1 (shut_bool Tryd.underlying4 _), (trodAll_cons_mk (Below.trod laidOut (by kernel_rfl) (of_decide_eq_true (by kernel_rfl)) k0 bel lt0) (trodAll_cons_mk (Below.trod laidOut (by kernel_rfl) (of_decide_eq_true (by kernel_rfl)) k1 bel lt1) trodAll_mk0)), rfl, bel.frame _, fun h => by cases h⟩

theorem over : Rows.sharpenEarliersRow.holds Tryd.pinned (OpenSpec.ofChange Rows.sharpenEarliersSpec) :=
  OpenClaim.holds_of_wide 12 Tryd.f12 rfl rfl rfl rfl rfl rfl rfl ⟨rfl, rfl, rfl, rfl, rfl⟩ rfl rfl rfl rfl rfl (by kernel_rfl) Tryd.func12 (by kernel_rfl)
    (of_decide_eq_true (by kernel_rfl)) (by unfold Func.isWrapper; first | (rw [if_pos (by decide +kernel)]; kernel_rfl) | (rw [if_neg (by decide +kernel)]; exact ⟨rfl, rfl⟩))
    (fun os started H enc _ => lifted os started H enc)
theorem named : Tryd.prog.funcNamed "ephemeris/ephemerislaw2.SharpenEarliers" = some 12 := by kernel_rfl
end Go.Proofs.YtplhegjgkmabiaaDoor.sharpenEarliers
namespace Go.Proofs.YtplhegjgkmabiaaDoor
theorem sharpenEarliers_holds : Rows.SharpenEarliersCardSaid :=
  Claim7.holds_tied_plain_at .later [] [.data, .data, .data] true Rows.sharpenEarliersCard.stood.harness false
    sharpenEarliers.over (fun _ h => by cases h) (by kernel_rfl) (fun _ h => by cases h) sharpenEarliers_row_tie rfl ⟨rfl, rfl⟩ (by kernel_rfl) (by decide +kernel)
    (fun f fn hf hfn => by
      obtain rfl : f = 12 := Option.some.inj (sharpenEarliers.named.symm.trans hf) |>.symm
      obtain rfl : fn = Tryd.f12 := (Option.some.inj (Tryd.func12.symm.trans hfn)).symm
      exact ⟨by kernel_rfl, fun j t ht => by
        rw [Tryd.params12] at ht
        rcases j with _ | j
        · obtain rfl := Option.some.inj ht
          kernel_rfl
        rcases j with _ | j
        · obtain rfl := Option.some.inj ht
          kernel_rfl
        · cases ht
      ⟩)
    (by kernel_rfl)
end Go.Proofs.YtplhegjgkmabiaaDoor
