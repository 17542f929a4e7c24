/- Proved here: the law StarmapMaps answers true for every input and leaves its arguments as they were. The condition: the listed tables hold what the program's text lays; the card ties it to the text. -/
import Derived.Test.YtcgnhnmigmdalaaDoorStmA
import Derived.Test.YtcgnhnmigmdalaaDoorLaidSt
import Derived.Test.YtcgnhnmigmdalaaDoorOpA
import Derived.Test.YtcgnhnmigmdalaaDoorCards
import Derived.Test.YtcgnhnmigmdalaaDoorTie
import Derived.ProofKit
import Derived.OpenShut
import Derived.ShutString
import Derived.ChangeOld
import Derived.Handed
import Derived.Lib.SmallJoins
import Derived.SevenTiedAt
set_option linter.unusedVariables false
set_option linter.unusedSimpArgs false
namespace Go.Proofs.YtcgnhnmigmdalaaDoor.starmapMaps
open Go.ChangeShapes Go.WideShapes Go.ChangeAt Go.RowKit Go.Joins
open Go.ChangeMaps (open_string shut_string)

theorem own : ownKnob Tryd.prog.godebug = none := by kernel_rfl
theorem laidOut : laidOutB Tryd.prog = true := by kernel_rfl
theorem cells_site : Tryd.prog.cellsOf 40 = 2 := by kernel_rfl

set_option maxRecDepth 100000 in
theorem lifted (os : Os) (started : os.Started) (H : Type) (enc : TypeId × Value → H) :
    ReturnsInHanded {} Tryd.checked os 5 .any (fun w args => (Rows.starmapMapsSpec.pre enc Tryd.prog Tryd.f5 Rows.starmapMapsRow.domain false w args ∧ laidMet Tryd.prog Rows.starmapMapsRow.laid w) ∧ sizedMet enc Tryd.prog Tryd.f5 (OpenSpec.ofChange Rows.starmapMapsSpec) false w args)
      (Rows.starmapMapsSpec.post enc Tryd.prog Tryd.f5 false true false false) := by
  refine returnsInHanded_of_change_and (C := Tryd.checked) (X := fun w _ => laidMet Tryd.prog Rows.starmapMapsRow.laid w) (fun _ _ _ hh h => h.of_heap hh) own started (by kernel_rfl) Tryd.func5
    (ChangeSpec.witness_at (enc := enc) (C := Tryd.checked) (os := os) (X := fun w _ => laidMet Tryd.prog Rows.starmapMapsRow.laid w) false (laidWorld4 os) #[.agg #[.int .i64 0, .int .i64 0], .int .i64 0] 8 rfl (by kernel_rfl) (by kernel_rfl) (by kernel_rfl) (by kernel_rfl) (by kernel_rfl) (laid_met4 os _)) ?_
  intro W base args ds gs before hval0 hW hcnd _ hL _
  have hT : Tab W := tab_of_laid hL
  have hval : ∀ (j : Nat) t v, Tryd.f5.params[j]? = some t → args[j]? = some v → Value.okWide Tryd.prog W .any base t v := hval0
  have hW' := hW
  obtain ⟨p, q, hA0, hV, rfl, hfz, hnd⟩ := hW
  have hA : DataW.TrodAll enc Tryd.prog W 0 (fun _ => true) true Tryd.f5.params.toList args.toList ds p := hA0
  rw [Tryd.params5] at hA hval
  obtain ⟨v0, vs0, d0, ds0, p0, q0, hargs, rfl, rfl, h0, r0⟩ := trodAll_cons hA
  obtain ⟨v1, vs1, d1, ds1, p1, q1, rfl, rfl, rfl, h1, r1⟩ := trodAll_cons r0
  obtain ⟨rfl, rfl, rfl⟩ := trodAll_nil r1
  obtain rfl : args = #[v0, v1] := by cases args; simp_all
  obtain ⟨rfl, rfl⟩ := trodVars_none hV
  have k0 := h0
  have lt0 : ∀ x ∈ p0, x.block < W.heap.size := by obtain ⟨m, hm⟩ := k0; exact DataW.trod_lt m _ _ _ hm
  have k1 := h1
  have lt1 : ∀ x ∈ p1, x.block < W.heap.size := by obtain ⟨m, hm⟩ := k1; exact DataW.trod_lt m _ _ _ hm
  obtain ⟨c0a, c0b, y0a, y0b, m0, rfl, rfl, rfl, hy0a, hy0b⟩ := open_agg2 Tryd.underlying40 (by kernel_rfl) cells_site (hval 0 40 v0 rfl rfl) h0
  obtain ⟨lo0, e0a, _, w0a⟩ := DataW.trod_int Tryd.underlying3 hy0a
  obtain ⟨hi0, e0b, _, w0b⟩ := DataW.trod_int Tryd.underlying3 hy0b
  simp at e0a e0b
  subst e0a e0b
  have wf_0a := wf64_of w0a
  have wf_0b := wf64_of w0b
  obtain ⟨a1, rfl, rfl, rfl, w1⟩ := open_int Tryd.underlying3 (hval 1 3 v1 rfl rfl) h1
  have wf_1 := wf64_of w1
  clear hA0 hval0
  refine (walk_StarmapMaps lo0 hi0 a1 W hT (stab_of_laid hL) wf_1).mono fun e W' ⟨he, bel⟩ => ?_
  subst he
  exact ⟨_, rfl, _, _, _, [], _, [], hW', trodAll_mk1 (shut_bool Tryd.underlying4 _), (trodAll_cons_mk (Below.trod laidOut (by kernel_rfl) (of_decide_eq_true (by kernel_rfl)) k0 bel lt0) (trodAll_cons_mk (Below.trod laidOut (by kernel_rfl) (of_decide_eq_true (by kernel_rfl)) k1 bel lt1) trodAll_mk0)), rfl, bel.frame _, fun h => by cases h⟩

theorem over : Rows.starmapMapsRow.holds Tryd.pinned (OpenSpec.ofChange Rows.starmapMapsSpec) :=
  OpenClaim.holds_of_wide 5 Tryd.f5 rfl rfl rfl rfl rfl rfl rfl ⟨rfl, rfl, rfl, rfl, rfl⟩ rfl rfl rfl rfl rfl (by kernel_rfl) Tryd.func5 (by kernel_rfl)
    (of_decide_eq_true (by kernel_rfl)) (by unfold Func.isWrapper; first | (rw [if_pos (by decide +kernel)]; kernel_rfl) | (rw [if_neg (by decide +kernel)]; exact ⟨rfl, rfl⟩))
    (fun os started H enc _ => lifted os started H enc)
theorem named : Tryd.prog.funcNamed "ephemeris/ephemerislaw2.StarmapMaps" = some 5 := by kernel_rfl
end Go.Proofs.YtcgnhnmigmdalaaDoor.starmapMaps
namespace Go.Proofs.YtcgnhnmigmdalaaDoor
theorem starmapMaps_holds : Rows.StarmapMapsCardSaid :=
  Claim7.holds_tied_plain_at .later [] [.data, .data, .data, .data] true Rows.starmapMapsCard.stood.harness false
    starmapMaps.over (fun _ h => by cases h) (by kernel_rfl) (fun _ h => by cases h) starmapMaps_row_tie rfl ⟨rfl, rfl⟩ (by kernel_rfl) (by decide +kernel)
    (fun f fn hf hfn => by
      obtain rfl : f = 5 := Option.some.inj (starmapMaps.named.symm.trans hf) |>.symm
      obtain rfl : fn = Tryd.f5 := (Option.some.inj (Tryd.func5.symm.trans hfn)).symm
      exact ⟨by kernel_rfl, fun j t ht => by
        rw [Tryd.params5] at ht
        rcases j with _ | j
        · obtain rfl := Option.some.inj ht
          kernel_rfl
        rcases j with _ | j
        · obtain rfl := Option.some.inj ht
          kernel_rfl
        · cases ht
      ⟩)
    (by kernel_rfl)
end Go.Proofs.YtcgnhnmigmdalaaDoor
