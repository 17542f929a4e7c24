/- Proved here: the law PlaceErrors answers true for every input and leaves its arguments as they were. The condition: the tables of math.Sin hold what the program's text lays; the card ties it to the text. -/
import Derived.Test.YtmjdcabniefifaaDoorWalkPlw
import Derived.Test.YtmjdcabniefifaaDoorOpA
import Derived.Test.YtmjdcabniefifaaDoorCards
import Derived.Test.YtmjdcabniefifaaDoorTie
import Derived.ProofKit
import Derived.OpenShut
import Derived.ShutString
import Derived.ChangeOld
import Derived.Handed
import Derived.Lib.SmallJoins
import Derived.SevenTiedAt
set_option linter.unusedVariables false
set_option linter.unusedSimpArgs false
namespace Go.Proofs.YtmjdcabniefifaaDoor.placeErrors
open Go.ChangeShapes Go.WideShapes Go.ChangeAt Go.RowKit Go.Joins
open Go.ChangeMaps (open_string shut_string)

theorem own : ownKnob Tryd.prog.godebug = none := by kernel_rfl
theorem laidOut : laidOutB Tryd.prog = true := by kernel_rfl
theorem cells_site : Tryd.prog.cellsOf 23 = 2 := by kernel_rfl

set_option maxRecDepth 100000 in
theorem lifted (os : Os) (started : os.Started) (H : Type) (enc : TypeId × Value → H) :
    ReturnsInHanded {} Tryd.checked os 4 .any (fun w args => (Rows.placeErrorsSpec.pre enc Tryd.prog Tryd.f4 Rows.placeErrorsRow.domain false w args ∧ laidMet Tryd.prog Rows.placeErrorsRow.laid w) ∧ sizedMet enc Tryd.prog Tryd.f4 (OpenSpec.ofChange Rows.placeErrorsSpec) false w args)
      (Rows.placeErrorsSpec.post enc Tryd.prog Tryd.f4 false true false false) := by
  refine returnsInHanded_of_change_and (C := Tryd.checked) (X := fun w _ => laidMet Tryd.prog Rows.placeErrorsRow.laid w) (fun _ _ _ hh h => h.of_heap hh) own started (by kernel_rfl) Tryd.func4
    (ChangeSpec.witness_at (enc := enc) (C := Tryd.checked) (os := os) (X := fun w _ => laidMet Tryd.prog Rows.placeErrorsRow.laid w) false (laidWorld os) #[.agg #[.int .i64 0, .int .i64 0], .agg #[.int .i64 0, .int .i64 0], .agg #[.int .i64 0, .int .i64 0], .int .i64 0] 8 rfl (by kernel_rfl) (by kernel_rfl) (by kernel_rfl) (by kernel_rfl) (by kernel_rfl) (laid_met os _)) ?_
  intro W base args ds gs before hval0 hW hcnd _ hL _
  have hT : Tab W := tab_of_laid hL
  have hval : ∀ (j : Nat) t v, Tryd.f4.params[j]? = some t → args[j]? = some v → Value.okWide Tryd.prog W .any base t v := hval0
  have hW' := hW
  obtain ⟨p, q, hA0, hV, rfl, hfz, hnd⟩ := hW
  have hA : DataW.TrodAll enc Tryd.prog W 0 (fun _ => true) true Tryd.f4.params.toList args.toList ds p := hA0
  rw [Tryd.params4] at hA hval
  obtain ⟨v0, vs0, d0, ds0, p0, q0, hargs, rfl, rfl, h0, r0⟩ := trodAll_cons hA
  obtain ⟨v1, vs1, d1, ds1, p1, q1, rfl, rfl, rfl, h1, r1⟩ := trodAll_cons r0
  obtain ⟨v2, vs2, d2, ds2, p2, q2, rfl, rfl, rfl, h2, r2⟩ := trodAll_cons r1
  obtain ⟨v3, vs3, d3, ds3, p3, q3, rfl, rfl, rfl, h3, r3⟩ := trodAll_cons r2
  obtain ⟨rfl, rfl, rfl⟩ := trodAll_nil r3
  obtain rfl : args = #[v0, v1, v2, v3] := by cases args; simp_all
  obtain ⟨rfl, rfl⟩ := trodVars_none hV
  have k0 := h0
  have lt0 : ∀ x ∈ p0, x.block < W.heap.size := by obtain ⟨m, hm⟩ := k0; exact DataW.trod_lt m _ _ _ hm
  have k1 := h1
  have lt1 : ∀ x ∈ p1, x.block < W.heap.size := by obtain ⟨m, hm⟩ := k1; exact DataW.trod_lt m _ _ _ hm
  have k2 := h2
  have lt2 : ∀ x ∈ p2, x.block < W.heap.size := by obtain ⟨m, hm⟩ := k2; exact DataW.trod_lt m _ _ _ hm
  have k3 := h3
  have lt3 : ∀ x ∈ p3, x.block < W.heap.size := by obtain ⟨m, hm⟩ := k3; exact DataW.trod_lt m _ _ _ hm
  obtain ⟨c0a, c0b, y0a, y0b, m0, rfl, rfl, rfl, hy0a, hy0b⟩ := open_agg2 Tryd.underlying23 (by kernel_rfl) cells_site (hval 0 23 v0 rfl rfl) h0
  obtain ⟨lo0, e0a, _, w0a⟩ := DataW.trod_int Tryd.underlying3 hy0a
  obtain ⟨hi0, e0b, _, w0b⟩ := DataW.trod_int Tryd.underlying3 hy0b
  simp at e0a e0b
  subst e0a e0b
  have wf_0a := wf64_of w0a
  have wf_0b := wf64_of w0b
  obtain ⟨c1a, c1b, y1a, y1b, m1, rfl, rfl, rfl, hy1a, hy1b⟩ := open_agg2 Tryd.underlying26 (by kernel_rfl) cells_span (hval 1 26 v1 rfl rfl) h1
  obtain ⟨lo1, e1a, _, w1a⟩ := DataW.trod_int Tryd.underlying3 hy1a
  obtain ⟨hi1, e1b, _, w1b⟩ := DataW.trod_int Tryd.underlying3 hy1b
  simp at e1a e1b
  subst e1a e1b
  have wf_1a := wf64_of w1a
  have wf_1b := wf64_of w1b
  obtain ⟨c2a, c2b, y2a, y2b, m2, rfl, rfl, rfl, hy2a, hy2b⟩ := open_agg2 Tryd.underlying26 (by kernel_rfl) cells_span (hval 2 26 v2 rfl rfl) h2
  obtain ⟨lo2, e2a, _, w2a⟩ := DataW.trod_int Tryd.underlying3 hy2a
  obtain ⟨hi2, e2b, _, w2b⟩ := DataW.trod_int Tryd.underlying3 hy2b
  simp at e2a e2b
  subst e2a e2b
  have wf_2a := wf64_of w2a
  have wf_2b := wf64_of w2b
  obtain ⟨a3, rfl, rfl, rfl, w3⟩ := open_int Tryd.underlying3 (hval 3 3 v3 rfl rfl) h3
  have wf_3 := wf64_of w3
  clear hA0 hval0
  refine (walk_PlaceErrors lo0 hi0 a3 lo1 hi1 lo2 hi2 W hT wf_3).mono fun e W' ⟨he, bel⟩ => ?_
  subst he
  exact ⟨_, rfl, _, _, _, [], _, [], hW', trodAll_mk1 (shut_bool Tryd.underlying4 _), (trodAll_cons_mk (Below.trod laidOut (by kernel_rfl) (of_decide_eq_true (by kernel_rfl)) k0 bel lt0) (trodAll_cons_mk (Below.trod laidOut (by kernel_rfl) (of_decide_eq_true (by kernel_rfl)) k1 bel lt1) (trodAll_cons_mk (Below.trod laidOut (by kernel_rfl) (of_decide_eq_true (by kernel_rfl)) k2 bel lt2) (trodAll_cons_mk (Below.trod laidOut (by kernel_rfl) (of_decide_eq_true (by kernel_rfl)) k3 bel lt3) trodAll_mk0)))), rfl, bel.frame _, fun h => by cases h⟩

theorem over : Rows.placeErrorsRow.holds Tryd.pinned (OpenSpec.ofChange Rows.placeErrorsSpec) :=
  OpenClaim.holds_of_wide 4 Tryd.f4 rfl rfl rfl rfl rfl rfl rfl ⟨rfl, rfl, rfl, rfl, rfl⟩ rfl rfl rfl rfl rfl (by kernel_rfl) Tryd.func4 (by kernel_rfl)
    (of_decide_eq_true (by kernel_rfl)) (by unfold Func.isWrapper; first | (rw [if_pos (by decide +kernel)]; kernel_rfl) | (rw [if_neg (by decide +kernel)]; exact ⟨rfl, rfl⟩))
    (fun os started H enc _ => lifted os started H enc)
theorem named : Tryd.prog.funcNamed "ephemeris/ephemerislaw2.PlaceErrors" = some 4 := by kernel_rfl
end Go.Proofs.YtmjdcabniefifaaDoor.placeErrors
namespace Go.Proofs.YtmjdcabniefifaaDoor
theorem placeErrors_holds : Rows.PlaceErrorsCardSaid :=
  Claim7.holds_tied_plain_at .later [] [.data, .data, .data] true Rows.placeErrorsCard.stood.harness false
    placeErrors.over (fun _ h => by cases h) (by kernel_rfl) (fun _ h => by cases h) placeErrors_row_tie rfl ⟨rfl, rfl⟩ (by kernel_rfl) (by decide +kernel)
    (fun f fn hf hfn => by
      obtain rfl : f = 4 := Option.some.inj (placeErrors.named.symm.trans hf) |>.symm
      obtain rfl : fn = Tryd.f4 := (Option.some.inj (Tryd.func4.symm.trans hfn)).symm
      exact ⟨by kernel_rfl, fun j t ht => by
        rw [Tryd.params4] at ht
        rcases j with _ | j
        · obtain rfl := Option.some.inj ht
          kernel_rfl
        rcases j with _ | j
        · obtain rfl := Option.some.inj ht
          kernel_rfl
        rcases j with _ | j
        · obtain rfl := Option.some.inj ht
          kernel_rfl
        rcases j with _ | j
        · obtain rfl := Option.some.inj ht
          kernel_rfl
        · cases ht
      ⟩)
    (by kernel_rfl)
end Go.Proofs.YtmjdcabniefifaaDoor
