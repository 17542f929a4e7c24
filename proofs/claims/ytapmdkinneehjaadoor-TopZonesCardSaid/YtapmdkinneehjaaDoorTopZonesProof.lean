/- Proved here: the law TopZones answers true for every input and leaves its arguments as they were. The condition: the listed tables hold what the program's text lays; the card ties it to the text. -/
import Derived.Test.YtapmdkinneehjaaDoorWalkZt
import Derived.Test.YtapmdkinneehjaaDoorOpenZc
import Derived.Test.YtapmdkinneehjaaDoorLdA
import Derived.Test.YtapmdkinneehjaaDoorCards
import Derived.Test.YtapmdkinneehjaaDoorTie
import Derived.ProofKit
import Derived.OpenShut
import Derived.ShutString
import Derived.ChangeOld
import Derived.Handed
import Derived.Lib.SmallJoins
import Derived.SevenTiedAt
set_option linter.unusedVariables false
set_option linter.unusedSimpArgs false
namespace Go.Proofs.YtapmdkinneehjaaDoor.topZones
open Go.ChangeShapes Go.WideShapes Go.ChangeAt Go.RowKit Go.Joins
open Go.ChangeMaps (open_string shut_string)

theorem own : ownKnob Tryd.prog.godebug = none := by kernel_rfl
theorem laidOut : laidOutB Tryd.prog = true := by kernel_rfl

set_option maxRecDepth 100000 in
theorem lifted (os : Os) (started : os.Started) (H : Type) (enc : TypeId × Value → H) :
    ReturnsInHanded {} Tryd.checked os 3 .any (fun w args => (Rows.topZonesSpec.pre enc Tryd.prog Tryd.f3 Rows.topZonesRow.domain false w args ∧ laidMet Tryd.prog Rows.topZonesRow.laid w) ∧ sizedMet enc Tryd.prog Tryd.f3 (OpenSpec.ofChange Rows.topZonesSpec) false w args)
      (Rows.topZonesSpec.post enc Tryd.prog Tryd.f3 false true false false) := by
  refine returnsInHanded_of_calls own started (by kernel_rfl) (ChangeSpec.witness_at (enc := enc) (C := Tryd.checked) (os := os) (X := fun w _ => laidMet Tryd.prog Rows.topZonesRow.laid w) false (laidWorldF os) #[.agg #[.string ⟨#[]⟩, .int .i64 0, .slice none 0 0], .int .i64 0] 8 rfl (by kernel_rfl) (by kernel_rfl) (by kernel_rfl) (by kernel_rfl) (by kernel_rfl) (laid_metF os _)) ?_
  intro w0 tape i _ hsh0 _ hok hpre _
  obtain ⟨_, _, _, fn', hfn', _, _, _, _, hvalw⟩ := hok
  obtain rfl : fn' = Tryd.f3 := Option.some.inj (hfn'.symm.trans Tryd.func3)
  obtain ⟨⟨⟨dsw, gsw, beforew, hww, hcw⟩, hLw⟩, hz⟩ := hpre
  have hWw := DataW.Whole.of_heap (w' := w0.forCall tape i) (by rfl) hww
  have hL2 : laidMet Tryd.prog Rows.topZonesRow.laid (w0.forCall tape i) := hLw.of_heap (by rfl)
  suffices key : ∀ (W : World) (base : Nat) (args : Array Value) (ds gs : List (DataW H)) (before : List MemPlace), (∀ (j : Nat) t v, Tryd.f3.params[j]? = some t → args[j]? = some v → Value.okWide Tryd.prog W .any base t v) → DataW.Whole enc Tryd.prog Tryd.f3.params.toList Rows.topZonesSpec.vars false W args.toList ds gs before → (DataW.weightsEach Tryd.prog (Tryd.f3.params.toList ++ Rows.topZonesSpec.plain.varTypes Tryd.prog) (ds ++ gs)).all (· ≤ reachBytes) = true → laidMet Tryd.prog Rows.topZonesRow.laid W → W.ShapedOpen Tryd.prog → Calls Tryd.prog 3 args W fun e W' => ∃ v, e = .returned v ∧ Rows.topZonesSpec.post enc Tryd.prog Tryd.f3 false true false false W args v W' by
    refine (key (w0.forCall tape i) w0.heap.size i.args dsw gsw beforew hvalw hWw (hz.weights hww) hL2 hsh0).mono fun e W' ⟨v, he, hp⟩ => ?_
    subst he
    exact ChangeSpec.post_blind hp
  clear hvalw hWw hL2 hsh0 hcw hLw hww hz hfn'
  intro W base args ds gs before hval0 hW hsize hL hshape
  have hT : NTab W := ntab_of_laid hL
  have hM : NMx W := nmx_of_shape hshape
  have hER : NEr W := ner_of_laid hL.tail
  have hval : ∀ (j : Nat) t v, Tryd.f3.params[j]? = some t → args[j]? = some v → Value.okWide Tryd.prog W .any base t v := hval0
  have hW' := hW
  obtain ⟨p, q, hA0, hV, rfl, hfz, hnd⟩ := hW
  have hA : DataW.TrodAll enc Tryd.prog W 0 (fun _ => true) true Tryd.f3.params.toList args.toList ds p := hA0
  rw [Tryd.params3] at hA hval hsize
  obtain ⟨v0, vs0, d0, ds0, p0, q0, hargs, rfl, rfl, h0, r0⟩ := trodAll_cons hA
  obtain ⟨v1, vs1, d1, ds1, p1, q1, rfl, rfl, rfl, h1, r1⟩ := trodAll_cons r0
  obtain ⟨rfl, rfl, rfl⟩ := trodAll_nil r1
  obtain rfl : args = #[v0, v1] := by cases args; simp_all
  obtain ⟨rfl, rfl⟩ := trodVars_none hV
  have k0 := h0
  have lt0 : ∀ x ∈ p0, x.block < W.heap.size := by obtain ⟨m, hm⟩ := k0; exact DataW.trod_lt m _ _ _ hm
  have k1 := h1
  have lt1 : ∀ x ∈ p1, x.block < W.heap.size := by obtain ⟨m, hm⟩ := k1; exact DataW.trod_lt m _ _ _ hm
  obtain ⟨nm0, zf0, za0, zc0, zl0, rfl, e0_0, sz_0, wz_0, s_0, wf_0⟩ := open_zone (hval 0 24 v0 rfl rfl) h0
  obtain ⟨a1, rfl, rfl, rfl, w1⟩ := open_int Tryd.underlying3 (hval 1 3 v1 rfl rfl) h1
  have wf_1 := wf64_of w1
  clear hA0 hval0
  refine (c_zTop nm0 zf0 za0 zc0 zl0 a1 W hM hT (by unfold maxLen at sz_0; omega) e0_0 s_0 (fun y hy => ⟨(wf_0 y hy).1, by have := (wf_0 y hy).2.2; unfold maxLen at this; omega⟩) wf_1.1 wf_1.2).mono fun e W' ⟨he, bel⟩ => ?_
  subst he
  exact ⟨_, rfl, _, _, _, [], _, [], hW', trodAll_mk1 (shut_bool Tryd.underlying4 _), (trodAll_cons_mk (Below.trod laidOut (by kernel_rfl) (of_decide_eq_true (by kernel_rfl)) k0 bel lt0) (trodAll_cons_mk (Below.trod laidOut (by kernel_rfl) (of_decide_eq_true (by kernel_rfl)) k1 bel lt1) trodAll_mk0)), rfl, bel.frame _, fun h => by cases h⟩

theorem over : Rows.topZonesRow.holds Tryd.pinned (OpenSpec.ofChange Rows.topZonesSpec) :=
  OpenClaim.holds_of_wide 3 Tryd.f3 rfl rfl rfl rfl rfl rfl rfl ⟨rfl, rfl, rfl, rfl, rfl⟩ rfl rfl rfl rfl rfl (by kernel_rfl) Tryd.func3 (by kernel_rfl)
    (of_decide_eq_true (by kernel_rfl)) (by unfold Func.isWrapper; first | (rw [if_pos (by decide +kernel)]; kernel_rfl) | (rw [if_neg (by decide +kernel)]; exact ⟨rfl, rfl⟩))
    (fun os started H enc _ => lifted os started H enc)
theorem named : Tryd.prog.funcNamed "ephemeris/ephemeristop.TopZones" = some 3 := by kernel_rfl
end Go.Proofs.YtapmdkinneehjaaDoor.topZones
namespace Go.Proofs.YtapmdkinneehjaaDoor
theorem topZones_holds : Rows.TopZonesCardSaid :=
  Claim7.holds_tied_plain_at .later [] [.data, .data, .data, .data, .sentinel, .sentinel, .pinned] true Rows.topZonesCard.stood.harness true
    topZones.over (fun _ h => by cases h) (by kernel_rfl) (fun _ h => by cases h) topZones_row_tie rfl ⟨rfl, rfl⟩ (by kernel_rfl) (by decide +kernel)
    (fun f fn hf hfn => by
      obtain rfl : f = 3 := Option.some.inj (topZones.named.symm.trans hf) |>.symm
      obtain rfl : fn = Tryd.f3 := (Option.some.inj (Tryd.func3.symm.trans hfn)).symm
      exact ⟨by kernel_rfl, fun j t ht => by
        rw [Tryd.params3] at ht
        rcases j with _ | j
        · obtain rfl := Option.some.inj ht
          kernel_rfl
        rcases j with _ | j
        · obtain rfl := Option.some.inj ht
          kernel_rfl
        · cases ht
      ⟩)
    (by kernel_rfl)
end Go.Proofs.YtapmdkinneehjaaDoor
