/- Proved here: the law NoticeSigns answers true for every input and leaves its arguments as they were. The condition: the listed tables hold what the program's text lays; the card ties it to the text. -/
import Derived.Test.YtbcehnhiedbbbaaDoorWalkNoS
import Derived.Test.YtbcehnhiedbbbaaDoorOpen0
import Derived.Test.YtbcehnhiedbbbaaDoorLaidNo
import Derived.Test.YtbcehnhiedbbbaaDoorCards
import Derived.Test.YtbcehnhiedbbbaaDoorTie
import Derived.ProofKit
import Derived.OpenShut
import Derived.ShutString
import Derived.ChangeOld
import Derived.Handed
import Derived.Lib.SmallJoins
import Derived.SevenTiedAt
set_option linter.unusedVariables false
set_option linter.unusedSimpArgs false
namespace Go.Proofs.YtbcehnhiedbbbaaDoor.noticeSigns
open Go.ChangeShapes Go.WideShapes Go.ChangeAt Go.RowKit Go.Joins
open Go.ChangeMaps (open_string shut_string)

theorem own : ownKnob Tryd.prog.godebug = none := by kernel_rfl
theorem laidOut : laidOutB Tryd.prog = true := by kernel_rfl
theorem cells_notice : Tryd.prog.cellsOf 23 = 4 := by kernel_rfl

set_option maxRecDepth 100000 in
theorem lifted (os : Os) (started : os.Started) (H : Type) (enc : TypeId × Value → H) :
    ReturnsInHanded {} Tryd.checked os 3 .any (fun w args => (Rows.noticeSignsSpec.pre enc Tryd.prog Tryd.f3 Rows.noticeSignsRow.domain false w args ∧ laidMet Tryd.prog Rows.noticeSignsRow.laid w) ∧ sizedMet enc Tryd.prog Tryd.f3 (OpenSpec.ofChange Rows.noticeSignsSpec) false w args)
      (Rows.noticeSignsSpec.post enc Tryd.prog Tryd.f3 false true false false) := by
  refine returnsInHanded_of_change_and (C := Tryd.checked) (X := fun w _ => laidMet Tryd.prog Rows.noticeSignsRow.laid w) (fun _ _ _ hh h => h.of_heap hh) own started (by kernel_rfl) Tryd.func3
    (ChangeSpec.witness_at (enc := enc) (C := Tryd.checked) (os := os) (X := fun w _ => laidMet Tryd.prog Rows.noticeSignsRow.laid w) false (laidWorldN os) #[.int .i64 0, .agg #[.int .i64 0, .int .i64 0, .string ⟨#[]⟩, .int .i64 0]] 8 rfl (by kernel_rfl) (by kernel_rfl) (by kernel_rfl) (by kernel_rfl) (by kernel_rfl) (laid_metN os _)) ?_
  intro W base args ds gs before hval0 hW hcnd _ hL _
  have hT : NTab W := ntab_of_laid hL
  have hval : ∀ (j : Nat) t v, Tryd.f3.params[j]? = some t → args[j]? = some v → Value.okWide Tryd.prog W .any base t v := hval0
  have hW' := hW
  obtain ⟨p, q, hA0, hV, rfl, hfz, hnd⟩ := hW
  have hA : DataW.TrodAll enc Tryd.prog W 0 (fun _ => true) true Tryd.f3.params.toList args.toList ds p := hA0
  rw [Tryd.params3] at hA hval
  obtain ⟨v0, vs0, d0, ds0, p0, q0, hargs, rfl, rfl, h0, r0⟩ := trodAll_cons hA
  obtain ⟨v1, vs1, d1, ds1, p1, q1, rfl, rfl, rfl, h1, r1⟩ := trodAll_cons r0
  obtain ⟨rfl, rfl, rfl⟩ := trodAll_nil r1
  obtain rfl : args = #[v0, v1] := by cases args; simp_all
  obtain ⟨rfl, rfl⟩ := trodVars_none hV
  have k0 := h0
  have lt0 : ∀ x ∈ p0, x.block < W.heap.size := by obtain ⟨m, hm⟩ := k0; exact DataW.trod_lt m _ _ _ hm
  have k1 := h1
  have lt1 : ∀ x ∈ p1, x.block < W.heap.size := by obtain ⟨m, hm⟩ := k1; exact DataW.trod_lt m _ _ _ hm
  obtain ⟨a0, rfl, rfl, rfl, w0⟩ := open_int Tryd.underlying3 (hval 0 3 v0 rfl rfl) h0
  have wf_0 := wf64_of w0
  obtain ⟨c1a, c1b, c1c, c1d, y1a, y1b, y1c, y1d, m1, rfl, rfl, rfl, hy1a, hy1b, hy1c, hy1d⟩ := open_agg4 Tryd.underlying23 (by kernel_rfl) cells_notice (hval 1 23 v1 rfl rfl) h1
  obtain ⟨na1, e1a, _, w1a⟩ := DataW.trod_int Tryd.underlying3 hy1a
  obtain ⟨nn1, e1b, _, w1b⟩ := DataW.trod_int Tryd.underlying3 hy1b
  obtain ⟨nt1, e1c, _, w1c⟩ := DataW.trod_string Tryd.underlying9 hy1c
  obtain ⟨ns1, e1d, _, w1d⟩ := DataW.trod_int Tryd.underlying3 hy1d
  simp at e1a e1b e1c e1d
  subst e1a e1b e1c e1d
  have sz_1 : nt1.size ≤ 9223372036854775807 := by unfold maxLen at w1c; omega
  clear hA0 hval0
  refine (walk_NoticeSigns a0 na1 nn1 nt1 ns1 W hT sz_1).mono fun e W' ⟨he, bel⟩ => ?_
  subst he
  exact ⟨_, rfl, _, _, _, [], _, [], hW', trodAll_mk1 (shut_bool Tryd.underlying4 _), (trodAll_cons_mk (Below.trod laidOut (by kernel_rfl) (of_decide_eq_true (by kernel_rfl)) k0 bel lt0) (trodAll_cons_mk (Below.trod laidOut (by kernel_rfl) (of_decide_eq_true (by kernel_rfl)) k1 bel lt1) trodAll_mk0)), rfl, bel.frame _, fun h => by cases h⟩

theorem over : Rows.noticeSignsRow.holds Tryd.pinned (OpenSpec.ofChange Rows.noticeSignsSpec) :=
  OpenClaim.holds_of_wide 3 Tryd.f3 rfl rfl rfl rfl rfl rfl rfl ⟨rfl, rfl, rfl, rfl, rfl⟩ rfl rfl rfl rfl rfl (by kernel_rfl) Tryd.func3 (by kernel_rfl)
    (of_decide_eq_true (by kernel_rfl)) (by unfold Func.isWrapper; first | (rw [if_pos (by decide +kernel)]; kernel_rfl) | (rw [if_neg (by decide +kernel)]; exact ⟨rfl, rfl⟩))
    (fun os started H enc _ => lifted os started H enc)
theorem named : Tryd.prog.funcNamed "ephemeris/ephemerislaw2.NoticeSigns" = some 3 := by kernel_rfl
end Go.Proofs.YtbcehnhiedbbbaaDoor.noticeSigns
namespace Go.Proofs.YtbcehnhiedbbbaaDoor
theorem noticeSigns_holds : Rows.NoticeSignsCardSaid :=
  Claim7.holds_tied_plain_at .later [] [.data, .data, .data] true Rows.noticeSignsCard.stood.harness true
    noticeSigns.over (fun _ h => by cases h) (by kernel_rfl) (fun _ h => by cases h) noticeSigns_row_tie rfl ⟨rfl, rfl⟩ (by kernel_rfl) (by decide +kernel)
    (fun f fn hf hfn => by
      obtain rfl : f = 3 := Option.some.inj (noticeSigns.named.symm.trans hf) |>.symm
      obtain rfl : fn = Tryd.f3 := (Option.some.inj (Tryd.func3.symm.trans hfn)).symm
      exact ⟨by kernel_rfl, fun j t ht => by
        rw [Tryd.params3] at ht
        rcases j with _ | j
        · obtain rfl := Option.some.inj ht
          kernel_rfl
        rcases j with _ | j
        · obtain rfl := Option.some.inj ht
          kernel_rfl
        · cases ht
      ⟩)
    (by kernel_rfl)
end Go.Proofs.YtbcehnhiedbbbaaDoor
