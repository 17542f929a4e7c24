/- Proved here: the law LinkOffsets answers true for every input and leaves its argument as it was. No condition. -/
import Derived.Test.YtpjgoojaahbglaaOpen1
import Derived.Test.YtpjgoojaahbglaaWalk4
import Derived.ShutString
import Derived.ChangeOld
namespace Go.Proofs.Ytpjgoojaahbglaa.linkOffsets
open Go.ChangeShapes Go.WideShapes Go.ChangeAt Go.RowKit
open Go.ChangeMaps (open_string shut_string)
set_option linter.unusedVariables false

theorem own : ownKnob Try.prog.godebug = none := by kernel_rfl
theorem laidOut : laidOutB Try.prog = true := by kernel_rfl

set_option maxRecDepth 100000 in
set_option maxHeartbeats 2000000 in
theorem walk_nil (a : Option Addr) (cap : Nat) (w : World) :
    Calls Try.prog 3 #[.slice a 0 cap] w fun e w' => e = .returned (.bool true) ∧ Below w.heap.size w w' := by
  have e0 : bestErr [] = 6 := by decide
  have e1 : bestLo [] = 0 := by decide
  have e2 : bestHi [] = 0 := by decide
  have hgen := sgen; have hgen2 := sgen2; have hgen3 := sgen3; go_enter Try.func3, Try.ntmps3
  go_wp2_with (first | (go_at_call 11; refine (c_linkWorks _).mono ?_; rintro e w1 ⟨rfl, hb⟩; have hz := hb.size; (try simp only [World.size_alloc, World.size_setCell, World.size_drew] at hz); obtain ⟨hc, hf⟩ := bcell hb; (try have h_w_0 : w.heap.size < w1.heap.size := by omega); (try (refine bcUse (n := w.heap.size) hb ?_ ?_; (focus ((try simp only [World.size_alloc, World.size_setCell, World.size_drew]); omega)); intro _ _)); (try have h_w_1 : w.heap.size + 1 < w1.heap.size := by omega); (try (refine bcUse (n := w.heap.size + 1) hb ?_ ?_; (focus ((try simp only [World.size_alloc, World.size_setCell, World.size_drew]); omega)); intro _ _)); (try have h_w_2 : w.heap.size + 2 < w1.heap.size := by omega); (try (refine bcUse (n := w.heap.size + 2) hb ?_ ?_; (focus ((try simp only [World.size_alloc, World.size_setCell, World.size_drew]); omega)); intro _ _)); (try have h_wr_0 : wr.heap.size < w1.heap.size := by omega); (try (refine bcUse (n := wr.heap.size) hb ?_ ?_; (focus ((try simp only [World.size_alloc, World.size_setCell, World.size_drew]); omega)); intro _ _)); (try have h_wr_1 : wr.heap.size + 1 < w1.heap.size := by omega); (try (refine bcUse (n := wr.heap.size + 1) hb ?_ ?_; (focus ((try simp only [World.size_alloc, World.size_setCell, World.size_drew]); omega)); intro _ _)); (try have h_wr_2 : wr.heap.size + 2 < w1.heap.size := by omega); (try (refine bcUse (n := wr.heap.size + 2) hb ?_ ?_; (focus ((try simp only [World.size_alloc, World.size_setCell, World.size_drew]); omega)); intro _ _)); (try have h_w2_0 : w2.heap.size < w1.heap.size := by omega); (try (refine bcUse (n := w2.heap.size) hb ?_ ?_; (focus ((try simp only [World.size_alloc, World.size_setCell, World.size_drew]); omega)); intro _ _)); (try have h_w2_1 : w2.heap.size + 1 < w1.heap.size := by omega); (try (refine bcUse (n := w2.heap.size + 1) hb ?_ ?_; (focus ((try simp only [World.size_alloc, World.size_setCell, World.size_drew]); omega)); intro _ _)); (try have h_w2_2 : w2.heap.size + 2 < w1.heap.size := by omega); (try (refine bcUse (n := w2.heap.size + 2) hb ?_ ?_; (focus ((try simp only [World.size_alloc, World.size_setCell, World.size_drew]); omega)); intro _ _)); (try have h_w3_0 : w3.heap.size < w1.heap.size := by omega); (try (refine bcUse (n := w3.heap.size) hb ?_ ?_; (focus ((try simp only [World.size_alloc, World.size_setCell, World.size_drew]); omega)); intro _ _)); (try have h_w3_1 : w3.heap.size + 1 < w1.heap.size := by omega); (try (refine bcUse (n := w3.heap.size + 1) hb ?_ ?_; (focus ((try simp only [World.size_alloc, World.size_setCell, World.size_drew]); omega)); intro _ _)); (try have h_w3_2 : w3.heap.size + 2 < w1.heap.size := by omega); (try (refine bcUse (n := w3.heap.size + 2) hb ?_ ?_; (focus ((try simp only [World.size_alloc, World.size_setCell, World.size_drew]); omega)); intro _ _)); (try have h_w4_0 : w4.heap.size < w1.heap.size := by omega); (try (refine bcUse (n := w4.heap.size) hb ?_ ?_; (focus ((try simp only [World.size_alloc, World.size_setCell, World.size_drew]); omega)); intro _ _)); (try have h_w4_1 : w4.heap.size + 1 < w1.heap.size := by omega); (try (refine bcUse (n := w4.heap.size + 1) hb ?_ ?_; (focus ((try simp only [World.size_alloc, World.size_setCell, World.size_drew]); omega)); intro _ _)); (try have h_w4_2 : w4.heap.size + 2 < w1.heap.size := by omega); (try (refine bcUse (n := w4.heap.size + 2) hb ?_ ?_; (focus ((try simp only [World.size_alloc, World.size_setCell, World.size_drew]); omega)); intro _ _)); (try have h_w5_0 : w5.heap.size < w1.heap.size := by omega); (try (refine bcUse (n := w5.heap.size) hb ?_ ?_; (focus ((try simp only [World.size_alloc, World.size_setCell, World.size_drew]); omega)); intro _ _)); (try have h_w5_1 : w5.heap.size + 1 < w1.heap.size := by omega); (try (refine bcUse (n := w5.heap.size + 1) hb ?_ ?_; (focus ((try simp only [World.size_alloc, World.size_setCell, World.size_drew]); omega)); intro _ _)); (try have h_w5_2 : w5.heap.size + 2 < w1.heap.size := by omega); (try (refine bcUse (n := w5.heap.size + 2) hb ?_ ?_; (focus ((try simp only [World.size_alloc, World.size_setCell, World.size_drew]); omega)); intro _ _))) | (go_at_call 12; refine (c_best_any a cap [] _ (Nat.zero_le _) (.inl rfl)).mono ?_; rintro e w2 ⟨rfl, hb⟩; have hz := hb.size; (try simp only [World.size_alloc, World.size_setCell, World.size_drew] at hz); obtain ⟨hc, hf⟩ := bcell hb; (try have h_w_0 : w.heap.size < w2.heap.size := by omega); (try (refine bcUse (n := w.heap.size) hb ?_ ?_; (focus ((try simp only [World.size_alloc, World.size_setCell, World.size_drew]); omega)); intro _ _)); (try have h_w_1 : w.heap.size + 1 < w2.heap.size := by omega); (try (refine bcUse (n := w.heap.size + 1) hb ?_ ?_; (focus ((try simp only [World.size_alloc, World.size_setCell, World.size_drew]); omega)); intro _ _)); (try have h_w_2 : w.heap.size + 2 < w2.heap.size := by omega); (try (refine bcUse (n := w.heap.size + 2) hb ?_ ?_; (focus ((try simp only [World.size_alloc, World.size_setCell, World.size_drew]); omega)); intro _ _)); (try have h_wr_0 : wr.heap.size < w2.heap.size := by omega); (try (refine bcUse (n := wr.heap.size) hb ?_ ?_; (focus ((try simp only [World.size_alloc, World.size_setCell, World.size_drew]); omega)); intro _ _)); (try have h_wr_1 : wr.heap.size + 1 < w2.heap.size := by omega); (try (refine bcUse (n := wr.heap.size + 1) hb ?_ ?_; (focus ((try simp only [World.size_alloc, World.size_setCell, World.size_drew]); omega)); intro _ _)); (try have h_wr_2 : wr.heap.size + 2 < w2.heap.size := by omega); (try (refine bcUse (n := wr.heap.size + 2) hb ?_ ?_; (focus ((try simp only [World.size_alloc, World.size_setCell, World.size_drew]); omega)); intro _ _)); (try have h_w1_0 : w1.heap.size < w2.heap.size := by omega); (try (refine bcUse (n := w1.heap.size) hb ?_ ?_; (focus ((try simp only [World.size_alloc, World.size_setCell, World.size_drew]); omega)); intro _ _)); (try have h_w1_1 : w1.heap.size + 1 < w2.heap.size := by omega); (try (refine bcUse (n := w1.heap.size + 1) hb ?_ ?_; (focus ((try simp only [World.size_alloc, World.size_setCell, World.size_drew]); omega)); intro _ _)); (try have h_w1_2 : w1.heap.size + 2 < w2.heap.size := by omega); (try (refine bcUse (n := w1.heap.size + 2) hb ?_ ?_; (focus ((try simp only [World.size_alloc, World.size_setCell, World.size_drew]); omega)); intro _ _)); (try have h_w3_0 : w3.heap.size < w2.heap.size := by omega); (try (refine bcUse (n := w3.heap.size) hb ?_ ?_; (focus ((try simp only [World.size_alloc, World.size_setCell, World.size_drew]); omega)); intro _ _)); (try have h_w3_1 : w3.heap.size + 1 < w2.heap.size := by omega); (try (refine bcUse (n := w3.heap.size + 1) hb ?_ ?_; (focus ((try simp only [World.size_alloc, World.size_setCell, World.size_drew]); omega)); intro _ _)); (try have h_w3_2 : w3.heap.size + 2 < w2.heap.size := by omega); (try (refine bcUse (n := w3.heap.size + 2) hb ?_ ?_; (focus ((try simp only [World.size_alloc, World.size_setCell, World.size_drew]); omega)); intro _ _)); (try have h_w4_0 : w4.heap.size < w2.heap.size := by omega); (try (refine bcUse (n := w4.heap.size) hb ?_ ?_; (focus ((try simp only [World.size_alloc, World.size_setCell, World.size_drew]); omega)); intro _ _)); (try have h_w4_1 : w4.heap.size + 1 < w2.heap.size := by omega); (try (refine bcUse (n := w4.heap.size + 1) hb ?_ ?_; (focus ((try simp only [World.size_alloc, World.size_setCell, World.size_drew]); omega)); intro _ _)); (try have h_w4_2 : w4.heap.size + 2 < w2.heap.size := by omega); (try (refine bcUse (n := w4.heap.size + 2) hb ?_ ?_; (focus ((try simp only [World.size_alloc, World.size_setCell, World.size_drew]); omega)); intro _ _)); (try have h_w5_0 : w5.heap.size < w2.heap.size := by omega); (try (refine bcUse (n := w5.heap.size) hb ?_ ?_; (focus ((try simp only [World.size_alloc, World.size_setCell, World.size_drew]); omega)); intro _ _)); (try have h_w5_1 : w5.heap.size + 1 < w2.heap.size := by omega); (try (refine bcUse (n := w5.heap.size + 1) hb ?_ ?_; (focus ((try simp only [World.size_alloc, World.size_setCell, World.size_drew]); omega)); intro _ _)); (try have h_w5_2 : w5.heap.size + 2 < w2.heap.size := by omega); (try (refine bcUse (n := w5.heap.size + 2) hb ?_ ?_; (focus ((try simp only [World.size_alloc, World.size_setCell, World.size_drew]); omega)); intro _ _))))
  refine wp_loop_rounds 1 ?_; rw [rounds_succ]
  go_wp2_with (go_at_call 17; refine (c_none 6 _).mono ?_; rintro e w3 ⟨rfl, hb⟩; have hz := hb.size; (try simp only [World.size_alloc, World.size_setCell, World.size_drew] at hz); (try have h_w2_0 : w2.heap.size < w3.heap.size := by omega); (try (refine bcUse (n := w2.heap.size) hb ?_ ?_; (focus ((try simp only [World.size_alloc, World.size_setCell, World.size_drew]); omega)); intro _ _)))
  go_ret
  refine ⟨rfl, ?_⟩
  (repeat' (first | (with_reducible exact Below.refl _ _) | (with_reducible assumption) | (with_reducible refine Below.call ?_ ?_ (by with_reducible assumption)) | (with_reducible refine Below.alloc ?_ ?_ _) | (with_reducible refine Below.drew ?_) | (with_reducible refine Below.setCell ?_ ?_ _) | (with_reducible exact Nat.le_refl _) | omega | (simp only [World.size_alloc, World.size_setCell, World.size_drew] at *; omega)))

theorem walk (a : Option Addr) (len cap : Nat) (l : List Ex) (w : World) (hlen : l.length = len) (hlc : len ≤ cap) (hm : cap ≤ maxLen) (hs : ExSlice w a l) :
    Calls Try.prog 3 #[.slice a len cap] w fun e w' => e = .returned (.bool true) ∧ Below w.heap.size w w' := by
  subst hlen
  unfold maxLen at hm
  by_cases h0 : l.length = 0
  · rw [h0]; exact walk_nil a cap w
  · rcases hs with rfl | ⟨b, off, rfl, hb, hrow⟩
    · simp at h0
    · exact walk_link b off cap l w hlc (by omega) (by omega) hb hrow

set_option maxRecDepth 100000 in
theorem lifted (os : Os) (started : os.Started) (H : Type) (enc : TypeId × Value → H) :
    ReturnsInHanded {} Try.checked os 3 .any (Rows.linkOffsetsSpec.pre6 enc Try.prog Try.f3 Rows.linkOffsetsRow.domain false) (Rows.linkOffsetsSpec.post enc Try.prog Try.f3 false true false false) := by
  refine returnsInHanded_of_change (C := Try.checked) own started (by kernel_rfl) Try.func3
    (ChangeSpec.witness6 (enc := enc) (C := Try.checked) false ⟨#[], #[.slice none 0 0], []⟩ 8 (by kernel_rfl) (by kernel_rfl) (by kernel_rfl) (by kernel_rfl)) ?_
  intro W base args ds gs before hval0 hW hcnd _
  have hval : ∀ (j : Nat) t v, Try.f3.params[j]? = some t → args[j]? = some v → Value.okWide Try.prog W .any base t v := hval0
  have hW' := hW
  obtain ⟨p, q, hA0, hV, rfl, hfz, hnd⟩ := hW
  have hA : DataW.TrodAll enc Try.prog W 0 (fun _ => true) true Try.f3.params.toList args.toList ds p := hA0
  rw [Try.params3] at hA hval
  obtain ⟨v0, vs0, d0, ds0, p0, q0, hargs, rfl, rfl, h0, r0⟩ := trodAll_cons hA
  obtain ⟨rfl, rfl, rfl⟩ := trodAll_nil r0
  obtain rfl : args = #[v0] := by cases args; simp_all
  obtain ⟨rfl, rfl⟩ := trodVars_none hV
  obtain ⟨a0, len0, cap0, rfl⟩ := okWide_slice Try.underlying22 (hval 0 22 v0 rfl rfl)
  have k0 := h0
  have lt0 : ∀ x ∈ p0, x.block < W.heap.size := by obtain ⟨m, hm⟩ := k0; exact DataW.trod_lt m _ _ _ hm
  obtain ⟨l0, e0, e1, e2, s0, _⟩ := open_ex h0
  clear hA0 hval0
  refine (walk a0 len0 cap0 l0 W e0 e1 e2 s0).mono fun e W' ⟨he, bel⟩ => ?_
  subst he
  exact ⟨_, rfl, _, _, _, [], _, [], hW', trodAll_mk1 (shut_bool Try.underlying4 _), (trodAll_cons_mk (Below.trod laidOut (by kernel_rfl) (of_decide_eq_true (by kernel_rfl)) k0 bel lt0) trodAll_mk0), rfl, bel.frame _, fun h => by cases h⟩

theorem over : Rows.linkOffsetsRow.holds Try.pinned (OpenSpec.ofChange Rows.linkOffsetsSpec) :=
  OpenClaim.holds_of_wide 3 Try.f3 rfl rfl rfl rfl rfl rfl rfl ⟨rfl, rfl, rfl, rfl, rfl⟩ rfl rfl rfl rfl rfl (by kernel_rfl) Try.func3 (by kernel_rfl)
    (of_decide_eq_true (by kernel_rfl)) (by unfold Func.isWrapper; first | (rw [if_pos (by decide +kernel)]; kernel_rfl) | (rw [if_neg (by decide +kernel)]; exact ⟨rfl, rfl⟩))
    (fun os started H enc _ => lifted os started H enc)
end Go.Proofs.Ytpjgoojaahbglaa.linkOffsets
namespace Go.Proofs.Ytpjgoojaahbglaa
theorem linkOffsets_holds : Rows.LinkOffsetsSaid := linkOffsets.over
end Go.Proofs.Ytpjgoojaahbglaa
