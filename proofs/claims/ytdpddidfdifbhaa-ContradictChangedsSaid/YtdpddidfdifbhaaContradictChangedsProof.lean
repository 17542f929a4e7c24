/- Proved here: the law ContradictChangeds answers true for every input and leaves its arguments as they were. No condition. -/
import Derived.Test.YtdpddidfdifbhaaWalkChR
import Derived.Test.YtdpddidfdifbhaaRows
import Derived.ProofKit
import Derived.OpenShut
import Derived.ShutString
import Derived.ChangeOld
import Derived.Lib.SmallJoins
import Derived.SizedLaws
set_option linter.unusedVariables false
set_option linter.unusedSimpArgs false
namespace Go.Proofs.Ytdpddidfdifbhaa.contradictChangeds
open Go.ChangeShapes Go.WideShapes Go.ChangeAt Go.RowKit Go.Joins
open Go.ChangeMaps (open_string shut_string)

theorem own : ownKnob Try.prog.godebug = none := by kernel_rfl
theorem cells_bd4 : Try.prog.cellsOf 47 = 4 := by kernel_rfl
theorem laidOut : laidOutB Try.prog = true := by kernel_rfl

set_option maxRecDepth 100000 in
theorem lifted (os : Os) (started : os.Started) (H : Type) (enc : TypeId × Value → H) :
    ReturnsInHanded {} Try.checked os 11 .any (Rows.contradictChangedsSpec.pre6 enc Try.prog Try.f11 Rows.contradictChangedsRow.domain false) (Rows.contradictChangedsSpec.post enc Try.prog Try.f11 false true false false) := by
  refine returnsInHanded_of_change_sized (C := Try.checked) own started (by kernel_rfl) Try.func11
    (ChangeSpec.witness6 (enc := enc) (C := Try.checked) false ⟨#[], #[.int .i64 0, .slice none 0 0, .agg #[.int .i64 0, .int .i64 0, .int .i64 0, .int .i64 0]], []⟩ 8 (by kernel_rfl) (by kernel_rfl) (by kernel_rfl) (by kernel_rfl)) ?_
  intro W base args ds gs before hval0 hW hcnd hsz0 _
  have hsz : (DataW.weightsEach Try.prog (Try.f11.params.toList ++ Rows.contradictChangedsSpec.plain.varTypes Try.prog) (ds ++ gs)).all (· ≤ reachBytes) = true := hsz0
  have hval : ∀ (j : Nat) t v, Try.f11.params[j]? = some t → args[j]? = some v → Value.okWide Try.prog W .any base t v := hval0
  have hW' := hW
  obtain ⟨p, q, hA0, hV, rfl, hfz, hnd⟩ := hW
  have hA : DataW.TrodAll enc Try.prog W 0 (fun _ => true) true Try.f11.params.toList args.toList ds p := hA0
  rw [Try.params11] at hA hval hsz
  obtain ⟨v0, vs0, d0, ds0, p0, q0, hargs, rfl, rfl, h0, r0⟩ := trodAll_cons hA
  obtain ⟨v1, vs1, d1, ds1, p1, q1, rfl, rfl, rfl, h1, r1⟩ := trodAll_cons r0
  obtain ⟨v2, vs2, d2, ds2, p2, q2, rfl, rfl, rfl, h2, r2⟩ := trodAll_cons r1
  obtain ⟨rfl, rfl, rfl⟩ := trodAll_nil r2
  obtain rfl : args = #[v0, v1, v2] := by cases args; simp_all
  obtain ⟨rfl, rfl⟩ := trodVars_none hV
  have k0 := h0
  have lt0 : ∀ x ∈ p0, x.block < W.heap.size := by obtain ⟨m, hm⟩ := k0; exact DataW.trod_lt m _ _ _ hm
  have k1 := h1
  have lt1 : ∀ x ∈ p1, x.block < W.heap.size := by obtain ⟨m, hm⟩ := k1; exact DataW.trod_lt m _ _ _ hm
  have k2 := h2
  have lt2 : ∀ x ∈ p2, x.block < W.heap.size := by obtain ⟨m, hm⟩ := k2; exact DataW.trod_lt m _ _ _ hm
  obtain ⟨a0, rfl, rfl, rfl, w0⟩ := open_int Try.underlying3 (hval 0 3 v0 rfl rfl) h0
  have wf_0 := wf64_of w0
  obtain ⟨a1, len1, cap1, rfl⟩ := okWide_slice Try.underlying41 (hval 1 41 v1 rfl rfl)
  obtain ⟨l1, e0_1, e1_1, e2_1, s_1, wf_1⟩ := open_Bd h1
  obtain ⟨hnil1, hd1⟩ := open_BdR h1
  obtain ⟨c2a, c2b, c2c, c2d, y2a, y2b, y2c, y2d, m2, rfl, rfl, rfl, hy2a, hy2b, hy2c, hy2d⟩ := open_agg4 Try.underlying47 (by kernel_rfl) cells_bd4 (hval 2 47 v2 rfl rfl) h2
  obtain ⟨i2, e2a, _, w2a⟩ := DataW.trod_int Try.underlying3 hy2a
  obtain ⟨j2, e2b, _, w2b⟩ := DataW.trod_int Try.underlying3 hy2b
  obtain ⟨lo2, e2c, _, w2c⟩ := DataW.trod_int Try.underlying3 hy2c
  obtain ⟨hi2, e2d, _, w2d⟩ := DataW.trod_int Try.underlying3 hy2d
  simp at e2a e2b e2c e2d
  subst e2a e2b e2c e2d
  have hreach : (len1 + 1) * 32 ≤ 140737488355328 := by
    rcases hd1 with h0 | ⟨E, S, rfl, hle⟩
    · omega
    · have hz := sized_slice hsz (j := 1) (t := 41) (e := 47) rfl rfl Try.underlying41
      rw [bytes_Bd] at hz
      have h2 : len1 * 32 ≤ (E.length + S.length) * 32 := Nat.mul_le_mul_right 32 hle
      have h3 : reachBytes = 140737488351232 := by decide
      omega
  clear hA0 hval0
  refine (walk_chl a0 a1 len1 cap1 l1 ⟨i2, j2, lo2, hi2⟩ W e0_1 e1_1 s_1 hreach hnil1).mono fun e W' ⟨he, bel⟩ => ?_
  subst he
  exact ⟨_, rfl, _, _, _, [], _, [], hW', trodAll_mk1 (shut_bool Try.underlying4 _), (trodAll_cons_mk (Below.trod laidOut (by kernel_rfl) (of_decide_eq_true (by kernel_rfl)) k0 bel lt0) (trodAll_cons_mk (Below.trod laidOut (by kernel_rfl) (of_decide_eq_true (by kernel_rfl)) k1 bel lt1) (trodAll_cons_mk (Below.trod laidOut (by kernel_rfl) (of_decide_eq_true (by kernel_rfl)) k2 bel lt2) trodAll_mk0))), rfl, bel.frame _, fun h => by cases h⟩

theorem over : Rows.contradictChangedsRow.holds Try.pinned (OpenSpec.ofChange Rows.contradictChangedsSpec) :=
  OpenClaim.holds_of_wide 11 Try.f11 rfl rfl rfl rfl rfl rfl rfl ⟨rfl, rfl, rfl, rfl, rfl⟩ rfl rfl rfl rfl rfl (by kernel_rfl) Try.func11 (by kernel_rfl)
    (of_decide_eq_true (by kernel_rfl)) (by unfold Func.isWrapper; first | (rw [if_pos (by decide +kernel)]; kernel_rfl) | (rw [if_neg (by decide +kernel)]; exact ⟨rfl, rfl⟩))
    (fun os started H enc _ => lifted os started H enc)
end Go.Proofs.Ytdpddidfdifbhaa.contradictChangeds
namespace Go.Proofs.Ytdpddidfdifbhaa
theorem contradictChangeds_holds : Rows.ContradictChangedsSaid := contradictChangeds.over
end Go.Proofs.Ytdpddidfdifbhaa
