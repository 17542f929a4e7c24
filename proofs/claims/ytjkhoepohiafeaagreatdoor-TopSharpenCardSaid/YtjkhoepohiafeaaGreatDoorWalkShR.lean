/- Contracts of sharpen.Rise; the walk through the law SharpenRises. -/
import Derived.Test.YtjkhoepohiafeaaGreatDoorShA
import Derived.Test.YtjkhoepohiafeaaGreatDoorRsA
set_option linter.unusedVariables false
set_option linter.unusedSimpArgs false
namespace Go.Proofs.YtjkhoepohiafeaaGreatDoor
open Go.RowKit
theorem fdR_inS {lon lat d b : Int} {r : Bool} (h : (fdR lon lat d b r).er = 0) : plB lon lat = true ∧ instB (fdR lon lat d b r).lo = true ∧ instB (fdR lon lat d b r).hi = true := by
  unfold fdR at *
  by_cases h1 : rsE lon lat b ≠ 0
  · rw [if_pos h1] at h; exact absurd h h1
  · rw [if_neg h1] at h ⊢
    have hp := (rsE_ok (Decidable.not_not.1 h1)).1
    by_cases hd : d < -4000000 ∨ 4000000 ≤ d
    · rw [if_pos hd] at h; cases h
    · rw [if_neg hd] at h ⊢
      obtain ⟨-, f⟩ := rfR_ok lon lat d b (sgn_or r)
      obtain ⟨f1, f2, f3, -, -, -⟩ := f h
      exact ⟨hp, inst_mk (by omega) (by omega), inst_mk (by omega) (by omega)⟩
theorem call_sr1 (args : Array Value) (w : World) : (callFunc 29 args).run Tryz.prog w = .ok (.enter 29 args) w := by
  go_simp
/-- What the closure of Rise asks of a world. -/
structure SrW (lon lat b sg : Int) (b1 b2 b3 : Nat) (w : World) : Prop where
  t : Tab w
  l : LTab w
  l1 : b1 < w.heap.size
  l2 : b2 < w.heap.size
  l3 : b3 < w.heap.size
  c1 : w.cell? ⟨b1, 0, none⟩ = some (.int .i64 lon)
  c1' : w.cell? ⟨b1, 1, none⟩ = some (.int .i64 lat)
  c2 : w.cell? ⟨b2, 0, none⟩ = some (.int .i64 b)
  c3 : w.cell? ⟨b3, 0, none⟩ = some (.int .i64 sg)
theorem SrW.below {lon lat b sg : Int} {b1 b2 b3 : Nat} {w w' : World} (h : SrW lon lat b sg b1 b2 b3 w) (hb : Below w.heap.size w w') : SrW lon lat b sg b1 b2 b3 w' :=
  ⟨h.t.below hb, h.l.below hb, Nat.lt_of_lt_of_le h.l1 hb.size, Nat.lt_of_lt_of_le h.l2 hb.size, Nat.lt_of_lt_of_le h.l3 hb.size, (hb.cell (p := ⟨b1, _, none⟩) h.l1).trans h.c1, (hb.cell (p := ⟨b1, _, none⟩) h.l1).trans h.c1', (hb.cell (p := ⟨b2, _, none⟩) h.l2).trans h.c2, (hb.cell (p := ⟨b3, _, none⟩) h.l3).trans h.c3⟩
theorem kept_sr (lon lat b sg : Int) (b1 b2 b3 : Nat) : Kept (SrW lon lat b sg b1 b2 b3) := fun _ _ h hb => h.below hb
theorem c_sr1 {lon lat b sg : Int} {b1 b2 b3 : Nat} (t : Int) (w : World) (h : SrW lon lat b sg b1 b2 b3 w) (er : rsE lon lat b = 0) (ht : instB t = true) (hs : sg = 1 ∨ sg = -1) :
    Calls Tryz.prog 29 #[.int .i64 t, .pointer (some ⟨b1, 0, none⟩), .pointer (some ⟨b2, 0, none⟩), .pointer (some ⟨b3, 0, none⟩)] w fun e w' => e = .returned (.int .i64 (rsS lon lat b sg t)) ∧ Below w.heap.size w w' := by
  obtain ⟨hT, hL, l1, l2, l3, c1, c1', c2, c3⟩ := h
  have HA := Lib.hid (fun w1 h1 h2 => c_Above lon lat t b w1 h1 h2 er ht)
  have hv := rsS_or lon lat b t hs
  have ev : IntKind.i64.wrap (sg * rsV lon lat t b) = rsS lon lat b sg t := by
    have e : sg * rsV lon lat t b = rsS lon lat b sg t := rfl
    rw [e]
    exact IntWalk.i64_in _ (by omega)
  have HT := Lib.hid hT
  have HLT := Lib.hid hL
  clear hT hL er ht hs hv
  generalize rsS lon lat b sg t = r at *
  generalize rsV lon lat t b = v at *
  have hgen := sgen; have hgen2 := sgen2; have hgen3 := sgen3; go_enter Tryz.func29, Tryz.ntmps29
  go_wp2_with (go_at_call 30; (with_reducible refine (HA.out _ (HT.out.below (by exact belz)) (HLT.out.below (by exact belz))).mono ?_); rintro e w1 ⟨rfl, hb⟩; have hz := hb.size; (try simp only [szA, szS, szD, szN] at hz); (try (refine bcB (n := w.heap.size) hb ?_; intro h_w_0 e_w_0 d_w_0 _ _)); (try (refine bcB (n := b1) hb ?_; intro h_bb1_0 e_bb1_0 d_bb1_0 _ _)); (try (refine bcB (n := b2) hb ?_; intro h_bb2_0 e_bb2_0 d_bb2_0 _ _)); (try (refine bcB (n := b3) hb ?_; intro h_bb3_0 e_bb3_0 d_bb3_0 _ _)))
  go_ret
  refine ⟨rfl, ?_⟩
  exact belz
theorem c_narrow3 (F : Nat) (c c2 c3 : Value) (s : Int → Int) (W : World → Prop) (lo hi width : Int) (w : World) (hW : Kept W) (hw : W w) (h1 : -1000000000000000000 ≤ lo) (h2 : lo ≤ hi) (h3 : hi ≤ 1000000000000000000) (hF : ∀ args w, (callFunc F args).run Tryz.prog w = .ok (.enter F args) w) (hwd : 1 ≤ width) (hwd2 : width ≤ 9223372036854775807)
    (hf : ∀ w1 x, W w1 → lo ≤ x → x ≤ hi → Calls Tryz.prog F #[.int .i64 x, c, c2, c3] w1 fun e w' => e = .returned (.int .i64 (s x)) ∧ Below w1.heap.size w1 w') :
    Calls Tryz.prog 18 #[.agg #[.int .i64 lo, .int .i64 hi], .int .i64 width, .func (.func F) #[] #[c, c2, c3]] w fun e w' => e = .returned (shV (narF s width 62 lo hi)) ∧ Below w.heap.size w w' := by
  have HN := Lib.hid (fun w1 (hw : W w1) => c_NarrowT F c c2 c3 s W lo hi width w1 hW hw h1 h2 h3 hF hwd hwd2 hf)
  have HW := Lib.hid (show ∀ w1 w2, W w1 → Below w1.heap.size w1 w2 → W w2 from hW)
  have HWW := Lib.hid hw
  have f1 : decide (width < 1) = false := decide_eq_false (by omega)
  clear hf hW hw hF
  generalize narF s width 62 lo hi = R at *
  cases hR : R.is with
  | true =>
    have e : shV R = .tuple #[.agg #[.int .i64 R.lo, .int .i64 R.hi], .int .i64 0] := by unfold shV; rw [if_pos hR]
    rw [e]
    clear e
    have hgen := sgen; have hgen2 := sgen2; have hgen3 := sgen3; go_enter Tryz.func18, Tryz.ntmps18
    go_wp2_with (go_at_call 28; (refine (HN.out _ (HW.out _ _ HWW.out (by exact belz))).mono ?_); rintro e w1 ⟨rfl, hb⟩; have hz := hb.size; (try simp only [szA, szS, szD, szN] at hz); (try (refine bcB (n := w.heap.size) hb ?_; intro h_w_0 e_w_0 d_w_0 _ _)); (try (refine bcB (n := w.heap.size + 1) hb ?_; intro h_w_1 e_w_1 d_w_1 _ _)))
    refine bodyPost_ret (v := .tuple #[.agg #[.int .i64 R.lo, .int .i64 R.hi], .int .i64 0]) (by simp only [results, Tryz.results18]; go_simp) rfl ⟨rfl, ?_⟩
    exact belz
  | false =>
    have e : shV R = .tuple #[.agg #[.int .i64 0, .int .i64 0], .int .i64 11] := by unfold shV; rw [if_neg (by rw [hR]; decide)]
    rw [e]
    clear e
    have hgen := sgen; have hgen2 := sgen2; have hgen3 := sgen3; go_enter Tryz.func18, Tryz.ntmps18
    go_wp2_with (go_at_call 28; (refine (HN.out _ (HW.out _ _ HWW.out (by exact belz))).mono ?_); rintro e w1 ⟨rfl, hb⟩; have hz := hb.size; (try simp only [szA, szS, szD, szN] at hz); (try (refine bcB (n := w.heap.size) hb ?_; intro h_w_0 e_w_0 d_w_0 _ _)); (try (refine bcB (n := w.heap.size + 1) hb ?_; intro h_w_1 e_w_1 d_w_1 _ _)))
    refine bodyPost_ret (v := .tuple #[.agg #[.int .i64 0, .int .i64 0], .int .i64 11]) (by simp only [results, Tryz.results18]; go_simp) rfl ⟨rfl, ?_⟩
    exact belz
/-- What Rise answers: lo, hi, error. -/
def srN (A : RfR) (wd : Int) (N : NarR) : RfR := if A.er ≠ 0 then ⟨0, 0, A.er⟩ else if wd < 1 then ⟨0, 0, 1⟩ else if N.is = true then ⟨N.lo, N.hi, 0⟩ else ⟨0, 0, 11⟩
def srR (lon lat d b : Int) (r : Bool) (wd : Int) : RfR := srN (fdR lon lat d b r) wd (narF (rsS lon lat b (sgn r)) wd 62 (fdR lon lat d b r).lo (fdR lon lat d b r).hi)
set_option maxHeartbeats 2000000 in
theorem c_Rise (lon lat d b : Int) (r : Bool) (wd : Int) (w : World) (hT : Tab w) (hL : LTab w) (hwd2 : wd ≤ 9223372036854775807) :
    Calls Tryz.prog 12 #[.agg #[.int .i64 lon, .int .i64 lat], .int .i64 d, .int .i64 b, .bool r, .int .i64 wd] w fun e w' => e = .returned (.tuple #[.agg #[.int .i64 (srR lon lat d b r wd).lo, .int .i64 (srR lon lat d b r wd).hi], .int .i64 (srR lon lat d b r wd).er]) ∧ Below w.heap.size w w' := by
  have HA := Lib.hid (fun w1 h1 h2 => c_FindA lon lat d b r w1 h1 h2)
  have hin := fdR_inS (lon := lon) (lat := lat) (d := d) (b := b) (r := r)
  have hbd := fdR_bd lon lat d b r
  have hre : (fdR lon lat d b r).er = 0 → rsE lon lat b = 0 := by
    intro h
    unfold fdR at h
    by_cases h1 : rsE lon lat b ≠ 0
    · rw [if_pos h1] at h; exact absurd h h1
    · exact Decidable.not_not.1 h1
  have eS : srR lon lat d b r wd = srN (fdR lon lat d b r) wd (narF (rsS lon lat b (sgn r)) wd 62 (fdR lon lat d b r).lo (fdR lon lat d b r).hi) := rfl
  rw [eS]
  clear eS
  generalize fdR lon lat d b r = R at *
  obtain ⟨r0, r1, er⟩ := R
  simp only at *
  obtain ⟨x1, x2, x3, x4⟩ := hbd
  have HT := Lib.hid hT
  have HLT := Lib.hid hL
  clear hT hL
  by_cases c1 : er = 0
  · subst c1
    have hr := hre rfl
    obtain ⟨hp, hi0, hi1⟩ := hin rfl
    have hins : ∀ x, r0 ≤ x → x ≤ r1 → instB x = true := by
      intro x h1 h2
      unfold instB at *
      have := of_decide_eq_true hi0
      have := of_decide_eq_true hi1
      exact decide_eq_true (by omega)
    by_cases c2 : wd < 1
    · have e : srN ⟨r0, r1, 0⟩ wd (narF (rsS lon lat b (sgn r)) wd 62 r0 r1) = ⟨0, 0, 1⟩ := by unfold srN; rw [if_neg (show ¬ (0 : Int) ≠ 0 by decide), if_pos c2]
      rw [e]
      have HN := Lib.hid (fun f w1 => c_narrow_arg f r0 r1 wd w1 c2)
      clear e hin hre x4 hins hp hi0 hi1 hr
      cases r with
      | true =>
        have hgen := sgen; have hgen2 := sgen2; have hgen3 := sgen3; go_enter Tryz.func12, Tryz.ntmps12
        go_wp2_with (first | (go_at_call 11; (with_reducible refine (HA.out _ (HT.out.below (by exact belz)) (HLT.out.below (by exact belz))).mono ?_); rintro e w1 ⟨rfl, hb⟩; have hz := hb.size; (try simp only [szA, szS, szD, szN] at hz); (try (refine bcB (n := w.heap.size) hb ?_; intro h_w_0 e_w_0 d_w_0 _ _)); (try (refine bcB (n := w.heap.size + 1) hb ?_; intro h_w_1 e_w_1 d_w_1 _ _)); (try (refine bcB (n := w.heap.size + 1 + 1) hb ?_; intro h_w_2 e_w_2 d_w_2 _ _))) | (go_at_call 18; (refine (HN.out _ _).mono ?_); rintro e w2 ⟨rfl, hb⟩; have hz := hb.size; (try simp only [szA, szS, szD, szN] at hz); (try (refine bcB (n := w.heap.size) hb ?_; intro h_w_0 e_w_0 d_w_0 _ _)); (try (refine bcB (n := w.heap.size + 1) hb ?_; intro h_w_1 e_w_1 d_w_1 _ _)); (try (refine bcB (n := w.heap.size + 1 + 1) hb ?_; intro h_w_2 e_w_2 d_w_2 _ _)); (try (refine bcB (n := w1.heap.size) hb ?_; intro h_w1_0 e_w1_0 d_w1_0 _ _)); (try (refine bcB (n := w1.heap.size + 1) hb ?_; intro h_w1_1 e_w1_1 d_w1_1 _ _))))
        refine bodyPost_ret (v := .tuple #[.agg #[.int .i64 0, .int .i64 0], .int .i64 1]) (by simp only [results, Tryz.results12]; go_simp) rfl ⟨rfl, ?_⟩
        exact belz
      | false =>
        have hgen := sgen; have hgen2 := sgen2; have hgen3 := sgen3; go_enter Tryz.func12, Tryz.ntmps12
        go_wp2_with (first | (go_at_call 11; (with_reducible refine (HA.out _ (HT.out.below (by exact belz)) (HLT.out.below (by exact belz))).mono ?_); rintro e w1 ⟨rfl, hb⟩; have hz := hb.size; (try simp only [szA, szS, szD, szN] at hz); (try (refine bcB (n := w.heap.size) hb ?_; intro h_w_0 e_w_0 d_w_0 _ _)); (try (refine bcB (n := w.heap.size + 1) hb ?_; intro h_w_1 e_w_1 d_w_1 _ _)); (try (refine bcB (n := w.heap.size + 1 + 1) hb ?_; intro h_w_2 e_w_2 d_w_2 _ _))) | (go_at_call 18; (refine (HN.out _ _).mono ?_); rintro e w2 ⟨rfl, hb⟩; have hz := hb.size; (try simp only [szA, szS, szD, szN] at hz); (try (refine bcB (n := w.heap.size) hb ?_; intro h_w_0 e_w_0 d_w_0 _ _)); (try (refine bcB (n := w.heap.size + 1) hb ?_; intro h_w_1 e_w_1 d_w_1 _ _)); (try (refine bcB (n := w.heap.size + 1 + 1) hb ?_; intro h_w_2 e_w_2 d_w_2 _ _)); (try (refine bcB (n := w1.heap.size) hb ?_; intro h_w1_0 e_w1_0 d_w1_0 _ _)); (try (refine bcB (n := w1.heap.size + 1) hb ?_; intro h_w1_1 e_w1_1 d_w1_1 _ _))))
        refine bodyPost_ret (v := .tuple #[.agg #[.int .i64 0, .int .i64 0], .int .i64 1]) (by simp only [results, Tryz.results12]; go_simp) rfl ⟨rfl, ?_⟩
        exact belz
    · have e : srN ⟨r0, r1, 0⟩ wd (narF (rsS lon lat b (sgn r)) wd 62 r0 r1) = if (narF (rsS lon lat b (sgn r)) wd 62 r0 r1).is = true then ⟨(narF (rsS lon lat b (sgn r)) wd 62 r0 r1).lo, (narF (rsS lon lat b (sgn r)) wd 62 r0 r1).hi, 0⟩ else ⟨0, 0, 11⟩ := by unfold srN; rw [if_neg (show ¬ (0 : Int) ≠ 0 by decide), if_neg c2]
      rw [e]
      have HN := Lib.hid (fun b1 b2 b3 w1 (hw : SrW lon lat b (sgn r) b1 b2 b3 w1) => c_narrow3 29 _ _ _ (rsS lon lat b (sgn r)) _ r0 r1 wd w1 (kept_sr lon lat b (sgn r) b1 b2 b3) hw (by omega) x2 (by omega) call_sr1 (by omega) hwd2 (fun w2 x hw2 h1 h2 => c_sr1 x w2 hw2 hr (hins x h1 h2) (sgn_or r)))
      generalize narF (rsS lon lat b (sgn r)) wd 62 r0 r1 = N at *
      clear e hin hre x4 hins hp hi0 hi1 hr
      obtain ⟨n0, n1, ni⟩ := N
      simp only
      cases ni with
      | true =>
        have eN : shV ⟨n0, n1, true⟩ = .tuple #[.agg #[.int .i64 n0, .int .i64 n1], .int .i64 0] := rfl
        rw [eN] at HN
        rw [if_pos rfl]
        cases r with
        | true =>
          rw [show sgn true = 1 from rfl] at HN
          have hgen := sgen; have hgen2 := sgen2; have hgen3 := sgen3; go_enter Tryz.func12, Tryz.ntmps12
          go_wp2_with (first | (go_at_call 11; (with_reducible refine (HA.out _ (HT.out.below (by exact belz)) (HLT.out.below (by exact belz))).mono ?_); rintro e w1 ⟨rfl, hb⟩; have hz := hb.size; (try simp only [szA, szS, szD, szN] at hz); (try (refine bcB (n := w.heap.size) hb ?_; intro h_w_0 e_w_0 d_w_0 _ _)); (try (refine bcB (n := w.heap.size + 1) hb ?_; intro h_w_1 e_w_1 d_w_1 _ _)); (try (refine bcB (n := w.heap.size + 1 + 1) hb ?_; intro h_w_2 e_w_2 d_w_2 _ _))) | (go_at_call 18; (with_reducible refine (HN.out _ _ _ _ (by constructor <;> (first | exact HT.out.below (by exact belz) | exact HLT.out.below (by exact belz) | (go_simp; done) | exact belz))).mono ?_); rintro e w2 ⟨rfl, hb⟩; have hz := hb.size; (try simp only [szA, szS, szD, szN] at hz); (try (refine bcB (n := w.heap.size) hb ?_; intro h_w_0 e_w_0 d_w_0 _ _)); (try (refine bcB (n := w.heap.size + 1) hb ?_; intro h_w_1 e_w_1 d_w_1 _ _)); (try (refine bcB (n := w.heap.size + 1 + 1) hb ?_; intro h_w_2 e_w_2 d_w_2 _ _)); (try (refine bcB (n := w1.heap.size) hb ?_; intro h_w1_0 e_w1_0 d_w1_0 _ _)); (try (refine bcB (n := w1.heap.size + 1) hb ?_; intro h_w1_1 e_w1_1 d_w1_1 _ _))))
          refine bodyPost_ret (v := .tuple #[.agg #[.int .i64 n0, .int .i64 n1], .int .i64 0]) (by simp only [results, Tryz.results12]; go_simp) rfl ⟨rfl, ?_⟩
          exact belz
        | false =>
          rw [show sgn false = -1 from rfl] at HN
          have hgen := sgen; have hgen2 := sgen2; have hgen3 := sgen3; go_enter Tryz.func12, Tryz.ntmps12
          go_wp2_with (first | (go_at_call 11; (with_reducible refine (HA.out _ (HT.out.below (by exact belz)) (HLT.out.below (by exact belz))).mono ?_); rintro e w1 ⟨rfl, hb⟩; have hz := hb.size; (try simp only [szA, szS, szD, szN] at hz); (try (refine bcB (n := w.heap.size) hb ?_; intro h_w_0 e_w_0 d_w_0 _ _)); (try (refine bcB (n := w.heap.size + 1) hb ?_; intro h_w_1 e_w_1 d_w_1 _ _)); (try (refine bcB (n := w.heap.size + 1 + 1) hb ?_; intro h_w_2 e_w_2 d_w_2 _ _))) | (go_at_call 18; (with_reducible refine (HN.out _ _ _ _ (by constructor <;> (first | exact HT.out.below (by exact belz) | exact HLT.out.below (by exact belz) | (go_simp; done) | exact belz))).mono ?_); rintro e w2 ⟨rfl, hb⟩; have hz := hb.size; (try simp only [szA, szS, szD, szN] at hz); (try (refine bcB (n := w.heap.size) hb ?_; intro h_w_0 e_w_0 d_w_0 _ _)); (try (refine bcB (n := w.heap.size + 1) hb ?_; intro h_w_1 e_w_1 d_w_1 _ _)); (try (refine bcB (n := w.heap.size + 1 + 1) hb ?_; intro h_w_2 e_w_2 d_w_2 _ _)); (try (refine bcB (n := w1.heap.size) hb ?_; intro h_w1_0 e_w1_0 d_w1_0 _ _)); (try (refine bcB (n := w1.heap.size + 1) hb ?_; intro h_w1_1 e_w1_1 d_w1_1 _ _))))
          refine bodyPost_ret (v := .tuple #[.agg #[.int .i64 n0, .int .i64 n1], .int .i64 0]) (by simp only [results, Tryz.results12]; go_simp) rfl ⟨rfl, ?_⟩
          exact belz
      | false =>
        have eN : shV ⟨n0, n1, false⟩ = .tuple #[.agg #[.int .i64 0, .int .i64 0], .int .i64 11] := rfl
        rw [eN] at HN
        rw [if_neg (by decide)]
        cases r with
        | true =>
          rw [show sgn true = 1 from rfl] at HN
          have hgen := sgen; have hgen2 := sgen2; have hgen3 := sgen3; go_enter Tryz.func12, Tryz.ntmps12
          go_wp2_with (first | (go_at_call 11; (with_reducible refine (HA.out _ (HT.out.below (by exact belz)) (HLT.out.below (by exact belz))).mono ?_); rintro e w1 ⟨rfl, hb⟩; have hz := hb.size; (try simp only [szA, szS, szD, szN] at hz); (try (refine bcB (n := w.heap.size) hb ?_; intro h_w_0 e_w_0 d_w_0 _ _)); (try (refine bcB (n := w.heap.size + 1) hb ?_; intro h_w_1 e_w_1 d_w_1 _ _)); (try (refine bcB (n := w.heap.size + 1 + 1) hb ?_; intro h_w_2 e_w_2 d_w_2 _ _))) | (go_at_call 18; (with_reducible refine (HN.out _ _ _ _ (by constructor <;> (first | exact HT.out.below (by exact belz) | exact HLT.out.below (by exact belz) | (go_simp; done) | exact belz))).mono ?_); rintro e w2 ⟨rfl, hb⟩; have hz := hb.size; (try simp only [szA, szS, szD, szN] at hz); (try (refine bcB (n := w.heap.size) hb ?_; intro h_w_0 e_w_0 d_w_0 _ _)); (try (refine bcB (n := w.heap.size + 1) hb ?_; intro h_w_1 e_w_1 d_w_1 _ _)); (try (refine bcB (n := w.heap.size + 1 + 1) hb ?_; intro h_w_2 e_w_2 d_w_2 _ _)); (try (refine bcB (n := w1.heap.size) hb ?_; intro h_w1_0 e_w1_0 d_w1_0 _ _)); (try (refine bcB (n := w1.heap.size + 1) hb ?_; intro h_w1_1 e_w1_1 d_w1_1 _ _))))
          refine bodyPost_ret (v := .tuple #[.agg #[.int .i64 0, .int .i64 0], .int .i64 11]) (by simp only [results, Tryz.results12]; go_simp) rfl ⟨rfl, ?_⟩
          exact belz
        | false =>
          rw [show sgn false = -1 from rfl] at HN
          have hgen := sgen; have hgen2 := sgen2; have hgen3 := sgen3; go_enter Tryz.func12, Tryz.ntmps12
          go_wp2_with (first | (go_at_call 11; (with_reducible refine (HA.out _ (HT.out.below (by exact belz)) (HLT.out.below (by exact belz))).mono ?_); rintro e w1 ⟨rfl, hb⟩; have hz := hb.size; (try simp only [szA, szS, szD, szN] at hz); (try (refine bcB (n := w.heap.size) hb ?_; intro h_w_0 e_w_0 d_w_0 _ _)); (try (refine bcB (n := w.heap.size + 1) hb ?_; intro h_w_1 e_w_1 d_w_1 _ _)); (try (refine bcB (n := w.heap.size + 1 + 1) hb ?_; intro h_w_2 e_w_2 d_w_2 _ _))) | (go_at_call 18; (with_reducible refine (HN.out _ _ _ _ (by constructor <;> (first | exact HT.out.below (by exact belz) | exact HLT.out.below (by exact belz) | (go_simp; done) | exact belz))).mono ?_); rintro e w2 ⟨rfl, hb⟩; have hz := hb.size; (try simp only [szA, szS, szD, szN] at hz); (try (refine bcB (n := w.heap.size) hb ?_; intro h_w_0 e_w_0 d_w_0 _ _)); (try (refine bcB (n := w.heap.size + 1) hb ?_; intro h_w_1 e_w_1 d_w_1 _ _)); (try (refine bcB (n := w.heap.size + 1 + 1) hb ?_; intro h_w_2 e_w_2 d_w_2 _ _)); (try (refine bcB (n := w1.heap.size) hb ?_; intro h_w1_0 e_w1_0 d_w1_0 _ _)); (try (refine bcB (n := w1.heap.size + 1) hb ?_; intro h_w1_1 e_w1_1 d_w1_1 _ _))))
          refine bodyPost_ret (v := .tuple #[.agg #[.int .i64 0, .int .i64 0], .int .i64 11]) (by simp only [results, Tryz.results12]; go_simp) rfl ⟨rfl, ?_⟩
          exact belz
  · have e : ∀ N, srN ⟨r0, r1, er⟩ wd N = ⟨0, 0, er⟩ := by intro N; unfold srN; rw [if_pos c1]
    rw [e]
    obtain ⟨rfl, rfl⟩ := x4 c1
    have C1 : (er == 0) = false := by simpa using c1
    have C2 : (er != 0) = true := by simpa using c1
    clear e hin hre c1
    have hgen := sgen; have hgen2 := sgen2; have hgen3 := sgen3; go_enter Tryz.func12, Tryz.ntmps12
    go_wp2_with (go_at_call 11; (with_reducible refine (HA.out _ (HT.out.below (by exact belz)) (HLT.out.below (by exact belz))).mono ?_); rintro e w1 ⟨rfl, hb⟩; have hz := hb.size; (try simp only [szA, szS, szD, szN] at hz); (try (refine bcB (n := w.heap.size) hb ?_; intro h_w_0 e_w_0 d_w_0 _ _)); (try (refine bcB (n := w.heap.size + 1) hb ?_; intro h_w_1 e_w_1 d_w_1 _ _)); (try (refine bcB (n := w.heap.size + 1 + 1) hb ?_; intro h_w_2 e_w_2 d_w_2 _ _)))
    refine bodyPost_ret (v := .tuple #[.agg #[.int .i64 0, .int .i64 0], .int .i64 er]) (by simp only [results, Tryz.results12]; go_simp) rfl ⟨rfl, ?_⟩
    exact belz
theorem narF_wide {s : Int → Int} {width lo hi : Int} (h : (narF s width 62 lo hi).is = false) : width < hi - lo := by
  by_cases q : width < hi - lo
  · exact q
  · exfalso
    unfold narF at h
    rw [if_neg q] at h
    cases h
end Go.Proofs.YtjkhoepohiafeaaGreatDoor
