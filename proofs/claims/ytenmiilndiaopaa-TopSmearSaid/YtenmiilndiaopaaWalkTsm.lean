/- The walk through the law TopSmear. -/
import Derived.Test.YtenmiilndiaopaaPlainTsm
import Derived.Test.YtenmiilndiaopaaWalkTsl
import Derived.Test.YtenmiilndiaopaaWalkAg0
import Derived.Test.YtenmiilndiaopaaWalkOsc
import Derived.Test.YtenmiilndiaopaaWalkSm
import Derived.Test.YtenmiilndiaopaaWalkLins
import Derived.Test.YtenmiilndiaopaaWalkLcnt
import Derived.Test.YtenmiilndiaopaaIxInt1
import Derived.Deep.AppendLies
import Derived.Deep.LoopGhost
import Derived.Deep.RegionHeld3
import Derived.Deep.DeepCutAuto
set_option linter.unusedVariables false
set_option linter.unusedSimpArgs false
namespace Go.Proofs.Ytenmiilndiaopaa
open Go.RowKit
theorem c_sAtT (k n : Int) (w : World) (n1 : 1 ≤ n) (n2 : n ≤ 4000000000000000000) :
    Calls Try.prog 6 #[.int .i64 k, .int .i64 n] w fun e w' => e = .returned (.int .i64 (k % n)) ∧ w = w' := by
  have h1 : -n < k.tmod n := by
    have := Int.tmod_lt_of_pos (-k) (show (0 : Int) < n by omega)
    rw [Int.neg_tmod] at this; omega
  have h2 := Int.tmod_lt_of_pos k (show (0 : Int) < n by omega)
  have n0 : ¬ n = 0 := by omega
  have n0' : (n == 0) = false := by simpa using n0
  have v1 : IntKind.i64.wrap (k.tmod n + n) = k.tmod n + n := IntWalk.i64_in _ (by omega)
  have e : (k.tmod n + n).tmod n = k % n := by
    rw [Int.tmod_eq_emod_of_nonneg (by omega), Int.add_emod_right]
    have d := Int.tmod_add_mul_tdiv k n
    have : k.tmod n = k + n * (-(k.tdiv n)) := by rw [Int.mul_neg]; omega
    rw [this, Int.add_mul_emod_self_left]
  have m0 := Int.emod_nonneg k n0
  have m1 := Int.emod_lt_of_pos k (show (0 : Int) < n by omega)
  have v2 : IntKind.i64.wrap (k.tmod n) = k.tmod n := IntWalk.i64_in _ (by omega)
  have v3 : IntKind.i64.wrap (k % n) = k % n := IntWalk.i64_in _ (by omega)
  have hgen := sgen; have hgen2 := sgen2; have hgen3 := sgen3; go_enter Try.func6, Try.ntmps6
  go_wp2
  go_ret
  refine ⟨?_, rfl⟩
  rfl
theorem ts_spans {w : World} {b : Nat} (h : b < w.heap.size) (c0 : w.cell? ⟨b, 0, none⟩ = some (.int .i64 0)) (c1 : w.cell? ⟨b, 1, none⟩ = some (.int .i64 10)) (c2 : w.cell? ⟨b, 2, none⟩ = some (.int .i64 5)) (c3 : w.cell? ⟨b, 3, none⟩ = some (.int .i64 15)) (c4 : w.cell? ⟨b, 4, none⟩ = some (.int .i64 8)) (c5 : w.cell? ⟨b, 5, none⟩ = some (.int .i64 20)) : SpSlice w (some ⟨b, 0, none⟩) [⟨0, 10⟩, ⟨5, 15⟩, ⟨8, 20⟩] := by
  intro k hk
  have : k = 0 ∨ k = 1 ∨ k = 2 := by simp at hk; omega
  rcases this with rfl | rfl | rfl
  · exact ⟨b, 0, rfl, h, by simpa using c0, by simpa using c1⟩
  · exact ⟨b, 0, rfl, h, by simpa using c2, by simpa using c3⟩
  · exact ⟨b, 0, rfl, h, by simpa using c4, by simpa using c5⟩
theorem ts_leap {w : World} {b : Nat} (h : b < w.heap.size) (c0 : w.cell? ⟨b, 0, none⟩ = some (.int .i64 100)) (c1 : w.cell? ⟨b, 1, none⟩ = some (.int .i64 1)) : LpSlice w (some ⟨b, 0, none⟩) [⟨100, 1⟩] := by
  intro k hk
  have : k = 0 := by simp at hk; omega
  subst this
  exact ⟨b, 0, rfl, h, by simpa using c0, by simpa using c1⟩
theorem c_tsWithin (b : Nat) (w : World) (h : b < w.heap.size) (c0 : w.cell? ⟨b, 0, none⟩ = some (.int .i64 0)) (c1 : w.cell? ⟨b, 1, none⟩ = some (.int .i64 10)) (c2 : w.cell? ⟨b, 2, none⟩ = some (.int .i64 5)) (c3 : w.cell? ⟨b, 3, none⟩ = some (.int .i64 15)) (c4 : w.cell? ⟨b, 4, none⟩ = some (.int .i64 8)) (c5 : w.cell? ⟨b, 5, none⟩ = some (.int .i64 20)) :
    Calls Try.prog 17 #[.slice (some ⟨b, 0, none⟩) 3 3, .int .i64 2] w fun e w' => e = .returned (.tuple #[.agg #[.int .i64 5, .int .i64 15], .int .i64 0]) ∧ Below w.heap.size w w' :=
  c_Within_ok (some ⟨b, 0, none⟩) 3 [⟨0, 10⟩, ⟨5, 15⟩, ⟨8, 20⟩] 2 w (by simp) (ts_spans h c0 c1 c2 c3 c4 c5) (by decide) (by decide) (by decide) 5 15 0 (.inr ⟨by decide, rfl⟩)
theorem c_tsCount (b : Nat) (w : World) (h : b < w.heap.size) (c0 : w.cell? ⟨b, 0, none⟩ = some (.int .i64 100)) (c1 : w.cell? ⟨b, 1, none⟩ = some (.int .i64 1)) :
    Calls Try.prog 9 #[.slice (some ⟨b, 0, none⟩) 1 1, .int .i64 8726400000] w fun e w' => e = .returned (.tuple #[.int .i64 8726401000, .int .i64 0]) ∧ Below w.heap.size w w' := by
  refine (c_leapCount' (some ⟨b, 0, none⟩) 1 [⟨100, 1⟩] 8726400000 101 0 w (by simp) (by decide) (ts_leap h c0 c1) (by decide) (by decide) (by decide) (by decide) (by decide)).mono ?_
  rintro e w' ⟨hb, ⟨hg, -⟩ | ⟨-, he⟩⟩
  · exact absurd hg (by decide)
  · exact ⟨he, hb⟩
theorem c_sClocks (w : World) : Calls Try.prog 5 #[] w fun e w' => e = .returned (.bool true) ∧ Below w.heap.size w w' := by
  have HE := Lib.hid (fun w1 => c_elapsed_ok 100 1000000 w1 (by decide) (by decide) (by decide) (by decide))
  have e1 : elLo 100 1000000 = 999900 := by decide
  have e2 : elHi 100 1000000 = 1000101 := by decide
  rw [e1, e2] at HE
  clear e1 e2
  have hgen := sgen; have hgen2 := sgen2; have hgen3 := sgen3; go_enter Try.func5, Try.ntmps5
  go_wp2_with (first | (go_at_call 17; (refine (c_tsWithin _ _ (by go_simp) (by go_simp) (by go_simp) (by go_simp) (by go_simp) (by go_simp) (by go_simp)).mono ?_); rintro e w1 ⟨rfl, hb⟩; have hz := hb.size; (try simp only [szA, szS, szD, szN] at hz); (try (refine bcB (n := w.heap.size) hb ?_; intro h_w_0 e_w_0 d_w_0 _ _))) | (go_at_call 9; (refine (c_tsCount _ _ (by go_simp) (by go_simp) (by go_simp)).mono ?_); rintro e w2 ⟨rfl, hb⟩; have hz := hb.size; (try simp only [szA, szS, szD, szN] at hz); (try (refine bcB (n := w.heap.size) hb ?_; intro h_w_0 e_w_0 d_w_0 _ _)); (try (refine bcB (n := w1.heap.size) hb ?_; intro h_w1_0 e_w1_0 d_w1_0 _ _)); (try (refine bcB (n := w1.heap.size + 1) hb ?_; intro h_w1_1 e_w1_1 d_w1_1 _ _))) | (go_at_call 18; (refine (HE.out _).mono ?_); rintro e w3 ⟨rfl, hb⟩; have hz := hb.size; (try simp only [szA, szS, szD, szN] at hz); (try (refine bcB (n := w.heap.size) hb ?_; intro h_w_0 e_w_0 d_w_0 _ _)); (try (refine bcB (n := w1.heap.size) hb ?_; intro h_w1_0 e_w1_0 d_w1_0 _ _)); (try (refine bcB (n := w1.heap.size + 1) hb ?_; intro h_w1_1 e_w1_1 d_w1_1 _ _)); (try (refine bcB (n := w2.heap.size) hb ?_; intro h_w2_0 e_w2_0 d_w2_0 _ _)); (try (refine bcB (n := w2.heap.size + 1) hb ?_; intro h_w2_1 e_w2_1 d_w2_1 _ _))))
  go_ret
  refine ⟨rfl, ?_⟩
  exact belz
theorem tk_lt (ns : List Int) (k : Nat) (h : k < ns.length) (h12 : k < 12) : (ns.take (k + 1)).take 12 = (ns.take k).take 12 ++ [ns[k]] := by
  rw [List.take_of_length_le (show (ns.take (k + 1)).length ≤ 12 by simp; omega), List.take_of_length_le (show (ns.take k).length ≤ 12 by simp; omega), fe_take ns k h]
theorem tk_ge (ns : List Int) (k : Nat) (h12 : 12 ≤ k) : (ns.take (k + 1)).take 12 = (ns.take k).take 12 := by
  rw [List.take_take, List.take_take, Nat.min_eq_left (by omega), Nat.min_eq_left (by omega)]
theorem lpCells_one (x : Lp) : lpCells [x] = [.int .i64 x.day, .int .i64 x.sh] := rfl
set_option maxRecDepth 100000 in
set_option maxHeartbeats 4000000 in
theorem walk_TopSmear (a0 : Option Addr) (cap : Nat) (ns : List Int) (half c more : Int) (w : World) (hc : ns.length ≤ cap) (hm : cap ≤ 9223372036854775807) (hs : IntSlice w a0 ns) (hh : -9223372036854775808 ≤ half ∧ half ≤ 9223372036854775807) (hcc : -9223372036854775808 ≤ c ∧ c ≤ 9223372036854775807) (hmm : -9223372036854775808 ≤ more ∧ more ≤ 9223372036854775807) :
    Calls Try.prog 3 #[.slice a0 ns.length cap, .int .i64 half, .int .i64 c, .int .i64 more] w fun e w' => e = .returned (.bool true) ∧ Below w.heap.size w w' := by
  obtain ⟨i0, hi0, hz0, hz1, hz2⟩ := info_parts info_Lp
  have hgen := sgen; have hgen2 := sgen2; have hgen3 := sgen3; go_enter Try.func3, Try.ntmps3
  go_upto_region 5 with (go_at_call 5; (refine (c_sClocks _).mono ?_); rintro e wa ⟨rfl, hb⟩; have hz := hb.size; (try simp only [szA, szS, szD, szN] at hz); (try (refine bcB (n := w.heap.size) hb ?_; intro h_w_0 e_w_0 d_w_0 _ _)))
  have hbwa : Below w.heap.size w wa := by exact belz
  go_wp2_with fail
  go_loopg [9, 10, 29] ns.length (fun gk x9 x10 i wr => ∃ k : Nat, gk + k = ns.length ∧ i = .int .i64 k ∧ x10 = .int .i64 (tsE 10 ((ns.take k).take 12)) ∧ Below w.heap.size w wr ∧ wr.ownsRow w.heap.size 27 2 x9 (tsL 10 ((ns.take k).take 12)).length (lpCells (tsL 10 ((ns.take k).take 12))))
  case atStart => exact ⟨0, by omega, rfl, rfl, hbwa, World.ownsRow_nil _ _ _ _⟩
  case round =>
    obtain ⟨k, hk, rfl, rfl, hbel, hown⟩ := hrel
    have hsz := hbel.size
    by_cases hlt : k < ns.length
    · obtain ⟨b, off, ha, hb1, y0⟩ := (hs.below (Nat.le_refl _) hbel) k hlt
      have ix1 := @ix_Int a0 b off ns.length cap k ha hlt
      have hlz : (k : Int) < (ns.length : Int) := by omega
      clear ha
      by_cases h12 : k < 12
      · have h12z : (k : Int) < 12 := by omega
        have e1 := tk_lt ns k hlt h12
        have ln : ((ns.take k).take 12).length = k := by simp; omega
        generalize ns[k] = x at *
        have bd := tsE_bd ((ns.take k).take 12) 10
        rw [ln] at bd
        have hL := tsL_length ((ns.take k).take 12) 10
        rw [ln] at hL
        rw [hL] at hown
        have eL := tsL_append ((ns.take k).take 12) 10 x
        have eE := tsE_append ((ns.take k).take 12) 10 x
        rw [← e1] at eL eE
        generalize tsE 10 ((ns.take k).take 12) = dd at *
        generalize tsL 10 ((ns.take k).take 12) = ll at *
        have H3 := Lib.hid (fun w1 => c_sAtT x 300 w1 (by omega) (by omega))
        have H4 := Lib.hid (fun w1 => c_sAtT x 3 w1 (by omega) (by omega))
        have one : tsOne x dd = ⟨dd + 2 + x % 300, 1 - 2 * (x % 3 / 2)⟩ := rfl
        rw [one] at eL
        have p0 : 0 ≤ x % 300 := by omega
        have p1 : x % 300 < 300 := by omega
        have q0 : 0 ≤ x % 3 := by omega
        have q1 : x % 3 < 3 := by omega
        generalize x % 300 = p at *
        generalize x % 3 = q at *
        obtain ⟨d', hd⟩ : ∃ d', dd + 2 + p = d' := ⟨_, rfl⟩
        obtain ⟨s, hse⟩ : ∃ s, 1 - 2 * (q / 2) = s := ⟨_, rfl⟩
        rw [hd] at eL eE
        rw [hse] at eL
        have v1 : IntKind.i64.wrap (q.tdiv 2) = q / 2 := by rw [Int.tdiv_eq_ediv_of_nonneg q0]; exact IntWalk.i64_in _ (by omega)
        have v2 : wrap64 (q.tdiv 2) = q / 2 := (IntWalk.i64_left _).symm.trans v1
        have v3 : IntKind.i64.wrap (2 * (q / 2)) = 2 * (q / 2) := IntWalk.i64_in _ (by omega)
        have v4 : IntKind.i64.wrap (1 - 2 * (q / 2)) = s := (IntWalk.i64_in _ (by omega)).trans hse
        have v5 : IntKind.i64.wrap (2 + p) = 2 + p := IntWalk.i64_in _ (by omega)
        have v6 : IntKind.i64.wrap (dd + (2 + p)) = d' := (IntWalk.i64_in _ (by omega)).trans (by omega)
        have HO := Lib.hid hown
        have HL := Lib.hid hL
        have HEL := Lib.hid eL
        have HEE := Lib.hid eE
        have hkk : k + 1 ≤ maxLen := by unfold maxLen; omega
        clear hown hL eL eE e1 ln one hd hse bd p0 p1 q0 q1 hs
        go_wp2_with (first | (go_at_call 6; (with_reducible refine (H3.out _).mono ?_); rintro e w' ⟨rfl, rfl⟩) | (go_at_call 6; (with_reducible refine (H4.out _).mono ?_); rintro e w' ⟨rfl, rfl⟩) | (at_builtin; refine wpList_append_own _ rfl (.tmp 41) (.tmp 49) 24 rfl w.heap.size 27 i0 (.agg #[.int .i64 0, .int .i64 0]) 2 16 Try.underlying24 hi0 hz0 hz1 hz2 rfl (by decide) _ k _ rfl (HO.out.alloc _) ⟨wr.heap.size, 0, none⟩ 1 1 [.int .i64 d', .int .i64 s] rfl rfl ?c1 ?c2 ?c3 ?c4 ?c5 ?_))
        case c1 =>
          intro j u hj
          match j, hj with
          | 0, hj => simp at hj; subst hj; go_simp
          | 1, hj => simp at hj; subst hj; simp only [Addr.add]; go_simp
        case c2 => intro u hu; simp at hu; rcases hu with rfl | rfl <;> rfl
        case c3 => exact hkk
        case c4 => omega
        case c5 => have := hbel.size; simp; omega
        intro v' w2 hown' hgrow hnil
        have hb2 : Below w.heap.size w w2 := by
          refine Below.grown ?_ hgrow ?_ ?_
          · have := hbel.size
            exact belz
          · have := hbel.size; simp; omega
          · intro g hg
            exact (HO.out.lt g hg).1
        have hown2 : w2.ownsRow w.heap.size 27 2 v' (tsL 10 ((ns.take (k + 1)).take 12)).length (lpCells (tsL 10 ((ns.take (k + 1)).take 12))) := by
          rw [HEL.out, lpCells_append, lpCells_one, List.length_append, HL.out]; exact hown'
        clear hown' hgrow hnil
        have HO2 := Lib.hid hown2
        clear hown2
        go_wp2
        go_roundg (ns.length - (k + 1))
        case measure => omega
        case rel => exact ⟨k + 1, by omega, by go_num, by rw [HEE.out], hb2, HO2.out⟩
      · have h12z : ¬ (k : Int) < 12 := by omega
        have e1 := tk_ge ns k (by omega)
        have HE1 := Lib.hid e1
        have HO := Lib.hid hown
        clear hown e1 hs
        go_wp2
        go_roundg (ns.length - (k + 1))
        case measure => omega
        case rel => exact ⟨k + 1, by omega, by go_num, by rw [HE1.out], hbel, by rw [HE1.out]; exact HO.out⟩
    · have hlz : ¬ (k : Int) < (ns.length : Int) := by omega
      have hms : ((ns.take k).take 12).length ≤ 12 := by simp; omega
      generalize (ns.take k).take 12 = ms at *
      have hh0 : 0 ≤ half % 43199001 := by omega
      have hh1 : half % 43199001 < 43199001 := by omega
      have cc0 : 0 ≤ c % 345600000000 := by omega
      have cc1 : c % 345600000000 < 345600000000 := by omega
      have mm0 : 0 ≤ more % 1000000 := by omega
      have mm1 : more % 1000000 < 1000000 := by omega
      have HA := Lib.hid (fun w1 => c_sAtT half 43199001 w1 (by omega) (by omega))
      have HB := Lib.hid (fun w1 => c_sAtT c 345600000000 w1 (by omega) (by omega))
      have HC := Lib.hid (fun w1 => c_sAtT more 1000000 w1 (by omega) (by omega))
      generalize half % 43199001 = h0 at *
      generalize c % 345600000000 = c0 at *
      generalize more % 1000000 = m0 at *
      obtain ⟨le, A, B, T, is, n, f1, f2, f3, f4, f5, f6, f7, f8, f9, f10, f11, f12, f13, f14, f15, f16⟩ := ts_law ms hms (h := 1000 + h0) (c := c0) (more := m0) (by omega) (by omega) cc0 cc1 mm0 mm1
      obtain ⟨la, lcap, hv, hcap, hsl⟩ := own_lpS hown
      subst hv
      have hv := lpOk_of le
      clear hown hms hs
      generalize tsL 10 ms = l at *
      have se : smErr l (1000 + h0) = 0 := by unfold smErr halfB; rw [if_neg (by omega), if_pos (by simp; omega)]
      have S1 := Lib.hid (fun w1 hs1 => c_smear_ok la lcap l (1000 + h0) c0 w1 hcap se hv (by omega) (by omega) hs1 (by simp [farB]; omega) A 0 (.inl ⟨by rw [f1]; simp [dayB]; omega, f1.symm, rfl⟩))
      have S2 := Lib.hid (fun w1 hs1 => c_smear_ok la lcap l (1000 + h0) (c0 + m0) w1 hcap se hv (by omega) (by omega) hs1 (by simp [farB]; omega) B 0 (.inl ⟨by rw [f2]; simp [dayB]; omega, f2.symm, rfl⟩))
      have I1 := fun w1 hs1 => c_inst_ok la lcap l c0 w1 hcap le hs1 (by simp [farB]; omega)
      rw [f7] at I1
      have I2 := fun w1 hs1 => c_inst_ok la lcap l (A / 86400000 * 86400000 + 1000 * n) w1 hcap le hs1 (by simp [farB]; omega)
      rw [f16] at I2
      have C1 : ∀ w1, LpSlice w1 la l → Calls Try.prog 9 #[.slice la l.length lcap, .int .i64 (A / 86400000 * 86400000)] w1 fun e w' => e = .returned (.tuple #[.int .i64 (A / 86400000 * 86400000 + 1000 * n), .int .i64 0]) ∧ Below w1.heap.size w1 w' := by
        intro w1 hs1
        refine (c_leapCount' la lcap l (A / 86400000 * 86400000) (A / 86400000) 0 w1 hcap le hs1 (by omega) (by omega) (by simp [dayB]; omega) (by omega) (by omega)).mono ?_
        rintro e w' ⟨hb, ⟨hg, -⟩ | ⟨-, he⟩⟩
        · rw [f12] at hg; exact absurd hg (by decide)
        · rw [f13] at he; exact ⟨he, hb⟩
      have HI1 := Lib.hid I1
      have HI2 := Lib.hid I2
      have HC1 := Lib.hid C1
      have HSL := Lib.hid hsl
      have v1 : IntKind.i64.wrap (1000 + h0) = 1000 + h0 := IntWalk.i64_in _ (by omega)
      have v2 : IntKind.i64.wrap (c0 + m0) = c0 + m0 := IntWalk.i64_in _ (by omega)
      have r1 : A.tmod 86400000 = A % 86400000 := Int.tmod_eq_emod_of_nonneg f3
      have v3 : IntKind.i64.wrap (A.tmod 86400000) = A % 86400000 := by rw [r1]; exact IntWalk.i64_in _ (by omega)
      have v3' : wrap64 (A.tmod 86400000) = A % 86400000 := (IntWalk.i64_left _).symm.trans v3
      have v4 : IntKind.i64.wrap (A - A % 86400000) = A / 86400000 * 86400000 := (IntWalk.i64_in _ (by omega)).trans (by omega)
      have v5 : IntKind.i64.wrap (B - A) = B - A := IntWalk.i64_in _ (by omega)
      have v6 : IntKind.i64.wrap (2 * m0) = 2 * m0 := IntWalk.i64_in _ (by omega)
      have v7 : IntKind.i64.wrap (2 * m0 + 2) = 2 * m0 + 2 := IntWalk.i64_in _ (by omega)
      have v8 : IntKind.i64.wrap (A - T) = A - T := IntWalk.i64_in _ (by omega)
      have v9 : IntKind.i64.wrap (T - A) = T - A := IntWalk.i64_in _ (by omega)
      have d1 : decide (A ≤ B) = true := decide_eq_true f5
      have d2 : decide (B - A ≤ 2 * m0 + 2) = true := decide_eq_true f6
      have d3 : decide (A - T ≤ 1001) = true := decide_eq_true f10
      have d4 : decide (T - A ≤ 1001) = true := decide_eq_true f11
      have d5 : (A / 86400000 * 86400000 == A / 86400000 * 86400000) = true := by simp
      clear I1 I2 C1 hsl f1 f2 f7 f12 f13 f16 se le hv hcap
      generalize A / 86400000 * 86400000 = D at *
      go_wp2_with (first | (go_at_call 6; (first | (with_reducible refine (HA.out _).mono ?_) | (with_reducible refine (HB.out _).mono ?_) | (with_reducible refine (HC.out _).mono ?_)); rintro e w' ⟨rfl, rfl⟩) | (go_at_call 7; (with_reducible refine (S1.out _ (HSL.out.below (Nat.le_refl _) (by exact belz))).mono ?_); rintro e w1 ⟨rfl, hb⟩; have hz := hb.size; (try simp only [szA, szS, szD, szN] at hz); (try (refine bcB (n := w.heap.size) hb ?_; intro h_w_0 e_w_0 d_w_0 _ _)); (try (refine bcB (n := wr.heap.size) hb ?_; intro h_wr_0 e_wr_0 d_wr_0 _ _))) | (go_at_call 7; (with_reducible refine (S2.out _ (HSL.out.below (Nat.le_refl _) (by exact belz))).mono ?_); rintro e w2 ⟨rfl, hb⟩; have hz := hb.size; (try simp only [szA, szS, szD, szN] at hz); (try (refine bcB (n := w.heap.size) hb ?_; intro h_w_0 e_w_0 d_w_0 _ _)); (try (refine bcB (n := wr.heap.size) hb ?_; intro h_wr_0 e_wr_0 d_wr_0 _ _)); (try (refine bcB (n := w1.heap.size) hb ?_; intro h_w1_0 e_w1_0 d_w1_0 _ _))) | (go_at_call 8; (with_reducible refine (HI1.out _ (HSL.out.below (Nat.le_refl _) (by exact belz))).mono ?_); rintro e w3 ⟨rfl, hb⟩; have hz := hb.size; (try simp only [szA, szS, szD, szN] at hz); (try (refine bcB (n := w.heap.size) hb ?_; intro h_w_0 e_w_0 d_w_0 _ _)); (try (refine bcB (n := wr.heap.size) hb ?_; intro h_wr_0 e_wr_0 d_wr_0 _ _)); (try (refine bcB (n := w1.heap.size) hb ?_; intro h_w1_0 e_w1_0 d_w1_0 _ _)); (try (refine bcB (n := w2.heap.size) hb ?_; intro h_w2_0 e_w2_0 d_w2_0 _ _))) | (go_at_call 9; (with_reducible refine (HC1.out _ (HSL.out.below (Nat.le_refl _) (by exact belz))).mono ?_); rintro e w4 ⟨rfl, hb⟩; have hz := hb.size; (try simp only [szA, szS, szD, szN] at hz); (try (refine bcB (n := w.heap.size) hb ?_; intro h_w_0 e_w_0 d_w_0 _ _)); (try (refine bcB (n := wr.heap.size) hb ?_; intro h_wr_0 e_wr_0 d_wr_0 _ _)); (try (refine bcB (n := w1.heap.size) hb ?_; intro h_w1_0 e_w1_0 d_w1_0 _ _)); (try (refine bcB (n := w2.heap.size) hb ?_; intro h_w2_0 e_w2_0 d_w2_0 _ _)); (try (refine bcB (n := w3.heap.size) hb ?_; intro h_w3_0 e_w3_0 d_w3_0 _ _))) | (go_at_call 8; (with_reducible refine (HI2.out _ (HSL.out.below (Nat.le_refl _) (by exact belz))).mono ?_); rintro e w5 ⟨rfl, hb⟩; have hz := hb.size; (try simp only [szA, szS, szD, szN] at hz); (try (refine bcB (n := w.heap.size) hb ?_; intro h_w_0 e_w_0 d_w_0 _ _)); (try (refine bcB (n := wr.heap.size) hb ?_; intro h_wr_0 e_wr_0 d_wr_0 _ _)); (try (refine bcB (n := w1.heap.size) hb ?_; intro h_w1_0 e_w1_0 d_w1_0 _ _)); (try (refine bcB (n := w2.heap.size) hb ?_; intro h_w2_0 e_w2_0 d_w2_0 _ _)); (try (refine bcB (n := w3.heap.size) hb ?_; intro h_w3_0 e_w3_0 d_w3_0 _ _)); (try (refine bcB (n := w4.heap.size) hb ?_; intro h_w4_0 e_w4_0 d_w4_0 _ _))))
      go_ret
      refine ⟨rfl, ?_⟩
      exact belz
theorem walk_tsm_any (a0 : Option Addr) (len cap : Nat) (ns : List Int) (half c more : Int) (w : World) (hl : ns.length = len) (hc : len ≤ cap) (hm : cap ≤ 9223372036854775807) (hs : IntSlice w a0 ns) (hh : -9223372036854775808 ≤ half ∧ half ≤ 9223372036854775807) (hcc : -9223372036854775808 ≤ c ∧ c ≤ 9223372036854775807) (hmm : -9223372036854775808 ≤ more ∧ more ≤ 9223372036854775807) :
    Calls Try.prog 3 #[.slice a0 len cap, .int .i64 half, .int .i64 c, .int .i64 more] w fun e w' => e = .returned (.bool true) ∧ Below w.heap.size w w' := by
  subst hl
  exact walk_TopSmear a0 cap ns half c more w hc hm hs hh hcc hmm
end Go.Proofs.Ytenmiilndiaopaa
