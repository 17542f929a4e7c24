/- The walk through the law PathCenters where the shadow falls. -/
import Derived.Test.YtcgnhnmigmdalaaGreatDoorWalkCtr
import Derived.Test.YtcgnhnmigmdalaaGreatDoorAsA
set_option linter.unusedVariables false
set_option linter.unusedSimpArgs false
set_option maxRecDepth 100000
namespace Go.Proofs.YtcgnhnmigmdalaaGreatDoor
open Go.RowKit
structure PcB (t a b fx fy k1 k2 Z sm sn sx sy sz ex ey ez nx ny nz p1 p2 p3 p4 p5 p6 p7 p8 p9 rs st ct q1 q2 q3 q4 lo hi la lh : Int) : Prop where
  fa : ∀ w1, Calls Tryz.prog 30 #[.int .i64 a] w1 fun e w' => e = .returned (.int .i64 fx) ∧ w1 = w'
  fb : ∀ w1, Calls Tryz.prog 30 #[.int .i64 b] w1 fun e w' => e = .returned (.int .i64 fy) ∧ w1 = w'
  xx : ∀ w1, Calls Tryz.prog 31 #[.int .i64 fx, .int .i64 fx] w1 fun e w' => e = .returned (.int .i64 k1) ∧ w1 = w'
  yy : ∀ w1, Calls Tryz.prog 31 #[.int .i64 fy, .int .i64 fy] w1 fun e w' => e = .returned (.int .i64 k2) ∧ w1 = w'
  sl : ∀ w1, Calls Tryz.prog 27 #[.int .i64 t, .int .i64 0] w1 fun e w' => e = .returned (.int .i64 sm) ∧ Below w1.heap.size w1 w'
  es : ∀ w1, Calls Tryz.prog 32 #[.int .i64 sm, .int .i64 0] w1 fun e w' => e = .returned (.agg #[.int .i64 sx, .int .i64 sy, .int .i64 sz]) ∧ Below w1.heap.size w1 w'
  md : ∀ w1, Calls Tryz.prog 33 #[.int .i64 (sm + 262144000000000), .int .i64 1048576000000000] w1 fun e w' => e = .returned (.int .i64 sn) ∧ w1 = w'
  en : ∀ w1, Calls Tryz.prog 32 #[.int .i64 sn, .int .i64 0] w1 fun e w' => e = .returned (.agg #[.int .i64 ex, .int .i64 ey, .int .i64 ez]) ∧ Below w1.heap.size w1 w'
  eo : ∀ w1, Calls Tryz.prog 32 #[.int .i64 0, .int .i64 262144000000000] w1 fun e w' => e = .returned (.agg #[.int .i64 nx, .int .i64 ny, .int .i64 nz]) ∧ Below w1.heap.size w1 w'
  m1 : ∀ w1, Calls Tryz.prog 31 #[.int .i64 Z, .int .i64 sx] w1 fun e w' => e = .returned (.int .i64 p1) ∧ w1 = w'
  m2 : ∀ w1, Calls Tryz.prog 31 #[.int .i64 fx, .int .i64 ex] w1 fun e w' => e = .returned (.int .i64 p2) ∧ w1 = w'
  m3 : ∀ w1, Calls Tryz.prog 31 #[.int .i64 fy, .int .i64 nx] w1 fun e w' => e = .returned (.int .i64 p3) ∧ w1 = w'
  m4 : ∀ w1, Calls Tryz.prog 31 #[.int .i64 Z, .int .i64 sy] w1 fun e w' => e = .returned (.int .i64 p4) ∧ w1 = w'
  m5 : ∀ w1, Calls Tryz.prog 31 #[.int .i64 fx, .int .i64 ey] w1 fun e w' => e = .returned (.int .i64 p5) ∧ w1 = w'
  m6 : ∀ w1, Calls Tryz.prog 31 #[.int .i64 fy, .int .i64 ny] w1 fun e w' => e = .returned (.int .i64 p6) ∧ w1 = w'
  m7 : ∀ w1, Calls Tryz.prog 31 #[.int .i64 Z, .int .i64 sz] w1 fun e w' => e = .returned (.int .i64 p7) ∧ w1 = w'
  m8 : ∀ w1, Calls Tryz.prog 31 #[.int .i64 fx, .int .i64 ez] w1 fun e w' => e = .returned (.int .i64 p8) ∧ w1 = w'
  m9 : ∀ w1, Calls Tryz.prog 31 #[.int .i64 fy, .int .i64 nz] w1 fun e w' => e = .returned (.int .i64 p9) ∧ w1 = w'
  sd : ∀ w1, Calls Tryz.prog 35 #[.agg #[.int .i64 0, .int .i64 0], .int .i64 t] w1 fun e w' => e = .returned (.int .i64 rs) ∧ Below w1.heap.size w1 w'
  sc : ∀ w1, Calls Tryz.prog 34 #[.int .i64 rs] w1 fun e w' => e = .returned (.tuple #[.int .i64 st, .int .i64 ct]) ∧ w1 = w'
  ia : ∀ w1, Calls Tryz.prog 21 #[.agg #[.int .i64 la, .int .i64 lh], .int .i64 (p7 + p8 + p9)] w1 fun e w' => e = .returned (.bool true) ∧ Below w1.heap.size w1 w'
  n1 : ∀ w1, Calls Tryz.prog 31 #[.int .i64 ct, .int .i64 (p4 + p5 + p6)] w1 fun e w' => e = .returned (.int .i64 q1) ∧ w1 = w'
  n2 : ∀ w1, Calls Tryz.prog 31 #[.int .i64 st, .int .i64 (p1 + p2 + p3)] w1 fun e w' => e = .returned (.int .i64 q2) ∧ w1 = w'
  n3 : ∀ w1, Calls Tryz.prog 31 #[.int .i64 ct, .int .i64 (p1 + p2 + p3)] w1 fun e w' => e = .returned (.int .i64 q3) ∧ w1 = w'
  n4 : ∀ w1, Calls Tryz.prog 31 #[.int .i64 st, .int .i64 (p4 + p5 + p6)] w1 fun e w' => e = .returned (.int .i64 q4) ∧ w1 = w'
  ir : hi - lo ≤ 400000000 → ∀ w1, Calls Tryz.prog 22 #[.agg #[.int .i64 lo, .int .i64 hi], .int .i64 (q1 - q2), .int .i64 (q3 + q4)] w1 fun e w' => e = .returned (.bool true) ∧ Below w1.heap.size w1 w'
/-- The sizes of the numbers. -/
structure PcZ (k1 k2 sm p1 p2 p3 p4 p5 p6 p7 p8 p9 q1 q2 q3 q4 lo hi : Int) : Prop where
  k1 : -10 ≤ k1 ∧ k1 ≤ 1300000000000000000
  k2 : -10 ≤ k2 ∧ k2 ≤ 1300000000000000000
  sm : 0 ≤ sm ∧ sm ≤ 1048576000000000
  b1 : -1300000000000000000 ≤ p1 ∧ p1 ≤ 1300000000000000000
  b2 : -1300000000000000000 ≤ p2 ∧ p2 ≤ 1300000000000000000
  b3 : -1300000000000000000 ≤ p3 ∧ p3 ≤ 1300000000000000000
  b4 : -1300000000000000000 ≤ p4 ∧ p4 ≤ 1300000000000000000
  b5 : -1300000000000000000 ≤ p5 ∧ p5 ≤ 1300000000000000000
  b6 : -1300000000000000000 ≤ p6 ∧ p6 ≤ 1300000000000000000
  b7 : -1300000000000000000 ≤ p7 ∧ p7 ≤ 1300000000000000000
  b8 : -1300000000000000000 ≤ p8 ∧ p8 ≤ 1300000000000000000
  b9 : -1300000000000000000 ≤ p9 ∧ p9 ≤ 1300000000000000000
  c1 : -1300000000000000000 ≤ q1 ∧ q1 ≤ 1300000000000000000
  c2 : -1300000000000000000 ≤ q2 ∧ q2 ≤ 1300000000000000000
  c3 : -1300000000000000000 ≤ q3 ∧ q3 ≤ 1300000000000000000
  c4 : -1300000000000000000 ≤ q4 ∧ q4 ≤ 1300000000000000000
  lo0 : 0 ≤ lo ∧ lo < 1000000000
  hi0 : lo ≤ hi ∧ hi ≤ 3000000000
/-- A direction in memory. -/
structure Dir3At (w : World) (b : Nat) (x y z : Int) : Prop where
  lt : b < w.heap.size
  c0 : w.cell? ⟨b, 0, none⟩ = some (.int .i64 x)
  c1 : w.cell? ⟨b, 1, none⟩ = some (.int .i64 y)
  c2 : w.cell? ⟨b, 2, none⟩ = some (.int .i64 z)
theorem Dir3At.below {w w' : World} {b : Nat} {x y z : Int} (h : Dir3At w b x y z) (hb : Below w.heap.size w w') : Dir3At w' b x y z :=
  ⟨Nat.lt_of_lt_of_le h.lt hb.size, (hb.cell (p := ⟨b, 0, none⟩) h.lt).trans h.c0, (hb.cell (p := ⟨b, 1, none⟩) h.lt).trans h.c1, (hb.cell (p := ⟨b, 2, none⟩) h.lt).trans h.c2⟩
set_option maxHeartbeats 16000000 in
theorem walk_Pc_gen {t m s v n a b fx fy k1 k2 Z sm sn sx sy sz ex ey ez nx ny nz p1 p2 p3 p4 p5 p6 p7 p8 p9 rs st ct q1 q2 q3 q4 lo hi la lh : Int} (w : World) (hT : Tab w) (hA : PcA t 0 t lo hi la lh m s v n) (hB : PcB t a b fx fy k1 k2 Z sm sn sx sy sz ex ey ez nx ny nz p1 p2 p3 p4 p5 p6 p7 p8 p9 rs st ct q1 q2 q3 q4 lo hi la lh) (hZ : PcZ k1 k2 sm p1 p2 p3 p4 p5 p6 p7 p8 p9 q1 q2 q3 q4 lo hi) (v0 : -600000000000000 ≤ v) (v1 : v ≤ 600000000000000) (n0 : -1000000000000000 ≤ n) (n1 : n ≤ 1000000000000000) (ha : a = v * 377 / 1048576) (hb' : b = n * 377 / 1048576)
    (g1 : -1000000000 ≤ a) (g2 : a ≤ 1000000000) (g3 : -1000000000 ≤ b) (g4 : b ≤ 1000000000) (g5 : a * a + b * b ≤ 1000000000000000000) (hR : zbB (1152921504606846976 - k1 - k2) 60 0 = Z) :
    Calls Tryz.prog 4 #[.int .i64 t] w fun e w' => e = .returned (.bool true) ∧ Below w.heap.size w w' := by
  have HA := Lib.hid hA
  have HB := Lib.hid hB
  have HZ := Lib.hid hZ
  have HT := Lib.hid hT
  have HR := Lib.hid hR
  have wv : IntKind.i64.wrap (v * 377) = v * 377 := IntWalk.i64_in _ (by omega)
  have wn : IntKind.i64.wrap (n * 377) = n * 377 := IntWalk.i64_in _ (by omega)
  have HE := Lib.hid ha
  have HF := Lib.hid hb'
  clear hA hB hZ hT hR ha hb' v0 v1 n0 n1
  have hgen := sgen; have hgen2 := sgen2; have hgen3 := sgen3; go_enter Tryz.func4, Tryz.ntmps4
  go_upto_region 3 with (go_at_call 23; (with_reducible refine (c_pathWorks _ (HT.out.below (by exact belz))).mono ?_); rintro e w1 ⟨rfl, hb⟩; have hz := hb.size; (try simp only [szA, szS, szD, szN] at hz); (try (refine bcB (n := w.heap.size) hb ?_; intro h_w_0 e_w_0 d_w_0 _ _)))
  go_cut [3, 4] (fun s3 s4 wc => ∃ b3 : Nat, s3 = .pointer (some ⟨b3, 0, none⟩) ∧ s4 = .int .i64 0 ∧ PpAt wc b3 t lo hi la lh ∧ Below w.heap.size w wc)
  case first =>
    as_aux_lemma =>
      go_wp2_with (go_at_call 24; (with_reducible refine (HA.out.ce _ (HT.out.below (by exact belz))).mono ?_); rintro e w2 ⟨rfl, hb⟩; have hz := hb.size; (try simp only [szA, szS, szD, szN] at hz); (try (refine bcB (n := w.heap.size) hb ?_; intro h_w_0 e_w_0 d_w_0 _ _)); (try (refine bcB (n := w1.heap.size) hb ?_; intro h_w1_0 e_w1_0 d_w1_0 _ _)))
      go_meet
      case rel =>
        refine ⟨w2.heap.size, by go_simp, by go_simp, ?_, ?_⟩
        all_goals first | (constructor <;> go_simp; done) | exact belz
  case rest =>
    as_aux_lemma =>
      obtain ⟨b3, rfl, rfl, mp, hbc⟩ := hcut
      obtain ⟨wd, rfl⟩ : ∃ wd : World, wd = wc := ⟨_, rfl⟩
      have hsz := hbc.size
      have hl3 := mp.lt
      go_upto_region 7 with (go_at_call 14; (with_reducible refine (HA.out.ie _).mono ?_); rintro e w' ⟨rfl, rfl⟩)
      go_cut [6, 7] (fun s6 s7 wc => s6 = .int .i64 a ∧ s7 = .int .i64 b ∧ Below wd.heap.size wd wc)
      case first =>
        as_aux_lemma =>
          go_wp2_with (first | (go_at_call 26; (with_reducible refine (HA.out.ml _).mono ?_); rintro e w3 ⟨rfl, hb⟩; have hz := hb.size; (try simp only [szA, szS, szD, szN] at hz); (try (refine bcB (n := b3) hb ?_; intro h_bb3_0 e_bb3_0 d_bb3_0 _ _)); (try (refine bcB (n := wd.heap.size) hb ?_; intro h_wd_0 e_wd_0 d_wd_0 _ _))) | (go_at_call 27; (with_reducible refine (HA.out.sl _).mono ?_); rintro e w4 ⟨rfl, hb⟩; have hz := hb.size; (try simp only [szA, szS, szD, szN] at hz); (try (refine bcB (n := b3) hb ?_; intro h_bb3_0 e_bb3_0 d_bb3_0 _ _)); (try (refine bcB (n := wd.heap.size) hb ?_; intro h_wd_0 e_wd_0 d_wd_0 _ _)); (try (refine bcB (n := w3.heap.size) hb ?_; intro h_w3_0 e_w3_0 d_w3_0 _ _))) | (go_at_call 25; (with_reducible refine (HA.out.ah _).mono ?_); rintro e w' ⟨rfl, rfl⟩) | (go_at_call 28; (with_reducible refine (HA.out.mb _).mono ?_); rintro e w5 ⟨rfl, hb⟩; have hz := hb.size; (try simp only [szA, szS, szD, szN] at hz); (try (refine bcB (n := b3) hb ?_; intro h_bb3_0 e_bb3_0 d_bb3_0 _ _)); (try (refine bcB (n := wd.heap.size) hb ?_; intro h_wd_0 e_wd_0 d_wd_0 _ _)); (try (refine bcB (n := w3.heap.size) hb ?_; intro h_w3_0 e_w3_0 d_w3_0 _ _)); (try (refine bcB (n := w4.heap.size) hb ?_; intro h_w4_0 e_w4_0 d_w4_0 _ _))))
          go_meet
          case rel =>
            refine ⟨by rw [HE.out], by rw [HF.out], ?_⟩
            exact belz
      case rest =>
        as_aux_lemma =>
          obtain ⟨rfl, rfl, hbd⟩ := hcut
          have mq := mp.below hbd
          have hW : Below w.heap.size w wc := Below.call hbc (by omega) hbd
          have hsz2 := hW.size
          obtain ⟨we, rfl⟩ : ∃ we : World, we = wc := ⟨_, rfl⟩
          clear hbc hbd mp hl3 hsz HE HF wv wn
          have m1 := abs_mul9 g1 g2
          have m2 := abs_mul9 g3 g4
          have d1 : decide (a * a + b * b > 1000000000000000000) = false := decide_eq_false (by omega)
          obtain ⟨z1, z2⟩ := HZ.out.k1
          obtain ⟨z3, z4⟩ := HZ.out.k2
          have v1 : IntKind.i64.wrap (1152921504606846976 - k1) = 1152921504606846976 - k1 := IntWalk.i64_in _ (by omega)
          have v2 : IntKind.i64.wrap (1152921504606846976 - k1 - k2) = 1152921504606846976 - k1 - k2 := IntWalk.i64_in _ (by omega)
          go_wp2_with (first | (go_at_call 29; (first | (with_reducible refine (c_bey0 a 1000000000 _ g1 g2 (by omega) (by omega)).mono ?_) | (with_reducible refine (c_bey0 b 1000000000 _ g3 g4 (by omega) (by omega)).mono ?_)); rintro e w' ⟨rfl, rfl⟩) | (go_at_call 30; (first | (with_reducible refine (HB.out.fa _).mono ?_) | (with_reducible refine (HB.out.fb _).mono ?_)); rintro e w' ⟨rfl, rfl⟩) | (go_at_call 31; (first | (with_reducible refine (HB.out.xx _).mono ?_) | (with_reducible refine (HB.out.yy _).mono ?_)); rintro e w' ⟨rfl, rfl⟩))
          clear m1 m2 d1 g5 v1 v2
          generalize hrest : 1152921504606846976 - k1 - k2 = rest at *
          go_loopg [11, 12] 60 (fun gk s11 s12 wr => ∃ k : Nat, ∃ zz : Int, gk = k ∧ k ≤ 60 ∧ s11 = .int .i64 zz ∧ s12 = .int .i64 ((k : Int) - 1) ∧ 0 ≤ zz ∧ zz + 2 ^ k ≤ 1152921504606846976 ∧ zbB rest k zz = Z ∧ we = wr)
          case atStart => exact ⟨60, 0, rfl, by omega, rfl, rfl, by omega, by decide, HR.out, rfl⟩
          case round =>
            as_aux_lemma =>
              obtain ⟨k, zz, rfl, hk, rfl, rfl, z0, zl, hzb, rfl⟩ := hrel
              rcases gk with _ | j
              · have hzz : zz = Z := hzb
                subst hzz
                rw [show (((0 : Nat) : Int) - 1) = -1 from rfl]
                clear hzb zl hk
                obtain ⟨s0, s1⟩ := HZ.out.sm
                have v3 : IntKind.i64.wrap (sm + 262144000000000) = sm + 262144000000000 := IntWalk.i64_in _ (by omega)
                have hl3 := mq.lt
                go_upto_region 22 with (first | (go_at_call 27; (with_reducible refine (HB.out.sl _).mono ?_); rintro e w3 ⟨rfl, hb⟩; have hz := hb.size; (try simp only [szA, szS, szD, szN] at hz); (try (refine bcB (n := b3) hb ?_; intro h_bb3_0 e_bb3_0 d_bb3_0 _ _)); (try (refine bcB (n := we.heap.size) hb ?_; intro h_we_0 e_we_0 d_we_0 _ _))) | (go_at_call 32; (with_reducible refine (HB.out.es _).mono ?_); rintro e w4 ⟨rfl, hb⟩; have hz := hb.size; (try simp only [szA, szS, szD, szN] at hz); (try (refine bcB (n := b3) hb ?_; intro h_bb3_0 e_bb3_0 d_bb3_0 _ _)); (try (refine bcB (n := we.heap.size) hb ?_; intro h_we_0 e_we_0 d_we_0 _ _)); (try (refine bcB (n := w3.heap.size) hb ?_; intro h_w3_0 e_w3_0 d_w3_0 _ _))))
                go_cut [14, 15, 16] (fun s14 s15 s16 wc => ∃ b14 b15 b16 : Nat, s14 = .pointer (some ⟨b14, 0, none⟩) ∧ s15 = .pointer (some ⟨b15, 0, none⟩) ∧ s16 = .pointer (some ⟨b16, 0, none⟩) ∧ Dir3At wc b14 sx sy sz ∧ Dir3At wc b15 ex ey ez ∧ Dir3At wc b16 nx ny nz ∧ Below we.heap.size we wc)
                case first =>
                  as_aux_lemma =>
                    go_wp2_with (first | (go_at_call 27; (with_reducible refine (HB.out.sl _).mono ?_); rintro e w5 ⟨rfl, hb⟩; have hz := hb.size; (try simp only [szA, szS, szD, szN] at hz); (try (refine bcB (n := b3) hb ?_; intro h_bb3_0 e_bb3_0 d_bb3_0 _ _)); (try (refine bcB (n := we.heap.size) hb ?_; intro h_we_0 e_we_0 d_we_0 _ _)); (try (refine bcB (n := w3.heap.size) hb ?_; intro h_w3_0 e_w3_0 d_w3_0 _ _)); (try (refine bcB (n := w4.heap.size) hb ?_; intro h_w4_0 e_w4_0 d_w4_0 _ _))) | (go_at_call 33; (with_reducible refine (HB.out.md _).mono ?_); rintro e w' ⟨rfl, rfl⟩) | (go_at_call 32; (with_reducible refine (HB.out.en _).mono ?_); rintro e w6 ⟨rfl, hb⟩; have hz := hb.size; (try simp only [szA, szS, szD, szN] at hz); (try (refine bcB (n := b3) hb ?_; intro h_bb3_0 e_bb3_0 d_bb3_0 _ _)); (try (refine bcB (n := we.heap.size) hb ?_; intro h_we_0 e_we_0 d_we_0 _ _)); (try (refine bcB (n := w3.heap.size) hb ?_; intro h_w3_0 e_w3_0 d_w3_0 _ _)); (try (refine bcB (n := w4.heap.size) hb ?_; intro h_w4_0 e_w4_0 d_w4_0 _ _)); (try (refine bcB (n := w5.heap.size) hb ?_; intro h_w5_0 e_w5_0 d_w5_0 _ _))) | (go_at_call 32; (with_reducible refine (HB.out.eo _).mono ?_); rintro e w7 ⟨rfl, hb⟩; have hz := hb.size; (try simp only [szA, szS, szD, szN] at hz); (try (refine bcB (n := b3) hb ?_; intro h_bb3_0 e_bb3_0 d_bb3_0 _ _)); (try (refine bcB (n := we.heap.size) hb ?_; intro h_we_0 e_we_0 d_we_0 _ _)); (try (refine bcB (n := w3.heap.size) hb ?_; intro h_w3_0 e_w3_0 d_w3_0 _ _)); (try (refine bcB (n := w4.heap.size) hb ?_; intro h_w4_0 e_w4_0 d_w4_0 _ _)); (try (refine bcB (n := w5.heap.size) hb ?_; intro h_w5_0 e_w5_0 d_w5_0 _ _)); (try (refine bcB (n := w6.heap.size) hb ?_; intro h_w6_0 e_w6_0 d_w6_0 _ _))))
                    go_meet
                    case rel =>
                      refine ⟨w4.heap.size, w7.heap.size, w7.heap.size + 1, by go_simp, by go_simp, by go_simp, ?_, ?_, ?_, ?_⟩
                      all_goals first | (constructor <;> go_simp; done) | exact belz
                case rest =>
                  as_aux_lemma =>
                    obtain ⟨b14, b15, b16, rfl, rfl, rfl, d14, d15, d16, hbe⟩ := hcut
                    replace mq := mq.below hbe
                    have hW2 : Below w.heap.size w wc := Below.call hW hsz2 hbe
                    have hsz3 := hW2.size
                    clear hW hsz2 hbe v3 s0 s1 hl3
                    obtain ⟨wf, rfl⟩ : ∃ wf : World, wf = wc := ⟨_, rfl⟩
                    have Y1 := HZ.out.b1
                    have Y2 := HZ.out.b2
                    have Y3 := HZ.out.b3
                    have Y4 := HZ.out.b4
                    have Y5 := HZ.out.b5
                    have Y6 := HZ.out.b6
                    have Y7 := HZ.out.b7
                    have Y8 := HZ.out.b8
                    have Y9 := HZ.out.b9
                    have V1 : IntKind.i64.wrap (p1 + p2) = p1 + p2 := IntWalk.i64_in _ (by omega)
                    have V2 : IntKind.i64.wrap (p1 + p2 + p3) = p1 + p2 + p3 := IntWalk.i64_in _ (by omega)
                    have V3 : IntKind.i64.wrap (p4 + p5) = p4 + p5 := IntWalk.i64_in _ (by omega)
                    have V4 : IntKind.i64.wrap (p4 + p5 + p6) = p4 + p5 + p6 := IntWalk.i64_in _ (by omega)
                    have V5 : IntKind.i64.wrap (p7 + p8) = p7 + p8 := IntWalk.i64_in _ (by omega)
                    have V6 : IntKind.i64.wrap (p7 + p8 + p9) = p7 + p8 + p9 := IntWalk.i64_in _ (by omega)
                    clear Y1 Y2 Y3 Y4 Y5 Y6 Y7 Y8 Y9
                    go_upto_region 23 with fail
                    go_cut [17] (fun s wc => ∃ b17 : Nat, s = .pointer (some ⟨b17, 0, none⟩) ∧ Dir3At wc b17 (p1 + p2 + p3) (p4 + p5 + p6) (p7 + p8 + p9) ∧ Below wf.heap.size wf wc)
                    case first =>
                      as_aux_lemma =>
                        obtain ⟨l14, c140, c141, c142⟩ := d14
                        obtain ⟨l15, c150, c151, c152⟩ := d15
                        obtain ⟨l16, c160, c161, c162⟩ := d16
                        go_region_held3 (fun w' => w'.cell? ⟨b14, 0, none⟩ = some (.int .i64 sx) ∧ w'.cell? ⟨b14, 1, none⟩ = some (.int .i64 sy) ∧ w'.cell? ⟨b14, 2, none⟩ = some (.int .i64 sz) ∧ w'.cell? ⟨b15, 0, none⟩ = some (.int .i64 ex) ∧ w'.cell? ⟨b15, 1, none⟩ = some (.int .i64 ey) ∧ w'.cell? ⟨b15, 2, none⟩ = some (.int .i64 ez) ∧ w'.cell? ⟨b16, 0, none⟩ = some (.int .i64 nx) ∧ w'.cell? ⟨b16, 1, none⟩ = some (.int .i64 ny) ∧ w'.cell? ⟨b16, 2, none⟩ = some (.int .i64 nz)) (refine ⟨?_, ?_, ?_, ?_, ?_, ?_, ?_, ?_, ?_⟩ <;> (first | (go_simp; done) | go_keep)) (first | (go_at_call 31; (first | (with_reducible refine (HB.out.m1 _).mono ?_) | (with_reducible refine (HB.out.m2 _).mono ?_) | (with_reducible refine (HB.out.m3 _).mono ?_) | (with_reducible refine (HB.out.m4 _).mono ?_) | (with_reducible refine (HB.out.m5 _).mono ?_) | (with_reducible refine (HB.out.m6 _).mono ?_) | (with_reducible refine (HB.out.m7 _).mono ?_) | (with_reducible refine (HB.out.m8 _).mono ?_) | (with_reducible refine (HB.out.m9 _).mono ?_)); rintro e w' ⟨rfl, rfl⟩))
                        all_goals (go_step; apply_assumption; refine Met.intro ?_; apply_assumption; (repeat apply Exists.intro); refine ⟨?_, rfl⟩; (refine ⟨_, rfl, ?_, ?_⟩ <;> first | (constructor <;> go_simp; done) | exact belz))
                    case rest =>
                      as_aux_lemma =>
                        obtain ⟨b17, rfl, d17, hbf⟩ := hcut
                        obtain ⟨l3, x0, x1, x2, x3, x4, -, -, -, -, -⟩ := mq.below hbf
                        have hW3 : Below w.heap.size w wc := Below.call hW2 hsz3 hbf
                        have hsz4 := hW3.size
                        clear hW2 hsz3 hbf d14 d15 d16 mq V1 V2 V3 V4 V5 V6
                        obtain ⟨l17, c170, c171, c172⟩ := d17
                        obtain ⟨wg, rfl⟩ : ∃ wg : World, wg = wc := ⟨_, rfl⟩
                        obtain ⟨o0, o1⟩ := HZ.out.lo0
                        obtain ⟨o2, o3⟩ := HZ.out.hi0
                        have Y1 := HZ.out.c1
                        have Y2 := HZ.out.c2
                        have Y3 := HZ.out.c3
                        have Y4 := HZ.out.c4
                        have V1 : IntKind.i64.wrap (q1 - q2) = q1 - q2 := IntWalk.i64_in _ (by omega)
                        have V2 : IntKind.i64.wrap (q3 + q4) = q3 + q4 := IntWalk.i64_in _ (by omega)
                        have V3 : IntKind.i64.wrap (hi - lo) = hi - lo := IntWalk.i64_in _ (by omega)
                        have E1 : decide (lo < 0) = false := decide_eq_false (by omega)
                        have E2 : decide (lo ≥ 1000000000) = false := decide_eq_false (by omega)
                        have E3 : decide (hi < lo) = false := decide_eq_false (by omega)
                        clear Y1 Y2 Y3 Y4
                        go_upto_region 27 with (first | (go_at_call 35; (with_reducible refine (HB.out.sd _).mono ?_); rintro e w3 ⟨rfl, hb⟩; have hz := hb.size; (try simp only [szA, szS, szD, szN] at hz); (try (refine bcB (n := b3) hb ?_; intro h_bb3_0 e_bb3_0 d_bb3_0 _ _)); (try (refine bcB (n := b17) hb ?_; intro h_bb17_0 e_bb17_0 d_bb17_0 _ _)); (try (refine bcB (n := wg.heap.size) hb ?_; intro h_wg_0 e_wg_0 d_wg_0 _ _))) | (go_at_call 34; (with_reducible refine (HB.out.sc _).mono ?_); rintro e w' ⟨rfl, rfl⟩) | (go_at_call 21; (with_reducible refine (HB.out.ia _).mono ?_); rintro e w4 ⟨rfl, hb⟩; have hz := hb.size; (try simp only [szA, szS, szD, szN] at hz); (try (refine bcB (n := b3) hb ?_; intro h_bb3_0 e_bb3_0 d_bb3_0 _ _)); (try (refine bcB (n := b17) hb ?_; intro h_bb17_0 e_bb17_0 d_bb17_0 _ _)); (try (refine bcB (n := wg.heap.size) hb ?_; intro h_wg_0 e_wg_0 d_wg_0 _ _)); (try (refine bcB (n := w3.heap.size) hb ?_; intro h_w3_0 e_w3_0 d_w3_0 _ _))))
                        clear E1 E2 E3
                        have hb4 : Below w.heap.size w w4 := by exact belz
                        by_cases hw : hi - lo ≤ 400000000
                        · have F1 : decide (hi - lo > 400000000) = false := decide_eq_false (by omega)
                          have HI := Lib.hid (HB.out.ir hw)
                          go_region_held3 (fun w' => w'.cell? ⟨b3, 1, none⟩ = some (.int .i64 lo) ∧ w'.cell? ⟨b3, 2, none⟩ = some (.int .i64 hi) ∧ w'.cell? ⟨b17, 0, none⟩ = some (.int .i64 (p1 + p2 + p3)) ∧ w'.cell? ⟨b17, 1, none⟩ = some (.int .i64 (p4 + p5 + p6))) (refine ⟨?_, ?_, ?_, ?_⟩ <;> (first | (go_simp; done) | go_keep)) (first | (go_at_call 31; (first | (with_reducible refine (HB.out.n1 _).mono ?_) | (with_reducible refine (HB.out.n2 _).mono ?_) | (with_reducible refine (HB.out.n3 _).mono ?_) | (with_reducible refine (HB.out.n4 _).mono ?_)); rintro e w' ⟨rfl, rfl⟩) | (go_at_call 22; (with_reducible refine (HI.out _).mono ?_); rintro e w5 ⟨rfl, hb⟩; have hz := hb.size; (try simp only [szA, szS, szD, szN] at hz); (try (refine bcB (n := b3) hb ?_; intro h_bb3_0 e_bb3_0 d_bb3_0 _ _)); (try (refine bcB (n := b17) hb ?_; intro h_bb17_0 e_bb17_0 d_bb17_0 _ _)); (try (refine bcB (n := w4.heap.size) hb ?_; intro h_w4_0 e_w4_0 d_w4_0 _ _))))
                          all_goals go_wp2_with fail
                          all_goals go_ret
                          all_goals refine ⟨rfl, ?_⟩
                          all_goals exact belz
                        · have F1 : decide (hi - lo > 400000000) = true := decide_eq_true (by omega)
                          go_quiet (fail)
                          go_wp2_with fail
                          go_ret
                          refine ⟨rfl, ?_⟩
                          exact belz
              · rw [show (((j + 1 : Nat) : Int) - 1) = (j : Int) by omega]
                have pw : (2 : Int) ^ (j + 1) = 2 * 2 ^ j := by rw [Int.pow_succ]; omega
                have p0 : (0 : Int) < 2 ^ j := Int.pow_pos (by decide)
                have pm : min j 64 = j := by omega
                rw [pw] at zl
                have sh : IntKind.i64.wrap (2 ^ j) = 2 ^ j := IntWalk.i64_in _ (by omega)
                have sh1 : IntKind.i64.wrap (1 * 2 ^ j) = 2 ^ j := by rw [Int.one_mul]; exact sh
                have sa : IntKind.i64.wrap (zz + 2 ^ j) = zz + 2 ^ j := IntWalk.i64_in _ (by omega)
                have HM := Lib.hid (fun w1 => c_fMul (zz + 2 ^ j) (zz + 2 ^ j) w1 (by omega) (by omega) (by omega) (by omega))
                unfold zbB at hzb
                by_cases hc : fm (zz + 2 ^ j) (zz + 2 ^ j) ≤ rest
                · rw [if_pos hc] at hzb
                  have HZB := Lib.hid hzb
                  clear hzb
                  go_wp2_with (go_at_call 31; (with_reducible refine (HM.out _).mono ?_); rintro e w' ⟨rfl, rfl⟩)
                  go_roundg j
                  case measure => omega
                  case rel => exact ⟨j, _, rfl, by omega, rfl, rfl, by omega, by omega, HZB.out, rfl⟩
                · rw [if_neg hc] at hzb
                  have HZB := Lib.hid hzb
                  clear hzb
                  go_wp2_with (go_at_call 31; (with_reducible refine (HM.out _).mono ?_); rintro e w' ⟨rfl, rfl⟩)
                  go_roundg j
                  case measure => omega
                  case rel => exact ⟨j, _, rfl, by omega, rfl, rfl, by omega, by omega, HZB.out, rfl⟩
end Go.Proofs.YtcgnhnmigmdalaaGreatDoor
