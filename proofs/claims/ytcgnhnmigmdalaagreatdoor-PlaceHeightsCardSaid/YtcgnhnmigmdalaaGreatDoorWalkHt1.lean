/- Contracts of place.Altitude, Ground and Azimuth. -/
import Derived.Test.YtcgnhnmigmdalaaGreatDoorWalkLk2
import Derived.Test.YtcgnhnmigmdalaaGreatDoorWalkPlw
import Derived.Test.YtcgnhnmigmdalaaGreatDoorPlainHt7
set_option linter.unusedVariables false
set_option linter.unusedSimpArgs false
set_option maxRecDepth 100000
namespace Go.Proofs.YtcgnhnmigmdalaaGreatDoor
open Go.RowKit
theorem c_atH (k n : Int) (w : World) (k1 : -9223372036854775808 ≤ k) (k2 : k ≤ 9223372036854775807) (n1 : 0 < n) (n2 : n ≤ 4000000000000000000) :
    Calls Tryz.prog 8 #[.int .i64 k, .int .i64 n] w fun e w' => e = .returned (.int .i64 (k % n)) ∧ w = w' := by
  have b0 : (n == 0) = false := by simp; omega
  have h2 := Int.tmod_lt_of_pos k n1
  have h3 : -n < k.tmod n := by
    have := Int.neg_tmod k n
    have h4 := Int.tmod_lt_of_pos (-k) n1
    omega
  have e := tmod_twice (k := k) n1
  have z1 : IntKind.i64.wrap (k.tmod n) = k.tmod n := by rw [IntKind.wrap_i64]; omega
  have z2 : IntKind.i64.wrap (k.tmod n + n) = k.tmod n + n := by rw [IntKind.wrap_i64]; omega
  have z3 : IntKind.i64.wrap ((k.tmod n + n).tmod n) = (k.tmod n + n).tmod n := by
    rw [e, IntKind.wrap_i64]
    have := Int.emod_nonneg k (show n ≠ 0 by omega)
    have := Int.emod_lt_of_pos k n1
    omega
  have hgen := sgen; have hgen2 := sgen2; have hgen3 := sgen3; go_enter Tryz.func8, Tryz.ntmps8
  go_wp2
  go_ret
  exact ⟨rfl, rfl⟩
set_option maxHeartbeats 1000000 in
theorem c_GroundH {lon lat t a0 a1 d0 d1 u0 u1 x0 x1 y0 y1 er : Int} (hl : LookR lon lat t a0 a1 d0 d1 u0 u1 x0 x1 y0 y1 er) (w : World) (hT : Tab w) :
    Calls Tryz.prog 16 #[.agg #[.int .i64 lon, .int .i64 lat], .agg #[.int .i64 a0, .int .i64 a1], .agg #[.int .i64 d0, .int .i64 d1], .int .i64 t] w fun e w' => e = .returned (.tuple #[.agg #[.int .i64 x0, .int .i64 x1], .agg #[.int .i64 y0, .int .i64 y1], .int .i64 er]) ∧ Below w.heap.size w w' := by
  have HL := Lib.hid hl.c
  have HT := Lib.hid hT
  clear hl hT
  have hgen := sgen; have hgen2 := sgen2; have hgen3 := sgen3; go_enter Tryz.func16, Tryz.ntmps16
  go_upto_region 2 with (go_at_call 50; (refine (HL.out _ (HT.out.below (by exact belz))).mono ?_); rintro e w1 ⟨rfl, hb⟩; have hz := hb.size; (try simp only [szA, szS, szD, szN] at hz); (try (refine bcB (n := w.heap.size) hb ?_; intro h_w_0 e_w_0 d_w_0 _ _)); (try (refine bcB (n := w.heap.size + 1) hb ?_; intro h_w_1 e_w_1 d_w_1 _ _)); (try (refine bcB (n := w.heap.size + 1 + 1) hb ?_; intro h_w_2 e_w_2 d_w_2 _ _)); (try (refine bcB (n := w.heap.size + 1 + 1 + 1) hb ?_; intro h_w_3 e_w_3 d_w_3 _ _)); (try (refine bcB (n := w.heap.size + 1 + 1 + 1 + 1) hb ?_; intro h_w_4 e_w_4 d_w_4 _ _)))
  go_region
  all_goals go_wp2_with fail
  all_goals
    refine bodyPost_ret (v := .tuple #[.agg #[.int .i64 x0, .int .i64 x1], .agg #[.int .i64 y0, .int .i64 y1], .int .i64 er]) (by simp only [results, Tryz.results16]; go_simp) rfl ⟨rfl, ?_⟩
    exact belz
theorem c_AltH {lon lat t a0 a1 d0 d1 u0 u1 x0 x1 y0 y1 : Int} (hl : LookR lon lat t a0 a1 d0 d1 u0 u1 x0 x1 y0 y1 0) (hu : spanErr u0 u1 = 0) (w : World) (hT : Tab w) :
    Calls Tryz.prog 15 #[.agg #[.int .i64 lon, .int .i64 lat], .agg #[.int .i64 a0, .int .i64 a1], .agg #[.int .i64 d0, .int .i64 d1], .int .i64 t] w fun e w' => e = .returned (.tuple #[.agg #[.int .i64 (asLo u0), .int .i64 (asHi u1)], .int .i64 0]) ∧ Below w.heap.size w w' := by
  have HH := Lib.hid (fun w1 h1 => c_Height hl w1 h1)
  have HA := Lib.hid (fun w1 => c_ArcSin_ok u0 u1 w1 hu)
  have HT := Lib.hid hT
  clear hl hT hu
  generalize asLo u0 = p at *
  generalize asHi u1 = q at *
  have hgen := sgen; have hgen2 := sgen2; have hgen3 := sgen3; go_enter Tryz.func15, Tryz.ntmps15
  go_wp2_with (first | (go_at_call 11; (with_reducible refine (HH.out _ (HT.out.below (by exact belz))).mono ?_); rintro e w1 ⟨rfl, hb⟩; have hz := hb.size; (try simp only [szA, szS, szD, szN] at hz); (try (refine bcB (n := w.heap.size) hb ?_; intro h_w_0 e_w_0 d_w_0 _ _)); (try (refine bcB (n := w.heap.size + 1) hb ?_; intro h_w_1 e_w_1 d_w_1 _ _)); (try (refine bcB (n := w.heap.size + 1 + 1) hb ?_; intro h_w_2 e_w_2 d_w_2 _ _)); (try (refine bcB (n := w.heap.size + 1 + 1 + 1) hb ?_; intro h_w_3 e_w_3 d_w_3 _ _))) | (go_at_call 51; (with_reducible refine (HA.out _).mono ?_); rintro e w2 ⟨rfl, hb⟩; have hz := hb.size; (try simp only [szA, szS, szD, szN] at hz); (try (refine bcB (n := w.heap.size) hb ?_; intro h_w_0 e_w_0 d_w_0 _ _)); (try (refine bcB (n := w.heap.size + 1) hb ?_; intro h_w_1 e_w_1 d_w_1 _ _)); (try (refine bcB (n := w.heap.size + 1 + 1) hb ?_; intro h_w_2 e_w_2 d_w_2 _ _)); (try (refine bcB (n := w.heap.size + 1 + 1 + 1) hb ?_; intro h_w_3 e_w_3 d_w_3 _ _)); (try (refine bcB (n := w1.heap.size) hb ?_; intro h_w1_0 e_w1_0 d_w1_0 _ _))))
  refine bodyPost_ret (v := .tuple #[.agg #[.int .i64 p, .int .i64 q], .int .i64 0]) (by simp only [results, Tryz.results15]; go_simp) rfl ⟨rfl, ?_⟩
  exact belz
theorem c_AziH {lon lat t a0 a1 d0 d1 u0 u1 x0 x1 y0 y1 p q er : Int} (hl : LookR lon lat t a0 a1 d0 d1 u0 u1 x0 x1 y0 y1 0) (hA : ∀ w, Calls Tryz.prog 52 #[.agg #[.int .i64 x0, .int .i64 x1], .agg #[.int .i64 y0, .int .i64 y1]] w fun e w' => e = .returned (.tuple #[.agg #[.int .i64 p, .int .i64 q], .int .i64 er]) ∧ Below w.heap.size w w') (w : World) (hT : Tab w) :
    Calls Tryz.prog 17 #[.agg #[.int .i64 lon, .int .i64 lat], .agg #[.int .i64 a0, .int .i64 a1], .agg #[.int .i64 d0, .int .i64 d1], .int .i64 t] w fun e w' => e = .returned (.tuple #[.agg #[.int .i64 p, .int .i64 q], .int .i64 er]) ∧ Below w.heap.size w w' := by
  have HL := Lib.hid hl.c
  have HA := Lib.hid hA
  have HT := Lib.hid hT
  clear hl hT hA
  have hgen := sgen; have hgen2 := sgen2; have hgen3 := sgen3; go_enter Tryz.func17, Tryz.ntmps17
  go_wp2_with (first | (go_at_call 50; (with_reducible refine (HL.out _ (HT.out.below (by exact belz))).mono ?_); rintro e w1 ⟨rfl, hb⟩; have hz := hb.size; (try simp only [szA, szS, szD, szN] at hz); (try (refine bcB (n := w.heap.size) hb ?_; intro h_w_0 e_w_0 d_w_0 _ _)); (try (refine bcB (n := w.heap.size + 1) hb ?_; intro h_w_1 e_w_1 d_w_1 _ _)); (try (refine bcB (n := w.heap.size + 1 + 1) hb ?_; intro h_w_2 e_w_2 d_w_2 _ _)); (try (refine bcB (n := w.heap.size + 1 + 1 + 1) hb ?_; intro h_w_3 e_w_3 d_w_3 _ _))) | (go_at_call 52; (with_reducible refine (HA.out _).mono ?_); rintro e w2 ⟨rfl, hb⟩; have hz := hb.size; (try simp only [szA, szS, szD, szN] at hz); (try (refine bcB (n := w.heap.size) hb ?_; intro h_w_0 e_w_0 d_w_0 _ _)); (try (refine bcB (n := w.heap.size + 1) hb ?_; intro h_w_1 e_w_1 d_w_1 _ _)); (try (refine bcB (n := w.heap.size + 1 + 1) hb ?_; intro h_w_2 e_w_2 d_w_2 _ _)); (try (refine bcB (n := w.heap.size + 1 + 1 + 1) hb ?_; intro h_w_3 e_w_3 d_w_3 _ _)); (try (refine bcB (n := w1.heap.size) hb ?_; intro h_w1_0 e_w1_0 d_w1_0 _ _))))
  refine bodyPost_ret (v := .tuple #[.agg #[.int .i64 p, .int .i64 q], .int .i64 er]) (by simp only [results, Tryz.results17]; go_simp) rfl ⟨rfl, ?_⟩
  exact belz
/-- What place.Azimuth answers where look has the parts. -/
theorem azi_all {lon lat t a0 a1 d0 d1 : Int} (hp : plB lon lat = true) (ht : instB t = true) (a : a0 ≤ a1) (a2 : -1000000000 ≤ a0) (a3 : a1 ≤ 3000000000) (d : d0 ≤ d1) (d2 : -250000000 ≤ d0) (d3 : d1 ≤ 250000000) :
    (∀ w, Tab w → Calls Tryz.prog 17 #[.agg #[.int .i64 lon, .int .i64 lat], .agg #[.int .i64 a0, .int .i64 a1], .agg #[.int .i64 d0, .int .i64 d1], .int .i64 t] w fun e w' => e = .returned (.tuple #[.agg #[.int .i64 0, .int .i64 0], .int .i64 11]) ∧ Below w.heap.size w w') ∨
    ∃ p q : Int, 0 ≤ p ∧ p < 1000000000 ∧ p ≤ q ∧ q - p ≤ 400000000 ∧ (∀ w, Tab w → Calls Tryz.prog 17 #[.agg #[.int .i64 lon, .int .i64 lat], .agg #[.int .i64 a0, .int .i64 a1], .agg #[.int .i64 d0, .int .i64 d1], .int .i64 t] w fun e w' => e = .returned (.tuple #[.agg #[.int .i64 p, .int .i64 q], .int .i64 0]) ∧ Below w.heap.size w w') ∧
      ∀ x y z, LookX lon lat t a0 a1 d0 d1 x y z → LookOk lon lat t a0 a1 d0 d1 x y z → InArcOk p (q % 1000000000) (abSide (refSid lon t) x y) (abNo (refSid lon t) lat x y z) := by
  have hl := look_ok (t := t) hp ht a a2 a3 d d2 d3
  have hh : lkH0 lon t a1 ≤ lkH1 lon t a0 := by have := (sid_ok lon t).o; unfold lkH0 lkH1; omega
  have sp := lk_sp lat hh d
  obtain ⟨e0, e1, e2⟩ := sp.Ea
  obtain ⟨n0, n1, n2⟩ := sp.No
  have ar := fun (x y z : Int) (h : LookX lon lat t a0 a1 d0 d1 x y z) (h' : LookOk lon lat t a0 a1 d0 d1 x y z) {D0 L H : Rat} {E : Nat → Rat} (hv : ArcV _ _ _ _ D0 E L H) hw => ht_arc hh d h h' (D0 := D0) (L := L) (H := H) (E := E) hv hw
  clear sp
  generalize ea0 (lkH0 lon t a1) (lkH1 lon t a0) d0 d1 = x0 at *
  generalize ea1 (lkH0 lon t a1) (lkH1 lon t a0) d0 d1 = x1 at *
  generalize no0 lat (lkH0 lon t a1) (lkH1 lon t a0) d0 d1 = y0 at *
  generalize no1 lat (lkH0 lon t a1) (lkH1 lon t a0) d0 d1 = y1 at *
  by_cases hz : x0 ≤ 0 ∧ 0 ≤ x1 ∧ y0 ≤ 0 ∧ 0 ≤ y1
  · left
    obtain ⟨z1, z2, z3, z4⟩ := hz
    exact fun w hT => c_AziH hl (fun w1 => c_Arc_open x0 x1 y0 y1 w1 (spanErr0 e0 (by omega) (by omega)) (spanErr0 n0 (by omega) (by omega)) z1 z2 z3 z4) w hT
  · obtain ⟨⟨D0, E, L, H, hv⟩, ho, ha⟩ := c_Arc_all x0 x1 y0 y1 e0 n0 (by omega) (by omega) (by omega) (by omega) hz
    by_cases hw : arcHi x0 x1 y0 y1 - arcLo x0 x1 y0 y1 ≤ 400000000
    · right
      have m := emod_bd (arcLo x0 x1 y0 y1)
      refine ⟨arcLo x0 x1 y0 y1 % 1000000000, arcLo x0 x1 y0 y1 % 1000000000 + arcHi x0 x1 y0 y1 - arcLo x0 x1 y0 y1, m.1, m.2, by omega, by omega, fun w hT => c_AziH hl (fun w1 => (ha w1).mono ?_) w hT, ?_⟩
      · rintro e w' ⟨⟨h, -⟩ | ⟨-, h⟩, hb⟩
        · omega
        · exact ⟨h, hb⟩
      · intro x y z h h'
        rw [show (arcLo x0 x1 y0 y1 % 1000000000 + arcHi x0 x1 y0 y1 - arcLo x0 x1 y0 y1) % 1000000000 = arcHi x0 x1 y0 y1 % 1000000000 by omega]
        exact ar x y z h h' hv hw
    · left
      refine fun w hT => c_AziH hl (fun w1 => (ha w1).mono ?_) w hT
      rintro e w' ⟨⟨-, h⟩ | ⟨h, -⟩, hb⟩
      · exact ⟨h, hb⟩
      · omega
end Go.Proofs.YtcgnhnmigmdalaaGreatDoor
