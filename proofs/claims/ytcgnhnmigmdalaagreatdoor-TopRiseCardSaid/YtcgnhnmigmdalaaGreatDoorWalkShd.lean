/- Contracts of place.Azimuth and dial.Shadow for the sun; the walk through the law DialShadows. -/
import Derived.Test.YtcgnhnmigmdalaaGreatDoorPlainShd
import Derived.Test.YtcgnhnmigmdalaaGreatDoorWalkLine
import Derived.Test.YtcgnhnmigmdalaaGreatDoorWalkRa
set_option linter.unusedVariables false
set_option linter.unusedSimpArgs false
namespace Go.Proofs.YtcgnhnmigmdalaaGreatDoor
open Go.RowKit
theorem c_Arc_openL (yl yh xl xh : Int) (w : World) (hy : spanErr yl yh = 0) (hx : spanErr xl xh = 0) (h1 : yl ≤ 0) (h2 : 0 ≤ yh) (h3 : xl ≤ 0) (h4 : 0 ≤ xh) : Calls Tryz.prog 52 #[.agg #[.int .i64 yl, .int .i64 yh], .agg #[.int .i64 xl, .int .i64 xh]] w fun e w' => e = .returned (.tuple #[.agg #[.int .i64 0, .int .i64 0], .int .i64 11]) ∧ Below w.heap.size w w' := by
  have i0 : ∀ w, (Instr.index 94 (.agg #[.int .i64 yl, .int .i64 yh, .int .i64 xl, .int .i64 xh]) (.int .i64 0)).run Tryz.prog w = .ok (.agg #[.int .i64 yl, .int .i64 yh]) w := fun _ => by kernel_rfl
  have i1 : ∀ w, (Instr.index 94 (.agg #[.int .i64 yl, .int .i64 yh, .int .i64 xl, .int .i64 xh]) (.int .i64 1)).run Tryz.prog w = .ok (.agg #[.int .i64 xl, .int .i64 xh]) w := fun _ => by kernel_rfl
  have HC := Lib.hid (fun w1 => c_intervalCheck yl yh w1)
  have HD := Lib.hid (fun w1 => c_intervalCheck xl xh w1)
  rw [hy] at HC
  rw [hx] at HD
  clear hy hx
  have g1 : decide (yl ≤ 0) = true := decide_eq_true h1
  have g2 : decide (0 ≤ yh) = true := decide_eq_true h2
  have g3 : decide (xl ≤ 0) = true := decide_eq_true h3
  have g4 : decide (0 ≤ xh) = true := decide_eq_true h4
  have hgen := sgen; have hgen2 := sgen2; have hgen3 := sgen3; go_enter Tryz.func52, Tryz.ntmps52
  go_wp2
  refine wp_loop_rounds 3 ?_
  rw [rounds_succ]
  go_wp2_with (go_at_call 87; (refine (HC.out _).mono ?_); rintro e w1 ⟨rfl, hb⟩; have hz := hb.size; (try simp only [szA, szS, szD, szN] at hz); (try (refine bcB (n := w.heap.size) hb ?_; intro h_w_0 e_w_0 d_w_0 _ _)); (try (refine bcB (n := w.heap.size + 1) hb ?_; intro h_w_1 e_w_1 d_w_1 _ _)); (try (refine bcB (n := w.heap.size + 2) hb ?_; intro h_w_2 e_w_2 d_w_2 _ _)); (try (refine bcB (n := w.heap.size + 3) hb ?_; intro h_w_3 e_w_3 d_w_3 _ _)))
  rw [rounds_succ]
  go_wp2_with (go_at_call 87; (refine (HD.out _).mono ?_); rintro e w2 ⟨rfl, hb⟩; have hz := hb.size; (try simp only [szA, szS, szD, szN] at hz); (try (refine bcB (n := w.heap.size) hb ?_; intro h_w_0 e_w_0 d_w_0 _ _)); (try (refine bcB (n := w.heap.size + 1) hb ?_; intro h_w_1 e_w_1 d_w_1 _ _)); (try (refine bcB (n := w.heap.size + 2) hb ?_; intro h_w_2 e_w_2 d_w_2 _ _)); (try (refine bcB (n := w.heap.size + 3) hb ?_; intro h_w_3 e_w_3 d_w_3 _ _)); (try (refine bcB (n := w1.heap.size) hb ?_; intro h_w1_0 e_w1_0 d_w1_0 _ _)); (try (refine bcB (n := w1.heap.size + 1) hb ?_; intro h_w1_1 e_w1_1 d_w1_1 _ _)))
  rw [rounds_succ]
  go_wp2
  refine bodyPost_ret (v := .tuple #[.agg #[.int .i64 0, .int .i64 0], .int .i64 11]) (by simp only [results, Tryz.results52]; go_simp) rfl ⟨rfl, ?_⟩
  exact belz
theorem c_AzV {lon lat t a0 a1 d0 d1 u0 u1 x0 x1 y0 y1 p q er : Int} (hl : LookR lon lat t a0 a1 d0 d1 u0 u1 x0 x1 y0 y1 0) (hA : ∀ w, Calls Tryz.prog 52 #[.agg #[.int .i64 x0, .int .i64 x1], .agg #[.int .i64 y0, .int .i64 y1]] w fun e w' => e = .returned (.tuple #[.agg #[.int .i64 p, .int .i64 q], .int .i64 er]) ∧ Below w.heap.size w w') (w : World) (hT : Tab w) :
    Calls Tryz.prog 17 #[.agg #[.int .i64 lon, .int .i64 lat], .agg #[.int .i64 a0, .int .i64 a1], .agg #[.int .i64 d0, .int .i64 d1], .int .i64 t] w fun e w' => e = .returned (.tuple #[.agg #[.int .i64 p, .int .i64 q], .int .i64 er]) ∧ Below w.heap.size w w' := by
  have HL := Lib.hid hl.c
  have HA := Lib.hid hA
  have HT := Lib.hid hT
  clear hl hT hA
  have hgen := sgen; have hgen2 := sgen2; have hgen3 := sgen3; go_enter Tryz.func17, Tryz.ntmps17
  go_wp2_with (first | (go_at_call 50; (with_reducible refine (HL.out _ (HT.out.below (by exact belz))).mono ?_); rintro e w1 ⟨rfl, hb⟩; have hz := hb.size; (try simp only [szA, szS, szD, szN] at hz); (try (refine bcB (n := w.heap.size) hb ?_; intro h_w_0 e_w_0 d_w_0 _ _)); (try (refine bcB (n := w.heap.size + 1) hb ?_; intro h_w_1 e_w_1 d_w_1 _ _)); (try (refine bcB (n := w.heap.size + 1 + 1) hb ?_; intro h_w_2 e_w_2 d_w_2 _ _)); (try (refine bcB (n := w.heap.size + 1 + 1 + 1) hb ?_; intro h_w_3 e_w_3 d_w_3 _ _))) | (go_at_call 52; (with_reducible refine (HA.out _).mono ?_); rintro e w2 ⟨rfl, hb⟩; have hz := hb.size; (try simp only [szA, szS, szD, szN] at hz); (try (refine bcB (n := w.heap.size) hb ?_; intro h_w_0 e_w_0 d_w_0 _ _)); (try (refine bcB (n := w.heap.size + 1) hb ?_; intro h_w_1 e_w_1 d_w_1 _ _)); (try (refine bcB (n := w.heap.size + 1 + 1) hb ?_; intro h_w_2 e_w_2 d_w_2 _ _)); (try (refine bcB (n := w.heap.size + 1 + 1 + 1) hb ?_; intro h_w_3 e_w_3 d_w_3 _ _)); (try (refine bcB (n := w1.heap.size) hb ?_; intro h_w1_0 e_w1_0 d_w1_0 _ _))))
  refine bodyPost_ret (v := .tuple #[.agg #[.int .i64 p, .int .i64 q], .int .i64 er]) (by simp only [results, Tryz.results17]; go_simp) rfl ⟨rfl, ?_⟩
  exact belz
def suE0 (lon t : Int) : Int := ea0 (lkH0 lon t (sraHi t)) (lkH1 lon t (sraLo t)) (sdeLo t) (sdeHi t)
def suE1 (lon t : Int) : Int := ea1 (lkH0 lon t (sraHi t)) (lkH1 lon t (sraLo t)) (sdeLo t) (sdeHi t)
def suN0 (lon lat t : Int) : Int := no0 lat (lkH0 lon t (sraHi t)) (lkH1 lon t (sraLo t)) (sdeLo t) (sdeHi t)
def suN1 (lon lat t : Int) : Int := no1 lat (lkH0 lon t (sraHi t)) (lkH1 lon t (sraLo t)) (sdeLo t) (sdeHi t)
theorem su_parts (lon lat t : Int) : Sp1 (suE0 lon t) (suE1 lon t) ∧ Sp1 (suN0 lon lat t) (suN1 lon lat t) := by
  obtain ⟨r, -⟩ := sun_all t
  have hh : lkH0 lon t (sraHi t) ≤ lkH1 lon t (sraLo t) := by have := r.ra2; have := (sid_ok lon t).o; unfold lkH0 lkH1; omega
  have sp := lk_sp lat hh r.de1
  exact ⟨sp.Ea, sp.No⟩
theorem su_az {lon lat t : Int} (hp : plB lon lat = true) (ht : instB t = true) :
    (∀ w, Tab w → Calls Tryz.prog 17 #[.agg #[.int .i64 lon, .int .i64 lat], .agg #[.int .i64 (sraLo t), .int .i64 (sraHi t)], .agg #[.int .i64 (sdeLo t), .int .i64 (sdeHi t)], .int .i64 t] w fun e w' => e = .returned (.tuple #[.agg #[.int .i64 0, .int .i64 0], .int .i64 11]) ∧ Below w.heap.size w w') ∨
    ∃ p q : Int, 0 ≤ p ∧ p < 1000000000 ∧ p ≤ q ∧ q - p ≤ 400000000 ∧ (∀ w, Tab w → Calls Tryz.prog 17 #[.agg #[.int .i64 lon, .int .i64 lat], .agg #[.int .i64 (sraLo t), .int .i64 (sraHi t)], .agg #[.int .i64 (sdeLo t), .int .i64 (sdeHi t)], .int .i64 t] w fun e w' => e = .returned (.tuple #[.agg #[.int .i64 p, .int .i64 q], .int .i64 0]) ∧ Below w.heap.size w w') ∧
      ∀ m, SLon t m → InArcOk ((p + 500000000) % 1000000000) ((q + 500000000) % 1000000000) (-(abSide (refSid lon t) (dirX m 0) (dirY m 0))) (-(abNo (refSid lon t) lat (dirX m 0) (dirY m 0) (dirZ m 0))) := by
  obtain ⟨r, -⟩ := sun_all t
  have r0 := r.ra0
  have r1 := r.ra1
  have r2 := r.ra2
  have r3 := r.ra3
  have hl := look_ok hp ht r.ra2 (by omega) (by omega) r.de1 r.de0 r.de2 (lon := lon) (lat := lat)
  obtain ⟨⟨eo, el, eh⟩, ⟨no, nl, nh⟩⟩ := su_parts lon lat t
  by_cases hzz : suE0 lon t ≤ 0 ∧ 0 ≤ suE1 lon t ∧ suN0 lon lat t ≤ 0 ∧ 0 ≤ suN1 lon lat t
  · left
    intro w hT
    exact c_AzV hl (fun w => c_Arc_openL (suE0 lon t) (suE1 lon t) (suN0 lon lat t) (suN1 lon lat t) w (spanErr0 (lo := suE0 lon t) (hi := suE1 lon t) eo (by omega) (by omega)) (spanErr0 (lo := suN0 lon lat t) (hi := suN1 lon lat t) no (by omega) (by omega)) hzz.1 hzz.2.1 hzz.2.2.1 hzz.2.2.2) w hT
  · obtain ⟨⟨D0, E, L, H, hv⟩, ho, ha⟩ := c_Arc_all (suE0 lon t) (suE1 lon t) (suN0 lon lat t) (suN1 lon lat t) eo no (by omega) (by omega) (by omega) (by omega) hzz
    by_cases hw : arcHi (suE0 lon t) (suE1 lon t) (suN0 lon lat t) (suN1 lon lat t) - arcLo (suE0 lon t) (suE1 lon t) (suN0 lon lat t) (suN1 lon lat t) ≤ 400000000
    · right
      have m1 := emod_bd (arcLo (suE0 lon t) (suE1 lon t) (suN0 lon lat t) (suN1 lon lat t))
      have m2 := emod_bd (arcHi (suE0 lon t) (suE1 lon t) (suN0 lon lat t) (suN1 lon lat t))
      refine ⟨arcLo (suE0 lon t) (suE1 lon t) (suN0 lon lat t) (suN1 lon lat t) % 1000000000, arcLo (suE0 lon t) (suE1 lon t) (suN0 lon lat t) (suN1 lon lat t) % 1000000000 + arcHi (suE0 lon t) (suE1 lon t) (suN0 lon lat t) (suN1 lon lat t) - arcLo (suE0 lon t) (suE1 lon t) (suN0 lon lat t) (suN1 lon lat t), m1.1, m1.2, by omega, by omega, ?_, ?_⟩
      · intro w hT
        refine c_AzV hl (fun w => (ha w).mono ?_) w hT
        rintro e w' ⟨⟨h, -⟩ | ⟨-, h⟩, hb⟩
        · omega
        · exact ⟨h, hb⟩
      · intro m hm
        have lk := sun_look lon lat hm
        have bs := lk.bs
        have bn := lk.bn
        obtain ⟨ue, un, ie, iN, he, hn⟩ := sun_lookS lon lat hm
        have e1 : (arcLo (suE0 lon t) (suE1 lon t) (suN0 lon lat t) (suN1 lon lat t) % 1000000000 + arcHi (suE0 lon t) (suE1 lon t) (suN0 lon lat t) (suN1 lon lat t) - arcLo (suE0 lon t) (suE1 lon t) (suN0 lon lat t) (suN1 lon lat t) + 500000000) % 1000000000 = (arcHi (suE0 lon t) (suE1 lon t) (suN0 lon lat t) (suN1 lon lat t) % 1000000000 + 500000000) % 1000000000 := by omega
        rw [e1]
        have c1 := arc_corners hv hw (y := suE0 lon t) (x := suN0 lon lat t) (.inl rfl) (.inl rfl)
        have c2 := arc_corners hv hw (y := suE1 lon t) (x := suN0 lon lat t) (.inr rfl) (.inl rfl)
        have c3 := arc_corners hv hw (y := suE0 lon t) (x := suN1 lon lat t) (.inl rfl) (.inr rfl)
        have c4 := arc_corners hv hw (y := suE1 lon t) (x := suN1 lon lat t) (.inr rfl) (.inr rfl)
        have q1 := rabs_int (n := suN0 lon lat t) (B := 1000000000) (by omega) (by omega)
        have q2 := rabs_int (n := suN1 lon lat t) (B := 1000000000) (by omega) (by omega)
        have q3 := rabs_int (n := suE0 lon t) (B := 1000000000) (by omega) (by omega)
        have q4 := rabs_int (n := suE1 lon t) (B := 1000000000) (by omega) (by omega)
        exact turned_ok m1.1 m1.2 m2.1 m2.2 c1 c2 c3 c4 q1 q2 q3 q4 iN.1 iN.2 ie.1 ie.2 he hn (rabs_int bs.1 bs.2) (rabs_int bn.1 bn.2)
    · left
      intro w hT
      refine c_AzV hl (fun w => (ha w).mono ?_) w hT
      rintro e w' ⟨⟨-, h⟩ | ⟨h, -⟩, hb⟩
      · exact ⟨h, hb⟩
      · omega
theorem c_Shd_open (lon lat t : Int) (w : World) (hT : Tab w) (hp : plB lon lat = true) (ht : instB t = true) (h : ¬ suU0 lon lat t ≤ 0) (hz : ∀ w, Tab w → Calls Tryz.prog 17 #[.agg #[.int .i64 lon, .int .i64 lat], .agg #[.int .i64 (sraLo t), .int .i64 (sraHi t)], .agg #[.int .i64 (sdeLo t), .int .i64 (sdeHi t)], .int .i64 t] w fun e w' => e = .returned (.tuple #[.agg #[.int .i64 0, .int .i64 0], .int .i64 11]) ∧ Below w.heap.size w w') :
    Calls Tryz.prog 43 #[.agg #[.int .i64 lon, .int .i64 lat], .int .i64 t] w fun e w' => e = .returned (.tuple #[.agg #[.int .i64 0, .int .i64 0], .int .i64 11]) ∧ Below w.heap.size w w' := by
  have hc := fun w1 => c_placeCheck lon lat w1
  rw [plE_t hp] at hc
  have HC := Lib.hid hc
  obtain ⟨i1, i2⟩ := inst_bd ht
  have hi := fun w1 => c_isInst t w1 (by omega) (by omega)
  rw [ht] at hi
  have HI := Lib.hid hi
  have HS := Lib.hid (fun w1 h1 => c_sunAt t w1 h1 ht)
  have HH := Lib.hid (fun w1 h1 => sun_height hp ht w1 h1)
  have HZ := Lib.hid hz
  have HT := Lib.hid hT
  have D := decide_eq_false h
  clear hc hp hi ht hT h hz
  generalize suU0 lon lat t = u0 at *
  generalize suU1 lon lat t = u1 at *
  generalize sraLo t = a0 at *
  generalize sraHi t = a1 at *
  generalize sdeLo t = d0 at *
  generalize sdeHi t = d1 at *
  have hgen := sgen; have hgen2 := sgen2; have hgen3 := sgen3; go_enter Tryz.func43, Tryz.ntmps43
  go_wp2_with (first | (go_at_call 83; (with_reducible refine (HC.out _).mono ?_); rintro e w1 ⟨rfl, hb⟩; have hz := hb.size; (try simp only [szA, szS, szD, szN] at hz); (try (refine bcB (n := w.heap.size) hb ?_; intro h_w_0 e_w_0 d_w_0 _ _)); (try (refine bcB (n := w.heap.size + 1) hb ?_; intro h_w_1 e_w_1 d_w_1 _ _))) | (go_at_call 54; (with_reducible refine (HI.out _).mono ?_); rintro e w6 ⟨rfl, hb⟩; have hz := hb.size; (try simp only [szA, szS, szD, szN] at hz); (try (refine bcB (n := w.heap.size) hb ?_; intro h_w_0 e_w_0 d_w_0 _ _)); (try (refine bcB (n := w.heap.size + 1) hb ?_; intro h_w_1 e_w_1 d_w_1 _ _)); (try (refine bcB (n := w1.heap.size) hb ?_; intro h_w1_0 e_w1_0 d_w1_0 _ _))) | (go_at_call 9; (with_reducible refine (HS.out _ (HT.out.below (by exact belz))).mono ?_); rintro e w2 ⟨rfl, hb⟩; have hz := hb.size; (try simp only [szA, szS, szD, szN] at hz); (try (refine bcB (n := w.heap.size) hb ?_; intro h_w_0 e_w_0 d_w_0 _ _)); (try (refine bcB (n := w.heap.size + 1) hb ?_; intro h_w_1 e_w_1 d_w_1 _ _)); (try (refine bcB (n := w1.heap.size) hb ?_; intro h_w1_0 e_w1_0 d_w1_0 _ _))) | (go_at_call 11; (with_reducible refine (HH.out _ (HT.out.below (by exact belz))).mono ?_); rintro e w3 ⟨rfl, hb⟩; have hz := hb.size; (try simp only [szA, szS, szD, szN] at hz); (try (refine bcB (n := w.heap.size) hb ?_; intro h_w_0 e_w_0 d_w_0 _ _)); (try (refine bcB (n := w.heap.size + 1) hb ?_; intro h_w_1 e_w_1 d_w_1 _ _)); (try (refine bcB (n := w1.heap.size) hb ?_; intro h_w1_0 e_w1_0 d_w1_0 _ _)); (try (refine bcB (n := w2.heap.size) hb ?_; intro h_w2_0 e_w2_0 d_w2_0 _ _)); (try (refine bcB (n := w2.heap.size + 1) hb ?_; intro h_w2_1 e_w2_1 d_w2_1 _ _))) | (go_at_call 17; (with_reducible refine (HZ.out _ (HT.out.below (by exact belz))).mono ?_); rintro e w4 ⟨rfl, hb⟩; have hz := hb.size; (try simp only [szA, szS, szD, szN] at hz); (try (refine bcB (n := w.heap.size) hb ?_; intro h_w_0 e_w_0 d_w_0 _ _)); (try (refine bcB (n := w.heap.size + 1) hb ?_; intro h_w_1 e_w_1 d_w_1 _ _)); (try (refine bcB (n := w1.heap.size) hb ?_; intro h_w1_0 e_w1_0 d_w1_0 _ _)); (try (refine bcB (n := w2.heap.size) hb ?_; intro h_w2_0 e_w2_0 d_w2_0 _ _)); (try (refine bcB (n := w2.heap.size + 1) hb ?_; intro h_w2_1 e_w2_1 d_w2_1 _ _)); (try (refine bcB (n := w3.heap.size) hb ?_; intro h_w3_0 e_w3_0 d_w3_0 _ _))))
  refine bodyPost_ret (v := .tuple #[.agg #[.int .i64 0, .int .i64 0], .int .i64 11]) (by simp only [results, Tryz.results43]; go_simp) rfl ⟨rfl, ?_⟩
  exact belz
theorem c_Shd_ok (lon lat t p q : Int) (w : World) (hT : Tab w) (hp : plB lon lat = true) (ht : instB t = true) (h : ¬ suU0 lon lat t ≤ 0) (p0 : 0 ≤ p) (p1 : p < 1000000000) (pq : p ≤ q) (q1 : q - p ≤ 400000000) (hz : ∀ w, Tab w → Calls Tryz.prog 17 #[.agg #[.int .i64 lon, .int .i64 lat], .agg #[.int .i64 (sraLo t), .int .i64 (sraHi t)], .agg #[.int .i64 (sdeLo t), .int .i64 (sdeHi t)], .int .i64 t] w fun e w' => e = .returned (.tuple #[.agg #[.int .i64 p, .int .i64 q], .int .i64 0]) ∧ Below w.heap.size w w') :
    Calls Tryz.prog 43 #[.agg #[.int .i64 lon, .int .i64 lat], .int .i64 t] w fun e w' => e = .returned (.tuple #[.agg #[.int .i64 ((p + 500000000) % 1000000000), .int .i64 ((p + 500000000) % 1000000000 + (q - p))], .int .i64 0]) ∧ Below w.heap.size w w' := by
  have hc := fun w1 => c_placeCheck lon lat w1
  rw [plE_t hp] at hc
  have HC := Lib.hid hc
  obtain ⟨i1, i2⟩ := inst_bd ht
  have hi := fun w1 => c_isInst t w1 (by omega) (by omega)
  rw [ht] at hi
  have HI := Lib.hid hi
  have HS := Lib.hid (fun w1 h1 => c_sunAt t w1 h1 ht)
  have HH := Lib.hid (fun w1 h1 => sun_height hp ht w1 h1)
  have HZ := Lib.hid hz
  have HT := Lib.hid hT
  have D := decide_eq_false h
  have hn := fun w1 => c_Norm (p + 500000000) (q + 500000000) w1 (by omega) (by omega) (by omega) (by omega)
  rw [show (p + 500000000) % 1000000000 + (q + 500000000) - (p + 500000000) = (p + 500000000) % 1000000000 + (q - p) by omega] at hn
  have HN := Lib.hid hn
  have V1 : IntKind.i64.wrap (p + 500000000) = p + 500000000 := IntWalk.i64_in _ (by omega)
  have V2 : IntKind.i64.wrap (q + 500000000) = q + 500000000 := IntWalk.i64_in _ (by omega)
  generalize (p + 500000000) % 1000000000 + (q - p) = s1 at *
  generalize (p + 500000000) % 1000000000 = s0 at *
  clear hc hp hi ht hT h hz hn
  generalize suU0 lon lat t = u0 at *
  generalize suU1 lon lat t = u1 at *
  generalize sraLo t = a0 at *
  generalize sraHi t = a1 at *
  generalize sdeLo t = d0 at *
  generalize sdeHi t = d1 at *
  have hgen := sgen; have hgen2 := sgen2; have hgen3 := sgen3; go_enter Tryz.func43, Tryz.ntmps43
  go_wp2_with (first | (go_at_call 83; (with_reducible refine (HC.out _).mono ?_); rintro e w1 ⟨rfl, hb⟩; have hz := hb.size; (try simp only [szA, szS, szD, szN] at hz); (try (refine bcB (n := w.heap.size) hb ?_; intro h_w_0 e_w_0 d_w_0 _ _)); (try (refine bcB (n := w.heap.size + 1) hb ?_; intro h_w_1 e_w_1 d_w_1 _ _))) | (go_at_call 54; (with_reducible refine (HI.out _).mono ?_); rintro e w6 ⟨rfl, hb⟩; have hz := hb.size; (try simp only [szA, szS, szD, szN] at hz); (try (refine bcB (n := w.heap.size) hb ?_; intro h_w_0 e_w_0 d_w_0 _ _)); (try (refine bcB (n := w.heap.size + 1) hb ?_; intro h_w_1 e_w_1 d_w_1 _ _)); (try (refine bcB (n := w1.heap.size) hb ?_; intro h_w1_0 e_w1_0 d_w1_0 _ _))) | (go_at_call 9; (with_reducible refine (HS.out _ (HT.out.below (by exact belz))).mono ?_); rintro e w2 ⟨rfl, hb⟩; have hz := hb.size; (try simp only [szA, szS, szD, szN] at hz); (try (refine bcB (n := w.heap.size) hb ?_; intro h_w_0 e_w_0 d_w_0 _ _)); (try (refine bcB (n := w.heap.size + 1) hb ?_; intro h_w_1 e_w_1 d_w_1 _ _)); (try (refine bcB (n := w1.heap.size) hb ?_; intro h_w1_0 e_w1_0 d_w1_0 _ _))) | (go_at_call 11; (with_reducible refine (HH.out _ (HT.out.below (by exact belz))).mono ?_); rintro e w3 ⟨rfl, hb⟩; have hz := hb.size; (try simp only [szA, szS, szD, szN] at hz); (try (refine bcB (n := w.heap.size) hb ?_; intro h_w_0 e_w_0 d_w_0 _ _)); (try (refine bcB (n := w.heap.size + 1) hb ?_; intro h_w_1 e_w_1 d_w_1 _ _)); (try (refine bcB (n := w1.heap.size) hb ?_; intro h_w1_0 e_w1_0 d_w1_0 _ _)); (try (refine bcB (n := w2.heap.size) hb ?_; intro h_w2_0 e_w2_0 d_w2_0 _ _)); (try (refine bcB (n := w2.heap.size + 1) hb ?_; intro h_w2_1 e_w2_1 d_w2_1 _ _))) | (go_at_call 17; (with_reducible refine (HZ.out _ (HT.out.below (by exact belz))).mono ?_); rintro e w4 ⟨rfl, hb⟩; have hz := hb.size; (try simp only [szA, szS, szD, szN] at hz); (try (refine bcB (n := w.heap.size) hb ?_; intro h_w_0 e_w_0 d_w_0 _ _)); (try (refine bcB (n := w.heap.size + 1) hb ?_; intro h_w_1 e_w_1 d_w_1 _ _)); (try (refine bcB (n := w1.heap.size) hb ?_; intro h_w1_0 e_w1_0 d_w1_0 _ _)); (try (refine bcB (n := w2.heap.size) hb ?_; intro h_w2_0 e_w2_0 d_w2_0 _ _)); (try (refine bcB (n := w2.heap.size + 1) hb ?_; intro h_w2_1 e_w2_1 d_w2_1 _ _)); (try (refine bcB (n := w3.heap.size) hb ?_; intro h_w3_0 e_w3_0 d_w3_0 _ _))) | (go_at_call 84; (with_reducible refine (HN.out _).mono ?_); rintro e w5 ⟨rfl, hb⟩; have hz := hb.size; (try simp only [szA, szS, szD, szN] at hz); (try (refine bcB (n := w.heap.size) hb ?_; intro h_w_0 e_w_0 d_w_0 _ _)); (try (refine bcB (n := w.heap.size + 1) hb ?_; intro h_w_1 e_w_1 d_w_1 _ _)); (try (refine bcB (n := w1.heap.size) hb ?_; intro h_w1_0 e_w1_0 d_w1_0 _ _)); (try (refine bcB (n := w2.heap.size) hb ?_; intro h_w2_0 e_w2_0 d_w2_0 _ _)); (try (refine bcB (n := w2.heap.size + 1) hb ?_; intro h_w2_1 e_w2_1 d_w2_1 _ _)); (try (refine bcB (n := w3.heap.size) hb ?_; intro h_w3_0 e_w3_0 d_w3_0 _ _)); (try (refine bcB (n := w4.heap.size) hb ?_; intro h_w4_0 e_w4_0 d_w4_0 _ _))))
  refine bodyPost_ret (v := .tuple #[.agg #[.int .i64 s0, .int .i64 s1], .int .i64 0]) (by simp only [results, Tryz.results43]; go_simp) rfl ⟨rfl, ?_⟩
  exact belz
end Go.Proofs.YtcgnhnmigmdalaaGreatDoor
