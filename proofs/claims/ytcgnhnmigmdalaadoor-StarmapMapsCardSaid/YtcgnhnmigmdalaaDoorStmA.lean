/- A star's parts to the east and to the north lie in the map's intervals, by the reference's narrow test. No program in sight. The walk through the law StarmapMaps. -/
import Derived.Test.YtcgnhnmigmdalaaDoorAbB
import Derived.Test.YtcgnhnmigmdalaaDoorSmpA
import Derived.Test.YtcgnhnmigmdalaaDoorTrL
import Derived.Test.YtcgnhnmigmdalaaDoorAsA
set_option linter.unusedVariables false
set_option linter.unusedSimpArgs false
namespace Go.Proofs.YtcgnhnmigmdalaaDoor
section
open Ieee
/-- The sines' squares, closely. -/
theorem circX {z : Rat} (z0 : 0 ≤ z) (z1 : z ≤ 1000000000) : rabs (S (tq * z) * S (tq * z) + C (tq * z) * C (tq * z) - 1) ≤ 1 / 1000000000000000 := by
  have hp := pi_num
  have A0 := tq_le z0
  have A1 := tq_le z1
  rw [tq_turn] at A1
  have hy : rabs (tq * z / 2) ≤ 16/5 := rabs_le.2 ⟨by grind, by grind⟩
  have s := rabs_le.1 (sin_double20 hy)
  have c := rabs_le.1 (cos_double20 hy)
  have k := rabs_le.1 (circ20 hy)
  have e : 2 * (tq * z / 2) = tq * z := by grind
  rw [e] at s c
  have t : (1 : Rat) / 10 ^ 20 ≤ 1 / 100000000000000000000 := by decide +kernel
  have b := SC_bd (y := tq * z / 2) (by grind)
  have b1 := rabs_le.1 b.1
  have b2 := rabs_le.1 b.2
  have bz := SC_bd (y := tq * z) (rabs_le.2 ⟨by grind, by grind⟩)
  generalize S (tq * z / 2) = p at *
  generalize C (tq * z / 2) = q at *
  generalize hs : S (tq * z) - 2 * p * q = ε at *
  generalize hc : C (tq * z) - (1 - 2 * p * p) = δ at *
  have es : S (tq * z) = 2 * p * q + ε := by grind
  have ec : C (tq * z) = 1 - 2 * p * p + δ := by grind
  have k1 : rabs (p * p + q * q - 1) ≤ 1 / 100000000000000000000 := rabs_le.2 ⟨by grind, by grind⟩
  have be : rabs ε ≤ 1 / 100000000000000000000 := rabs_le.2 ⟨by grind, by grind⟩
  have bd : rabs δ ≤ 1 / 100000000000000000000 := rabs_le.2 ⟨by grind, by grind⟩
  have m1 := rabs_le.1 (mul_rabs be bz.1)
  have m2 := rabs_le.1 (mul_rabs bd bz.2)
  have pp : rabs (p * p) ≤ 101/100 := by have := mul_rabs b.1 b.1; grind
  have pq : rabs (p * q) ≤ 101/100 := by have := mul_rabs b.1 b.2; grind
  have m3 := rabs_le.1 (mul_rabs pp k1)
  have m4 := rabs_le.1 (mul_rabs pq be)
  have m5 := rabs_le.1 (mul_rabs pp bd)
  have bd' := rabs_le.1 bd
  have E : S (tq * z) * S (tq * z) + C (tq * z) * C (tq * z) - 1 = 4 * (p * p * (p * p + q * q - 1)) + 2 * (p * q * ε) + ε * S (tq * z) - 4 * 0 + (δ - 2 * (p * p * δ)) + δ * C (tq * z) := by
    rw [es, ec]; grind
  rw [E]
  clear E es ec hs hc b b1 b2 bz pp pq k1 be bd hy s c k
  generalize p * p * (p * p + q * q - 1) = w1 at *
  generalize p * q * ε = w2 at *
  generalize ε * S (tq * z) = w3 at *
  generalize p * p * δ = w4 at *
  generalize δ * C (tq * z) = w5 at *
  rw [rabs_le]; constructor <;> grind
theorem shift_of {z e a : Rat} (z0 : 0 ≤ z) (z1 : z ≤ 1000000000) (hS : rabs (S (tq * z) - e) ≤ 1 / 1000000000000) (hC : rabs (C (tq * z) - 1) ≤ 1 / 1000000000000) (a0 : 0 ≤ a) (a1 : a ≤ 1000000000) :
    ∃ (h : Rat) (j : Int), 0 ≤ h ∧ h ≤ 1000000000 ∧ h = a - z + (j : Rat) * 1000000000 ∧ rabs (S (tq * h) - (S (tq * a) - C (tq * a) * e)) ≤ 4 / 100000000000 ∧ rabs (C (tq * h) - (C (tq * a) + S (tq * a) * e)) ≤ 4 / 100000000000 := by
  obtain ⟨h, j, h0, h1, hh⟩ : ∃ (h : Rat) (j : Int), 0 ≤ h ∧ h ≤ 1000000000 ∧ h = a - z + (j : Rat) * 1000000000 := by
    by_cases q : z ≤ a
    · exact ⟨a - z, 0, by grind, by grind, by rw [show ((0 : Int) : Rat) = 0 from rfl]; grind⟩
    · exact ⟨a - z + 1000000000, 1, by grind, by grind, by rw [show ((1 : Int) : Rat) = 1 from rfl]; grind⟩
  obtain ⟨k1, k2⟩ := sc_minus a0 a1 z0 z1 h0 h1 hh
  have n := sc_one a0 a1
  have m1 := rabs_le.1 (mul_rabs n.1 hC)
  have m2 := rabs_le.1 (mul_rabs n.2 hS)
  have m3 := rabs_le.1 (mul_rabs n.2 hC)
  have m4 := rabs_le.1 (mul_rabs n.1 hS)
  have k1 := rabs_le.1 k1
  have k2 := rabs_le.1 k2
  refine ⟨h, j, h0, h1, hh, ?_, ?_⟩
  · rw [rabs_le]; constructor <;> grind
  · rw [rabs_le]; constructor <;> grind
theorem num98 : rabs (S (tq * 98) - 615752 / 1000000000000) ≤ 1 / 1000000000000 ∧ rabs (C (tq * 98) - 1) ≤ 1 / 1000000000000 ∧ rabs (S (tq * 999999902) - -(615752 / 1000000000000)) ≤ 1 / 1000000000000 ∧ rabs (C (tq * 999999902) - 1) ≤ 1 / 1000000000000 := by decide +kernel
theorem num99 : rabs (S (tq * 99) - 622035 / 1000000000000) ≤ 1 / 1000000000000 ∧ rabs (C (tq * 99) - 1) ≤ 1 / 1000000000000 ∧ rabs (S (tq * 999999901) - -(622035 / 1000000000000)) ≤ 1 / 1000000000000 ∧ rabs (C (tq * 999999901) - 1) ≤ 1 / 1000000000000 := by decide +kernel
/-- A point of the rectangle of angles. -/
structure VPt (h0 h1 d0 d1 : Int) (zh zd : Rat) : Prop where
  a0 : 0 ≤ zh
  a1 : zh ≤ 1000000000
  b0 : 0 ≤ zd
  b1 : zd ≤ 1000000000
  kh : ∃ k : Int, (h0 : Rat) - 1/500 ≤ zh + (k : Rat) * 1000000000 ∧ zh + (k : Rat) * 1000000000 ≤ (h1 : Rat) + 1/500
  kd : ∃ k : Int, (d0 : Rat) - 1/500 ≤ zd + (k : Rat) * 1000000000 ∧ zd + (k : Rat) * 1000000000 ≤ (d1 : Rat) + 1/500
/-- A point well within it. -/
structure WPt (h0 h1 d0 d1 : Int) (zh zd : Rat) : Prop where
  a0 : 0 ≤ zh
  a1 : zh ≤ 1000000000
  b0 : 0 ≤ zd
  b1 : zd ≤ 1000000000
  kh : ∃ k : Int, (h0 : Rat) + 98 ≤ zh + (k : Rat) * 1000000000 ∧ zh + (k : Rat) * 1000000000 ≤ (h1 : Rat) - 98
  kd : ∃ k : Int, (d0 : Rat) + 99 ≤ zd + (k : Rat) * 1000000000 ∧ zd + (k : Rat) * 1000000000 ≤ (d1 : Rat) - 99
  s : 14/100 ≤ S (tq * zd) ∨ S (tq * zd) ≤ -(14/100)
  c : 128/10000 ≤ C (tq * zd)
theorem WPt.moveH {h0 h1 d0 d1 j m : Int} {zh zd h z : Rat} (p : WPt h0 h1 d0 d1 zh zd) (g0 : 0 ≤ h) (g1 : h ≤ 1000000000) (hh : h = zh - z + (j : Rat) * 1000000000) (hz : rabs (z - (m : Rat) * 1000000000) ≤ 98) : VPt h0 h1 d0 d1 h zd := by
  obtain ⟨a0, a1, b0, b1, ⟨k, k1, k2⟩, ⟨l, l1, l2⟩, -, -⟩ := p
  have hz := rabs_le.1 hz
  refine ⟨g0, g1, b0, b1, ⟨k - j + m, ?_, ?_⟩, ⟨l, by grind, by grind⟩⟩
  · rw [hh]; push_cast; grind
  · rw [hh]; push_cast; grind
theorem WPt.moveD {h0 h1 d0 d1 j m : Int} {zh zd h z : Rat} (p : WPt h0 h1 d0 d1 zh zd) (g0 : 0 ≤ h) (g1 : h ≤ 1000000000) (hh : h = zd - z + (j : Rat) * 1000000000) (hz : rabs (z - (m : Rat) * 1000000000) ≤ 99) : VPt h0 h1 d0 d1 zh h := by
  obtain ⟨a0, a1, b0, b1, ⟨k, k1, k2⟩, ⟨l, l1, l2⟩, -, -⟩ := p
  have hz := rabs_le.1 hz
  refine ⟨a0, a1, g0, g1, ⟨k, by grind, by grind⟩, ⟨l - j + m, ?_, ?_⟩⟩
  · rw [hh]; push_cast; grind
  · rw [hh]; push_cast; grind
theorem prod_low {a b A B : Rat} (ha : A ≤ a) (hb : B ≤ b) (A0 : 0 ≤ A) (B0 : 0 ≤ B) : A * B ≤ a * b := by
  have m1 := Rat.mul_le_mul_of_nonneg_right ha B0
  have m2 := Rat.mul_le_mul_of_nonneg_left hb (show 0 ≤ a by grind)
  grind
theorem east_pts {h0 h1 d0 d1 : Int} {zh zd : Rat} (p : WPt h0 h1 d0 d1 zh zd) :
    (∃ zh' zd', VPt h0 h1 d0 d1 zh' zd' ∧ -(C (tq * zd) * S (tq * zh)) + 4 / 1000000000 ≤ -(C (tq * zd') * S (tq * zh'))) ∧ (∃ zh' zd', VPt h0 h1 d0 d1 zh' zd' ∧ -(C (tq * zd') * S (tq * zh')) ≤ -(C (tq * zd) * S (tq * zh)) - 4 / 1000000000) := by
  have c := rabs_le.1 (circX p.a0 p.a1)
  have nd := sc_one p.b0 p.b1
  have nh := sc_one p.a0 p.a1
  obtain ⟨n1, n2, n3, n4⟩ := num98
  obtain ⟨m1, m2, m3, m4⟩ := num99
  have z98 : rabs ((98 : Rat) - ((0 : Int) : Rat) * 1000000000) ≤ 98 := by decide +kernel
  have y98 : rabs ((999999902 : Rat) - ((1 : Int) : Rat) * 1000000000) ≤ 98 := by decide +kernel
  have z99 : rabs ((99 : Rat) - ((0 : Int) : Rat) * 1000000000) ≤ 99 := by decide +kernel
  have y99 : rabs ((999999901 : Rat) - ((1 : Int) : Rat) * 1000000000) ≤ 99 := by decide +kernel
  obtain ⟨a, ja, a0, a1, ae, aS, -⟩ := shift_of (z := 98) (e := 615752 / 1000000000000) (by grind) (by grind) n1 n2 p.a0 p.a1
  obtain ⟨b, jb, b0, b1, be, bS, -⟩ := shift_of (z := 999999902) (e := -(615752 / 1000000000000)) (by grind) (by grind) n3 n4 p.a0 p.a1
  obtain ⟨x, jx, x0, x1, xe, -, xc⟩ := shift_of (z := 99) (e := 622035 / 1000000000000) (by grind) (by grind) m1 m2 p.b0 p.b1
  obtain ⟨y, jy, y0, y1, ye, -, yc⟩ := shift_of (z := 999999901) (e := -(622035 / 1000000000000)) (by grind) (by grind) m3 m4 p.b0 p.b1
  have va := p.moveH (m := 0) a0 a1 ae z98
  have vb := p.moveH (m := 1) b0 b1 be y98
  have vx := p.moveD (m := 0) x0 x1 xe z99
  have vy := p.moveD (m := 1) y0 y1 ye y99
  have ga := rabs_le.1 (mul_rabs nd.2 aS)
  have gb := rabs_le.1 (mul_rabs nd.2 bS)
  have gx := rabs_le.1 (mul_rabs xc nh.1)
  have gy := rabs_le.1 (mul_rabs yc nh.1)
  have ps := p.s
  have pc := p.c
  clear n1 n2 n3 n4 m1 m2 m3 m4 aS bS xc yc ae be xe ye nd
  have hh : 7/10 ≤ C (tq * zh) ∨ C (tq * zh) ≤ -(7/10) ∨ 7/10 ≤ S (tq * zh) ∨ S (tq * zh) ≤ -(7/10) := by
    by_cases q1 : 7/10 ≤ C (tq * zh)
    · exact .inl q1
    · by_cases q2 : C (tq * zh) ≤ -(7/10)
      · exact .inr (.inl q2)
      · right; right
        have u := sq_bd (show rabs (C (tq * zh)) ≤ 7/10 from rabs_le.2 ⟨by grind, by grind⟩)
        by_cases q3 : 7/10 ≤ S (tq * zh)
        · exact .inl q3
        · by_cases q4 : S (tq * zh) ≤ -(7/10)
          · exact .inr q4
          · exfalso
            have v := sq_bd (show rabs (S (tq * zh)) ≤ 7/10 from rabs_le.2 ⟨by grind, by grind⟩)
            grind
  clear c nh
  generalize hS : S (tq * zh) = s at *
  generalize hC : C (tq * zh) = cc at *
  generalize hD : C (tq * zd) = d at *
  generalize S (tq * zd) = f at *
  rcases hh with q | q | q | q
  · have m := prod_low pc q (by decide +kernel) (by decide +kernel)
    refine ⟨⟨a, zd, va, ?_⟩, ⟨b, zd, vb, ?_⟩⟩
    · rw [hD]; grind
    · rw [hD]; grind
  · have m := prod_low pc (show 7/10 ≤ -cc by grind) (by decide +kernel) (by decide +kernel)
    refine ⟨⟨b, zd, vb, ?_⟩, ⟨a, zd, va, ?_⟩⟩
    · rw [hD]; grind
    · rw [hD]; grind
  · rcases ps with g | g
    · have m := prod_low g q (by decide +kernel) (by decide +kernel)
      refine ⟨⟨zh, y, vy, ?_⟩, ⟨zh, x, vx, ?_⟩⟩
      · rw [hS]; grind
      · rw [hS]; grind
    · have m := prod_low (show 14/100 ≤ -f by grind) q (by decide +kernel) (by decide +kernel)
      refine ⟨⟨zh, x, vx, ?_⟩, ⟨zh, y, vy, ?_⟩⟩
      · rw [hS]; grind
      · rw [hS]; grind
  · rcases ps with g | g
    · have m := prod_low g (show 7/10 ≤ -s by grind) (by decide +kernel) (by decide +kernel)
      refine ⟨⟨zh, x, vx, ?_⟩, ⟨zh, y, vy, ?_⟩⟩
      · rw [hS]; grind
      · rw [hS]; grind
    · have m := prod_low (show 14/100 ≤ -f by grind) (show 7/10 ≤ -s by grind) (by decide +kernel) (by decide +kernel)
      refine ⟨⟨zh, y, vy, ?_⟩, ⟨zh, x, vx, ?_⟩⟩
      · rw [hS]; grind
      · rw [hS]; grind
theorem east_in (lat : Int) {h0 h1 d0 d1 : Int} {zh zd : Rat} (hh : h0 ≤ h1) (hd : d0 ≤ d1) (p : WPt h0 h1 d0 d1 zh zd) : (ea0 h0 h1 d0 d1 : Rat) + 3 ≤ 1000000000 * -(C (tq * zd) * S (tq * zh)) ∧ 1000000000 * -(C (tq * zd) * S (tq * zh)) + 3 ≤ (ea1 h0 h1 d0 d1 : Rat) := by
  obtain ⟨⟨a, b, v, g⟩, ⟨x, y, u, k⟩⟩ := east_pts p
  obtain ⟨k1, p1, p2⟩ := v.kh
  obtain ⟨k2, p3, p4⟩ := v.kd
  obtain ⟨l1, q1, q2⟩ := u.kh
  obtain ⟨l2, q3, q4⟩ := u.kd
  have i1 := (look_in lat hh hd v.a0 v.a1 v.b0 v.b1 p1 p2 p3 p4).2.1
  have i2 := (look_in lat hh hd u.a0 u.a1 u.b0 u.b1 q1 q2 q3 q4).2.1
  obtain ⟨-, i1⟩ := i1
  obtain ⟨i2, -⟩ := i2
  generalize -(C (tq * b) * S (tq * a)) = e1 at *
  generalize -(C (tq * y) * S (tq * x)) = e2 at *
  generalize -(C (tq * zd) * S (tq * zh)) = e0 at *
  constructor <;> grind
theorem look_no (lat : Int) {h0 h1 d0 d1 kh kd ke : Int} {zh zd ze : Rat} (hh : h0 ≤ h1) (hd : d0 ≤ d1) (a0 : 0 ≤ zh) (a1 : zh ≤ 1000000000) (b0 : 0 ≤ zd) (b1 : zd ≤ 1000000000) (e0 : 0 ≤ ze) (e1 : ze ≤ 1000000000)
    (p1 : (h0 : Rat) - 1/500 ≤ zh + (kh : Rat) * 1000000000) (p2 : zh + (kh : Rat) * 1000000000 ≤ (h1 : Rat) + 1/500) (p3 : (d0 : Rat) - 1/500 ≤ zd + (kd : Rat) * 1000000000) (p4 : zd + (kd : Rat) * 1000000000 ≤ (d1 : Rat) + 1/500) (p5 : (d0 : Rat) - 1/500 ≤ ze + (ke : Rat) * 1000000000) (p6 : ze + (ke : Rat) * 1000000000 ≤ (d1 : Rat) + 1/500) :
    InU (lkC0 lat d0 d1 - lkD1 lat h0 h1 d0 d1) (lkC1 lat d0 d1 - lkD0 lat h0 h1 d0 d1) (coU lat * S (tq * ze) - siU lat * (C (tq * zd) * C (tq * zh))) (8/100) := by
  have sp := lk_sp lat hh hd
  have cH := cov_any hh a0 a1 p1 p2
  have sD := (over_any hd e0 e1 p5 p6).1
  have cD := cov_any hd b0 b1 p3 p4
  have sF := sine_in lat
  have cF := cosine_in lat
  obtain ⟨cc, ns, nc⟩ := siU_circ lat
  have nd := sc_one b0 b1
  have nd1 : rabs (C (tq * zd)) ≤ 1 + 1 / 10000000 := by have := nd.2; grind
  have nf1 : rabs (siU lat) ≤ 1 + 1 / 10000000 := by grind
  have nf2 : rabs (coU lat) ≤ 1 + 1 / 10000000 := by grind
  have N := times_in sp.cD sp.cH cD cH (by grind) (by grind) (by grind) (by grind) nd1
  have Cc := times_in sp.cF sp.sD cF sD (by grind) (by grind) (by grind) (by grind) nf2
  have D := times_in sp.sF sp.N sF N (by grind) (by grind) (by grind) (by grind) nf1
  exact InU.mono (InU.sub Cc D) (by grind)
theorem coU_low {lat : Int} (h0 : -220000000 ≤ lat) (h1 : lat ≤ 220000000) : 187/1000 ≤ coU lat := by
  have hb := siU_b (lat + 250000000)
  have hu : coU lat = siU (lat + 250000000) := rfl
  rw [hu, hb]
  have e : (lat + 250000000) % 1000000000 = lat + 250000000 := Int.emod_eq_of_lt (by omega) (by omega)
  rw [e]
  have k : 1873/10000 ≤ S (tq * 30000000) := by decide +kernel
  have q := tq_quarter
  have hp := pi_num
  have n3 : rabs (tq * 30000000) ≤ piQ / 2 := by rw [← q]; decide +kernel
  by_cases c : lat ≤ 0
  · have L := icast (show 30000000 ≤ lat + 250000000 by omega)
    have U := icast (show lat + 250000000 ≤ 250000000 by omega)
    have c1 : ((30000000 : Int) : Rat) = 30000000 := rfl
    have c2 : ((250000000 : Int) : Rat) = 250000000 := rfl
    rw [c1] at L
    rw [c2] at U
    generalize ((lat + 250000000 : Int) : Rat) = n at *
    have l := tq_le L
    have u := tq_le U
    rw [q] at u
    have t3 : 0 ≤ tq * 30000000 := by decide +kernel
    have m := sin_mono2 l n3 (rabs_le.2 ⟨u, by grind⟩)
    grind
  · have L := icast (show 250000000 ≤ lat + 250000000 by omega)
    have U := icast (show lat + 250000000 ≤ 470000000 by omega)
    have c1 : ((470000000 : Int) : Rat) = 470000000 := rfl
    have c2 : ((250000000 : Int) : Rat) = 250000000 := rfl
    rw [c1] at U
    rw [c2] at L
    generalize ((lat + 250000000 : Int) : Rat) = n at *
    have l := tq_le (show 30000000 ≤ 500000000 - n by grind)
    have u := tq_le (show 500000000 - n ≤ 250000000 by grind)
    rw [q] at u
    have t3 : 0 ≤ tq * 30000000 := by decide +kernel
    have hm : rabs (tq * (500000000 - n)) ≤ piQ / 2 := rabs_le.2 ⟨u, by grind⟩
    have m := sin_mono2 l n3 hm
    have t5 : tq * 500000000 = piQ := tq_num.2.2.2.2.2.2.2
    have en : tq * n = piQ - tq * (500000000 - n) := by rw [← t5]; grind
    have s := rabs_le.1 (sin_sub (x := piQ) (y := tq * (500000000 - n)) (rabs_le.2 ⟨by grind, by grind⟩) (by grind))
    obtain ⟨w1, w2, -⟩ := at_pi
    have b := SC_bd (y := tq * (500000000 - n)) (by grind)
    have v1 := rabs_le.1 (mul_rabs w1 b.2)
    have v2 := rabs_le.1 (mul_rabs w2 b.1)
    rw [en]
    grind
theorem north_in {lat : Int} (l0 : -220000000 ≤ lat) (l1 : lat ≤ 220000000) {h0 h1 d0 d1 : Int} {zh zd : Rat} (hh : h0 ≤ h1) (hd : d0 ≤ d1) (p : WPt h0 h1 d0 d1 zh zd) :
    ((lkC0 lat d0 d1 - lkD1 lat h0 h1 d0 d1 : Int) : Rat) + 13/10 ≤ 1000000000 * tNo lat (S (tq * zd)) (C (tq * zd) * C (tq * zh)) ∧ 1000000000 * tNo lat (S (tq * zd)) (C (tq * zd) * C (tq * zh)) + 13/10 ≤ ((lkC1 lat d0 d1 - lkD0 lat h0 h1 d0 d1 : Int) : Rat) := by
  obtain ⟨m1, m2, m3, m4⟩ := num99
  have z99 : rabs ((99 : Rat) - ((0 : Int) : Rat) * 1000000000) ≤ 99 := by decide +kernel
  have y99 : rabs ((999999901 : Rat) - ((1 : Int) : Rat) * 1000000000) ≤ 99 := by decide +kernel
  obtain ⟨x, jx, x0, x1, xe, xs, -⟩ := shift_of (z := 99) (e := 622035 / 1000000000000) (by grind) (by grind) m1 m2 p.b0 p.b1
  obtain ⟨y, jy, y0, y1, ye, ys, -⟩ := shift_of (z := 999999901) (e := -(622035 / 1000000000000)) (by grind) (by grind) m3 m4 p.b0 p.b1
  have vx := p.moveD (m := 0) x0 x1 xe z99
  have vy := p.moveD (m := 1) y0 y1 ye y99
  obtain ⟨kh, p1, p2⟩ := vx.kh
  obtain ⟨kx, p3, p4⟩ := vx.kd
  obtain ⟨ky, p5, p6⟩ := vy.kd
  obtain ⟨kd, p7, p8⟩ := p.kd
  have i1 := look_no lat hh hd p.a0 p.a1 p.b0 p.b1 x0 x1 (kd := kd) p1 p2 (by grind) (by grind) p3 p4
  have i2 := look_no lat hh hd p.a0 p.a1 p.b0 p.b1 y0 y1 (kd := kd) p1 p2 (by grind) (by grind) p5 p6
  have cl := coU_low l0 l1
  obtain ⟨-, -, nc⟩ := siU_circ lat
  have g1 := rabs_le.1 (mul_rabs nc xs)
  have g2 := rabs_le.1 (mul_rabs nc ys)
  have m := prod_low cl p.c (by decide +kernel) (by decide +kernel)
  obtain ⟨i1, -⟩ := i1
  obtain ⟨-, i2⟩ := i2
  unfold tNo
  clear m1 m2 m3 m4 z99 y99 xs ys xe ye nc cl p1 p2 p3 p4 p5 p6 p7 p8 vx vy p
  generalize coU lat = u at *
  generalize siU lat * (C (tq * zd) * C (tq * zh)) = w at *
  generalize S (tq * x) = sx at *
  generalize S (tq * y) = sy at *
  generalize S (tq * zd) = sz at *
  generalize C (tq * zd) = cz at *
  constructor <;> grind
/-- A star's angles: within the place's rectangle. -/
theorem star_low : ∀ K < 8, (14/100 ≤ S (tq * zA (stArgD K)) ∨ S (tq * zA (stArgD K)) ≤ -(14/100)) ∧ 128/10000 ≤ C (tq * zA (stArgD K)) := by decide +kernel
theorem star_w {K : Nat} (hK : K < 8) (lon t : Int) : ∃ (zh : Rat) (j : Int), zh = zA (refSid lon t) - zA (stAr K t) + (j : Rat) * 1000000000 ∧ WPt (lkH0 lon t (sA1 K t)) (lkH1 lon t (sA0 K t)) (stDec K - 100) (stDec K + 100) zh (zA (stArgD K)) := by
  obtain ⟨g1, g2, g3, g4, k, k1, k2⟩ := star_ang hK t
  obtain ⟨A0, A1⟩ := stAr_bd K t
  obtain ⟨D0, D1⟩ := stArgD_bd K
  obtain ⟨z0, z1⟩ := zA_bd A0 A1
  obtain ⟨d0, d1⟩ := zA_bd D0 D1
  have ok := sid_ok lon t
  obtain ⟨t0, t1⟩ := zA_bd ok.a0 ok.a1
  obtain ⟨ks, s1, s2⟩ := sid_ang lon t
  obtain ⟨l1, l2⟩ := star_low K hK
  have dd := star_decA K hK
  generalize hθ : zA (refSid lon t) = θ at *
  generalize hz : zA (stAr K t) = z at *
  obtain ⟨h, j, h0, h1, hh⟩ : ∃ (h : Rat) (j : Int), 0 ≤ h ∧ h ≤ 1000000000 ∧ h = θ - z + (j : Rat) * 1000000000 := by
    by_cases q : z ≤ θ
    · exact ⟨θ - z, 0, by grind, by grind, by rw [show ((0 : Int) : Rat) = 0 from rfl]; grind⟩
    · exact ⟨θ - z + 1000000000, 1, by grind, by grind, by rw [show ((1 : Int) : Rat) = 1 from rfl]; grind⟩
  refine ⟨h, j, hh, h0, h1, d0, d1, ⟨ks - k - j, ?_, ?_⟩, ?_, l1, l2⟩
  · unfold lkH0; rw [hh]; push_cast; grind
  · unfold lkH1; rw [hh]; push_cast; grind
  · rw [dd]
    push_cast
    by_cases hneg : stDec K < 0
    · rw [if_pos hneg]
      refine ⟨-1, ?_, ?_⟩
      · rw [show ((-1 : Int) : Rat) = -1 from rfl]; grind
      · rw [show ((-1 : Int) : Rat) = -1 from rfl]; grind
    · rw [if_neg hneg]
      refine ⟨0, ?_, ?_⟩
      · rw [show ((0 : Int) : Rat) = 0 from rfl]; grind
      · rw [show ((0 : Int) : Rat) = 0 from rfl]; grind
/-- The square of a turned part is at most the length's. -/
theorem turn_sq {s c a b r q : Rat} (hc : rabs (s * s + c * c - 1) ≤ 1 / 1000000000000000) (h : a * a + b * b ≤ r) (r1 : r ≤ 2) (hq : r + 1 / 100000000000000 ≤ q) : (s * a + c * b) * (s * a + c * b) ≤ q := by
  have hc := rabs_le.1 hc
  have n := sq_nonneg (s * b - c * a)
  have e : (s * a + c * b) * (s * a + c * b) + (s * b - c * a) * (s * b - c * a) = (s * s + c * c) * (a * a + b * b) := by grind
  have ab : 0 ≤ a * a + b * b := by have := sq_nonneg a; have := sq_nonneg b; grind
  have m := Rat.mul_le_mul_of_nonneg_right hc.1 ab
  generalize (s * b - c * a) * (s * b - c * a) = w at *
  generalize (s * a + c * b) * (s * a + c * b) = v at *
  generalize a * a + b * b = u at *
  grind
theorem star_refs {K : Nat} (hK : K < 8) (lon lat t : Int) {zh : Rat} {j : Int} (h0 : 0 ≤ zh) (h1 : zh ≤ 1000000000) (hh : zh = zA (refSid lon t) - zA (stAr K t) + (j : Rat) * 1000000000) :
    rabs ((abSide (refSid lon t) (stX K t) (stY K t) : Rat) - uQ * -(C (tq * zA (stArgD K)) * S (tq * zh))) ≤ 100000000 ∧
    rabs ((abNo (refSid lon t) lat (stX K t) (stY K t) (stZ K) : Rat) - uQ * tNo lat (S (tq * zA (stArgD K))) (C (tq * zA (stArgD K)) * C (tq * zh))) ≤ 200000000 ∧
    rabs (abNo (refSid lon t) lat (stX K t) (stY K t) (stZ K) : Rat) ≤ uQ + 4000000 ∧ rabs (abSide (refSid lon t) (stX K t) (stY K t) : Rat) ≤ 1160000000000000000 := by
  obtain ⟨A0, A1⟩ := stAr_bd K t
  obtain ⟨D0, D1⟩ := stArgD_bd K
  obtain ⟨z0, z1⟩ := zA_bd A0 A1
  obtain ⟨d0, d1⟩ := zA_bd D0 D1
  have ok := sid_ok lon t
  obtain ⟨t0, t1⟩ := zA_bd ok.a0 ok.a1
  obtain ⟨L0, L1⟩ := latA_bd lat
  obtain ⟨y0, y1⟩ := zA_bd L0 L1
  obtain ⟨s1, s2⟩ := sc_zA A0 A1
  obtain ⟨s3, s4⟩ := sc_zA D0 D1
  obtain ⟨s5, s6⟩ := sc_zA ok.a0 ok.a1
  obtain ⟨s7, s8⟩ := sc_zA L0 L1
  obtain ⟨k1, k2⟩ := sc_minus t0 t1 z0 z1 h0 h1 hh
  have n1 := sc_one z0 z1
  have n2 := sc_one d0 d1
  have n3 := sc_one t0 t1
  have n4 := sc_one y0 y1
  have c1 := circX z0 z1
  have c2 := circX d0 d1
  have c3 := circX t0 t1
  have c4 := circX y0 y1
  have up : ∀ {x : Rat}, rabs x ≤ 1 + 1 / 100000000000 → rabs x ≤ 1 + 1 / 1000000 := fun h => by grind
  have X := fm_two s4 s2 (by decide +kernel) (by decide +kernel) (up n2.2) (up n1.2)
  have Y := fm_two s4 s1 (by decide +kernel) (by decide +kernel) (up n2.2) (up n1.1)
  have bX : rabs (C (tq * zA (stArgD K)) * C (tq * zA (stAr K t))) ≤ 1 + 1 / 1000000 := by have := mul_rabs n2.2 n1.2; grind
  have bY : rabs (C (tq * zA (stArgD K)) * S (tq * zA (stAr K t))) ≤ 1 + 1 / 1000000 := by have := mul_rabs n2.2 n1.1; grind
  have O1 := rabs_le.1 (fm_two s6 X (by decide +kernel) (by decide +kernel) (up n3.2) bX)
  have O2 := rabs_le.1 (fm_two s5 Y (by decide +kernel) (by decide +kernel) (up n3.1) bY)
  have E1 := rabs_le.1 (fm_two s6 Y (by decide +kernel) (by decide +kernel) (up n3.2) bY)
  have E2 := rabs_le.1 (fm_two s5 X (by decide +kernel) (by decide +kernel) (up n3.1) bX)
  have eX : fm (sc (stArgD K)).2 (sc (stAr K t)).2 = stX K t := rfl
  have eY : fm (sc (stArgD K)).2 (sc (stAr K t)).1 = stY K t := rfl
  have eZ : (sc (stArgD K)).1 = stZ K := rfl
  rw [eX] at O1 E2
  rw [eY] at O2 E1
  rw [eZ] at s3
  -- the part out and the part to the side
  have AO : rabs ((abOut (refSid lon t) (stX K t) (stY K t) : Rat) - uQ * (C (tq * zA (refSid lon t)) * (C (tq * zA (stArgD K)) * C (tq * zA (stAr K t))) + S (tq * zA (refSid lon t)) * (C (tq * zA (stArgD K)) * S (tq * zA (stAr K t))))) ≤ 1200000 := by
    unfold abOut; push_cast
    rw [rabs_le]; constructor <;> grind
  have AS : rabs ((abSide (refSid lon t) (stX K t) (stY K t) : Rat) - uQ * (C (tq * zA (refSid lon t)) * (C (tq * zA (stArgD K)) * S (tq * zA (stAr K t))) - S (tq * zA (refSid lon t)) * (C (tq * zA (stArgD K)) * C (tq * zA (stAr K t))))) ≤ 1200000 := by
    unfold abSide; push_cast
    rw [rabs_le]; constructor <;> grind
  clear O1 O2 E1 E2 X Y eX eY eZ
  have hu : uQ = 1152921504606846976 := rfl
  -- lengths
  have q1 : C (tq * zA (stArgD K)) * C (tq * zA (stAr K t)) * (C (tq * zA (stArgD K)) * C (tq * zA (stAr K t))) + C (tq * zA (stArgD K)) * S (tq * zA (stAr K t)) * (C (tq * zA (stArgD K)) * S (tq * zA (stAr K t))) ≤ C (tq * zA (stArgD K)) * C (tq * zA (stArgD K)) + 1 / 100000000000000 := by
    have b : rabs (C (tq * zA (stArgD K)) * C (tq * zA (stArgD K))) ≤ 101/100 := by have := mul_rabs n2.2 n2.2; grind
    have m := rabs_le.1 (mul_rabs b c1)
    generalize C (tq * zA (stArgD K)) = d at *
    generalize C (tq * zA (stAr K t)) = a at *
    generalize S (tq * zA (stAr K t)) = b' at *
    have e : d * a * (d * a) + d * b' * (d * b') = d * d * (b' * b' + a * a - 1) + d * d := by grind
    rw [e]; grind
  have c2' := rabs_le.1 c2
  have nD := sq_nonneg (S (tq * zA (stArgD K)))
  have nE := sq_nonneg (C (tq * zA (stArgD K)))
  have qo := turn_sq (s := C (tq * zA (refSid lon t))) (c := S (tq * zA (refSid lon t))) (a := C (tq * zA (stArgD K)) * C (tq * zA (stAr K t))) (b := C (tq * zA (stArgD K)) * S (tq * zA (stAr K t))) (q := C (tq * zA (stArgD K)) * C (tq * zA (stArgD K)) + 2 / 100000000000000) (by rw [show C (tq * zA (refSid lon t)) * C (tq * zA (refSid lon t)) + S (tq * zA (refSid lon t)) * S (tq * zA (refSid lon t)) - 1 = S (tq * zA (refSid lon t)) * S (tq * zA (refSid lon t)) + C (tq * zA (refSid lon t)) * C (tq * zA (refSid lon t)) - 1 by grind]; exact c3) q1 (by grind) (by grind)
  have qs := turn_sq (s := C (tq * zA (refSid lon t))) (c := -S (tq * zA (refSid lon t))) (a := C (tq * zA (stArgD K)) * S (tq * zA (stAr K t))) (b := C (tq * zA (stArgD K)) * C (tq * zA (stAr K t))) (q := C (tq * zA (stArgD K)) * C (tq * zA (stArgD K)) + 2 / 100000000000000) (by rw [show C (tq * zA (refSid lon t)) * C (tq * zA (refSid lon t)) + -S (tq * zA (refSid lon t)) * -S (tq * zA (refSid lon t)) - 1 = S (tq * zA (refSid lon t)) * S (tq * zA (refSid lon t)) + C (tq * zA (refSid lon t)) * C (tq * zA (refSid lon t)) - 1 by grind]; exact c3) (by rw [show C (tq * zA (stArgD K)) * S (tq * zA (stAr K t)) * (C (tq * zA (stArgD K)) * S (tq * zA (stAr K t))) + C (tq * zA (stArgD K)) * C (tq * zA (stAr K t)) * (C (tq * zA (stArgD K)) * C (tq * zA (stAr K t))) = C (tq * zA (stArgD K)) * C (tq * zA (stAr K t)) * (C (tq * zA (stArgD K)) * C (tq * zA (stAr K t))) + C (tq * zA (stArgD K)) * S (tq * zA (stAr K t)) * (C (tq * zA (stArgD K)) * S (tq * zA (stAr K t))) by grind]; exact q1) (by grind) (by grind)
  generalize hO : C (tq * zA (refSid lon t)) * (C (tq * zA (stArgD K)) * C (tq * zA (stAr K t))) + S (tq * zA (refSid lon t)) * (C (tq * zA (stArgD K)) * S (tq * zA (stAr K t))) = O at *
  have eS : C (tq * zA (refSid lon t)) * (C (tq * zA (stArgD K)) * S (tq * zA (stAr K t))) + -S (tq * zA (refSid lon t)) * (C (tq * zA (stArgD K)) * C (tq * zA (stAr K t))) = C (tq * zA (refSid lon t)) * (C (tq * zA (stArgD K)) * S (tq * zA (stAr K t))) - S (tq * zA (refSid lon t)) * (C (tq * zA (stArgD K)) * C (tq * zA (stAr K t))) := by grind
  rw [eS] at qs
  generalize hE : C (tq * zA (refSid lon t)) * (C (tq * zA (stArgD K)) * S (tq * zA (stAr K t))) - S (tq * zA (refSid lon t)) * (C (tq * zA (stArgD K)) * C (tq * zA (stAr K t))) = E at *
  have bO : rabs O ≤ 1 + 1 / 1000000 := sq_rabs (by decide +kernel) (by grind)
  have bE : rabs E ≤ 1 + 1 / 1000000 := sq_rabs (by decide +kernel) (by grind)
  -- near the place's parts
  have wO : rabs (O - C (tq * zA (stArgD K)) * C (tq * zh)) ≤ 4 / 100000000000 := by
    have m := rabs_le.1 (mul_rabs n2.2 k2)
    rw [← hO, rabs_le]; constructor <;> grind
  have wE : rabs (E - -(C (tq * zA (stArgD K)) * S (tq * zh))) ≤ 4 / 100000000000 := by
    have m := rabs_le.1 (mul_rabs n2.2 k1)
    rw [← hE, rabs_le]; constructor <;> grind
  have P1 := rabs_le.1 (fm_two s8 s3 (by decide +kernel) (by decide +kernel) (up n4.2) (up n2.1))
  have P2 := rabs_le.1 (fm_two s7 AO (by decide +kernel) (by decide +kernel) (up n4.1) bO)
  have AN : rabs ((abNo (refSid lon t) lat (stX K t) (stY K t) (stZ K) : Rat) - uQ * (C (tq * zA (latA lat)) * S (tq * zA (stArgD K)) - S (tq * zA (latA lat)) * O)) ≤ 3000000 := by
    unfold abNo; push_cast
    rw [rabs_le]; constructor <;> grind
  have qn := turn_sq (s := C (tq * zA (latA lat))) (c := -S (tq * zA (latA lat))) (a := S (tq * zA (stArgD K))) (b := O) (r := 1 + 4 / 100000000000000) (q := 1 + 6 / 100000000000000) (by rw [show C (tq * zA (latA lat)) * C (tq * zA (latA lat)) + -S (tq * zA (latA lat)) * -S (tq * zA (latA lat)) - 1 = S (tq * zA (latA lat)) * S (tq * zA (latA lat)) + C (tq * zA (latA lat)) * C (tq * zA (latA lat)) - 1 by grind]; exact c4) (by grind) (by decide +kernel) (by decide +kernel)
  rw [show C (tq * zA (latA lat)) * S (tq * zA (stArgD K)) + -S (tq * zA (latA lat)) * O = C (tq * zA (latA lat)) * S (tq * zA (stArgD K)) - S (tq * zA (latA lat)) * O by grind] at qn
  have hs := siU_b lat
  have hc := coU_b lat
  have eA : zA (latA lat) = ((lat % 1000000000 : Int) : Rat) := by
    have e : latA lat = lat % 1000000000 * 1000000 := by unfold latA; omega
    rw [e]; unfold zA; push_cast; grind
  rw [← eA] at hs hc
  have AS' := rabs_le.1 AS
  have AN' := rabs_le.1 AN
  have wE' := rabs_le.1 wE
  have wN : rabs (C (tq * zA (latA lat)) * S (tq * zA (stArgD K)) - S (tq * zA (latA lat)) * O - tNo lat (S (tq * zA (stArgD K))) (C (tq * zA (stArgD K)) * C (tq * zh))) ≤ 10 / 100000000000 := by
    have m1 := rabs_le.1 (mul_rabs hc n2.1)
    have m2 := rabs_le.1 (mul_rabs n4.1 wO)
    unfold tNo
    rw [hs, rabs_le]; constructor <;> grind
  have wN' := rabs_le.1 wN
  have bN : rabs (C (tq * zA (latA lat)) * S (tq * zA (stArgD K)) - S (tq * zA (latA lat)) * O) ≤ 1 + 1 / 10000000000000 := sq_rabs (by decide +kernel) (by grind)
  have bN' := rabs_le.1 bN
  have bE' := rabs_le.1 bE
  clear wN bN AS AN wE bE bO wO qn qs qo q1 hs hc P1 P2 k1 k2 n1 n2 n3 n4 c1 c2 c3 c4 s1 s2 s3 s4 s5 s6 s7 s8 up AO c2' nD nE
  generalize C (tq * zA (latA lat)) * S (tq * zA (stArgD K)) - S (tq * zA (latA lat)) * O = N at *
  generalize tNo lat (S (tq * zA (stArgD K))) (C (tq * zA (stArgD K)) * C (tq * zh)) = T at *
  generalize -(C (tq * zA (stArgD K)) * S (tq * zh)) = F at *
  generalize (abNo (refSid lon t) lat (stX K t) (stY K t) (stZ K) : Rat) = a at *
  generalize (abSide (refSid lon t) (stX K t) (stY K t) : Rat) = b at *
  rw [hu] at AS' AN' ⊢
  refine ⟨?_, ?_, ?_, ?_⟩
  · rw [rabs_le]; constructor <;> grind
  · rw [rabs_le]; constructor <;> grind
  · rw [rabs_le]; constructor <;> grind
  · rw [rabs_le]; constructor <;> grind
theorem unit_ofR {lo hi v : Int} (h1 : (lo : Rat) * uQ ≤ 1000000000 * (v : Rat) + 6 / 1000 * uQ) (h2 : 1000000000 * (v : Rat) ≤ (hi : Rat) * uQ + 6 / 1000 * uQ) : UnitOk lo hi v := by
  have hu : uQ = 1152921504606846976 := rfl
  have e : (v : Rat) / uQ * uQ = (v : Rat) := Rat.div_mul_cancel (by decide +kernel)
  refine unit_ok (x := (v : Rat) / uQ) ?_ ?_ ?_
  · rw [show uQ * ((v : Rat) / uQ) = (v : Rat) / uQ * uQ by grind, e, show (v : Rat) - (v : Rat) = 0 by grind]; decide +kernel
  · generalize (v : Rat) / uQ = x at *
    rw [← e, hu] at h1
    grind
  · generalize (v : Rat) / uQ = x at *
    rw [← e, hu] at h2
    grind
theorem star_unit {K : Nat} (hK : K < 8) {lon lat t : Int} (l0 : -220000000 ≤ lat) (l1 : lat ≤ 220000000) :
    UnitOk (sX0 lon t K) (sX1 lon t K) (abSide (refSid lon t) (stX K t) (stY K t)) ∧ UnitOk (sY0 lon lat t K) (sY1 lon lat t K) (abNo (refSid lon t) lat (stX K t) (stY K t) (stZ K)) := by
  obtain ⟨zh, j, hh, p⟩ := star_w hK lon t
  obtain ⟨r1, r2, r3, -⟩ := star_refs hK lon lat t p.a0 p.a1 hh
  obtain ⟨g1, g2, g3, g4, -⟩ := star_ang hK t
  have ok := sid_ok lon t
  have o := ok.o
  have oh : lkH0 lon t (sA1 K t) ≤ lkH1 lon t (sA0 K t) := by unfold lkH0 lkH1; omega
  have od : stDec K - 100 ≤ stDec K + 100 := by omega
  obtain ⟨e1, e2⟩ := east_in lat oh od p
  obtain ⟨n1, n2⟩ := north_in l0 l1 oh od p
  have r1 := rabs_le.1 r1
  have r2 := rabs_le.1 r2
  have r3 := rabs_le.1 r3
  have hu : uQ = 1152921504606846976 := rfl
  rw [hu] at r1 r2 r3
  constructor
  · unfold sX0 sX1
    clear n1 n2 r2 r3
    refine unit_ofR ?_ ?_ <;> rw [hu] <;> grind
  · unfold sY0 sY1 no0 no1
    clear e1 e2 r1
    have c1 : ((1000000000 : Int) : Rat) = 1000000000 := rfl
    have c2 : ((-1000000000 : Int) : Rat) = -1000000000 := rfl
    refine unit_ofR ?_ ?_
    · rw [hu]
      rcases (show clipL (lkC0 lat (stDec K - 100) (stDec K + 100) - lkD1 lat (lkH0 lon t (sA1 K t)) (lkH1 lon t (sA0 K t)) (stDec K - 100) (stDec K + 100)) = -1000000000 ∨ clipL (lkC0 lat (stDec K - 100) (stDec K + 100) - lkD1 lat (lkH0 lon t (sA1 K t)) (lkH1 lon t (sA0 K t)) (stDec K - 100) (stDec K + 100)) ≤ lkC0 lat (stDec K - 100) (stDec K + 100) - lkD1 lat (lkH0 lon t (sA1 K t)) (lkH1 lon t (sA0 K t)) (stDec K - 100) (stDec K + 100) by unfold clipL; omega) with q | q
      · rw [q, c2]; clear n1 n2 r2; grind
      · have q := icast q
        clear n2 r3
        grind
    · rw [hu]
      rcases (show clipH (lkC1 lat (stDec K - 100) (stDec K + 100) - lkD0 lat (lkH0 lon t (sA1 K t)) (lkH1 lon t (sA0 K t)) (stDec K - 100) (stDec K + 100)) = 1000000000 ∨ lkC1 lat (stDec K - 100) (stDec K + 100) - lkD0 lat (lkH0 lon t (sA1 K t)) (lkH1 lon t (sA0 K t)) (stDec K - 100) (stDec K + 100) ≤ clipH (lkC1 lat (stDec K - 100) (stDec K + 100) - lkD0 lat (lkH0 lon t (sA1 K t)) (lkH1 lon t (sA0 K t)) (stDec K - 100) (stDec K + 100)) by unfold clipH; omega) with q | q
      · rw [q, c1]; clear n1 n2 r2; grind
      · have q := icast q
        clear n1 r3
        grind
end
section
set_option maxRecDepth 100000
open Go.RowKit
theorem dots_at (lon lat t : Int) : ∀ (n K : Nat), K < n → 0 ≤ sU1 lon lat t K → (dots lon lat t n)[(dots lon lat t K).length]? = some K
  | 0, K, h, _ => by omega
  | n + 1, K, h, hp => by
    rw [dots_snoc]
    by_cases e : K = n
    · subst e
      rw [if_pos hp]
      simp
    · have ih := dots_at lon lat t n K (by omega) hp
      split
      · rw [List.getElem?_append_left (List.getElem?_eq_some_iff.1 ih).1]; exact ih
      · exact ih
theorem dots_mem {lon lat t : Int} {n q : Nat} (h : q ∈ dots lon lat t n) : q < n ∧ 0 ≤ sU1 lon lat t q := by
  unfold dots at h
  rw [List.mem_filter] at h
  exact ⟨List.mem_range.1 h.1, by simpa using h.2⟩
theorem dots_mono (lon lat t : Int) (k : Nat) : ∀ d, (dots lon lat t k).length ≤ (dots lon lat t (k + d)).length
  | 0 => Nat.le_refl _
  | d + 1 => by
    have := dots_mono lon lat t k d
    rw [show k + (d + 1) = (k + d) + 1 by omega, dots_snoc]
    split
    · simp; omega
    · exact this
theorem nm_eq : ∀ q < 8, ∀ k < 8, ((⟨(stNm q).toArray⟩ : ByteArray).toList == (⟨(stNm k).toArray⟩ : ByteArray).toList) = decide (q = k) := by decide +kernel
theorem nm_eq2 : ∀ q < 8, ∀ k < 8, (stNm q == stNm k) = decide (q = k) := by decide +kernel
theorem ix_Dot {a : Option Addr} {b off len cap k : Nat} (ha : a = some ⟨b, off, none⟩) (hk : k < len) : ∀ w, (Instr.indexAt 41 (.slice a len cap) (.int .i64 k)).run Tryd.prog w = .ok (.pointer (some ⟨b, off + k * 6, none⟩)) w := by
  intro w
  subst ha
  have h1 : (k : Int) < (len : Int) := by omega
  go_simp
theorem ix_Nm {b off len cap k : Nat} (hk : k < len) : ∀ w, (Instr.indexAt 46 (.slice (some ⟨b, off, none⟩) len cap) (.int .i64 k)).run Tryd.prog w = .ok (.pointer (some ⟨b, off + k, none⟩)) w := by
  intro w
  have h1 : (k : Int) < (len : Int) := by omega
  go_simp
theorem walk_Sm_site (lon lat t : Int) (w : World) (hT : Tab w) (hP : STab w) (h : plB lon lat = false) :
    Calls Tryd.prog 5 #[.agg #[.int .i64 lon, .int .i64 lat], .int .i64 t] w fun e w' => e = .returned (.bool true) ∧ Below w.heap.size w w' := by
  have HM := Lib.hid (fun w1 => c_Map_site lon lat t w1 h)
  have hE := fun w1 => c_rPlaceErr lon lat w1
  rw [plE_f h] at hE
  have HE := Lib.hid hE
  have HT := Lib.hid hT
  have HP := Lib.hid hP
  clear hT hP h hE
  have hgen := sgen; have hgen2 := sgen2; have hgen3 := sgen3; go_enter Tryd.func5, Tryd.ntmps5
  go_wp2_with (first | (go_at_call 15; (with_reducible refine (c_starmapWorks _ (HT.out.below (by exact belz)) (HP.out.below (by exact belz))).mono ?_); rintro e w1 ⟨rfl, hb⟩; have hz := hb.size; (try simp only [szA, szS, szD, szN] at hz); (try (refine bcB (n := w.heap.size) hb ?_; intro h_w_0 e_w_0 d_w_0 _ _))) | (go_at_call 16; (with_reducible refine (HM.out _).mono ?_); rintro e w2 ⟨rfl, hb⟩; have hz := hb.size; (try simp only [szA, szS, szD, szN] at hz); (try (refine bcB (n := w.heap.size) hb ?_; intro h_w_0 e_w_0 d_w_0 _ _)); (try (refine bcB (n := w1.heap.size) hb ?_; intro h_w1_0 e_w1_0 d_w1_0 _ _))) | (go_at_call 17; (with_reducible refine (HE.out _).mono ?_); rintro e w3 ⟨rfl, hb⟩; have hz := hb.size; (try simp only [szA, szS, szD, szN] at hz); (try (refine bcB (n := w.heap.size) hb ?_; intro h_w_0 e_w_0 d_w_0 _ _)); (try (refine bcB (n := w1.heap.size) hb ?_; intro h_w1_0 e_w1_0 d_w1_0 _ _)); (try (refine bcB (n := w2.heap.size) hb ?_; intro h_w2_0 e_w2_0 d_w2_0 _ _))))
  go_ret
  refine ⟨rfl, ?_⟩
  exact belz
theorem walk_Sm_time (lon lat t : Int) (w : World) (hT : Tab w) (hP : STab w) (h : plB lon lat = true) (ht : instB t = false) (t1 : -9223372036854775808 ≤ t) (t2 : t ≤ 9223372036854775807) :
    Calls Tryd.prog 5 #[.agg #[.int .i64 lon, .int .i64 lat], .int .i64 t] w fun e w' => e = .returned (.bool true) ∧ Below w.heap.size w w' := by
  have HM := Lib.hid (fun w1 => c_Map_time lon lat t w1 h ht t1 t2)
  have hE := fun w1 => c_rPlaceErr lon lat w1
  rw [plE_t h] at hE
  have HE := Lib.hid hE
  have HT := Lib.hid hT
  have HP := Lib.hid hP
  have hI := fun w1 => c_instErr t w1
  rw [instE_of.2 ht] at hI
  have HI := Lib.hid hI
  clear hT hP h hE ht hI
  have hgen := sgen; have hgen2 := sgen2; have hgen3 := sgen3; go_enter Tryd.func5, Tryd.ntmps5
  go_wp2_with (first | (go_at_call 15; (with_reducible refine (c_starmapWorks _ (HT.out.below (by exact belz)) (HP.out.below (by exact belz))).mono ?_); rintro e w1 ⟨rfl, hb⟩; have hz := hb.size; (try simp only [szA, szS, szD, szN] at hz); (try (refine bcB (n := w.heap.size) hb ?_; intro h_w_0 e_w_0 d_w_0 _ _))) | (go_at_call 16; (with_reducible refine (HM.out _).mono ?_); rintro e w2 ⟨rfl, hb⟩; have hz := hb.size; (try simp only [szA, szS, szD, szN] at hz); (try (refine bcB (n := w.heap.size) hb ?_; intro h_w_0 e_w_0 d_w_0 _ _)); (try (refine bcB (n := w1.heap.size) hb ?_; intro h_w1_0 e_w1_0 d_w1_0 _ _))) | (go_at_call 17; (with_reducible refine (HE.out _).mono ?_); rintro e w3 ⟨rfl, hb⟩; have hz := hb.size; (try simp only [szA, szS, szD, szN] at hz); (try (refine bcB (n := w.heap.size) hb ?_; intro h_w_0 e_w_0 d_w_0 _ _)); (try (refine bcB (n := w1.heap.size) hb ?_; intro h_w1_0 e_w1_0 d_w1_0 _ _)); (try (refine bcB (n := w2.heap.size) hb ?_; intro h_w2_0 e_w2_0 d_w2_0 _ _))) | (go_at_call 18; refine (HI.out _).mono ?_; rintro e w' ⟨rfl, rfl⟩))
  go_ret
  refine ⟨rfl, ?_⟩
  exact belz
/-- What the law asks at a star. -/
structure StK (lon lat t : Int) (K : Nat) : Prop where
  st : ∀ w1, Calls Tryd.prog 20 #[.string ⟨(stNm K).toArray⟩, .int .i64 t] w1 fun e w' => e = .returned (.tuple #[.agg #[.int .i64 (stX K t), .int .i64 (stY K t), .int .i64 (stZ K)], .bool true]) ∧ Below w1.heap.size w1 w'
  ab : ∀ w1, Calls Tryd.prog 21 #[.agg #[.int .i64 lon, .int .i64 lat], .agg #[.int .i64 (stX K t), .int .i64 (stY K t), .int .i64 (stZ K)], .int .i64 t] w1 fun e w' => e = .returned (.tuple #[.int .i64 (abUp (refSid lon t) lat (stX K t) (stY K t) (stZ K)), .int .i64 (abSide (refSid lon t) (stX K t) (stY K t)), .int .i64 (abNo (refSid lon t) lat (stX K t) (stY K t) (stZ K))]) ∧ Below w1.heap.size w1 w'
  cx : ∀ w1, Calls Tryd.prog 22 #[.agg #[.int .i64 (sX0 lon t K), .int .i64 (sX1 lon t K)], .int .i64 (abSide (refSid lon t) (stX K t) (stY K t))] w1 fun e w' => e = .returned (.bool true) ∧ Below w1.heap.size w1 w'
  cy : ∀ w1, Calls Tryd.prog 22 #[.agg #[.int .i64 (sY0 lon lat t K), .int .i64 (sY1 lon lat t K)], .int .i64 (abNo (refSid lon t) lat (stX K t) (stY K t) (stZ K))] w1 fun e w' => e = .returned (.bool true) ∧ Below w1.heap.size w1 w'
theorem stK {lon lat t : Int} {K : Nat} (hK : K < 8) (h : plB lon lat = true) (ht : instB t = true) : StK lon lat t K := by
  obtain ⟨t1, t2⟩ := inst_bd ht
  obtain ⟨p1, p2, p3, p4⟩ := plB_t h
  obtain ⟨v0, v1⟩ := argV_bd 97300000 t
  have lo := star_look hK lon lat t
  obtain ⟨u1, u2⟩ := star_unit hK (lon := lon) (lat := lat) (t := t) p3 p4
  obtain ⟨zh, j, hh, p⟩ := star_w hK lon t
  obtain ⟨-, -, r3, r4⟩ := star_refs hK lon lat t p.a0 p.a1 hh
  obtain ⟨g1, g2, g3, g4, -⟩ := star_ang hK t
  have ok := sid_ok lon t
  have o := ok.o
  have oh : lkH0 lon t (sA1 K t) ≤ lkH1 lon t (sA0 K t) := by unfold lkH0 lkH1; omega
  have od : stDec K - 100 ≤ stDec K + 100 := by omega
  have sp := lk_sp lat oh od
  have b1 : Sp1 (sX0 lon t K) (sX1 lon t K) := sp.Ea
  have b2 : Sp1 (sY0 lon lat t K) (sY1 lon lat t K) := sp.No
  obtain ⟨x0, x1, x2⟩ := b1
  obtain ⟨y0, y1, y2⟩ := b2
  have hu : uQ = 1152921504606846976 := rfl
  have fit : ∀ {n : Int}, rabs (n : Rat) ≤ 1160000000000000000 → -1200000000000000000 ≤ n ∧ n ≤ 1200000000000000000 := by
    intro n hn
    have hn := rabs_le.1 hn
    have c1 : ((1160000000000000000 : Int) : Rat) = 1160000000000000000 := rfl
    have c2 : ((-1160000000000000000 : Int) : Rat) = -1160000000000000000 := rfl
    obtain ⟨h1, h2⟩ := hn
    rw [← c1] at h1
    have h2' : ((-1160000000000000000 : Int) : Rat) ≤ (n : Rat) := by rw [c2]; exact h2
    have h1 := Rat.intCast_le_intCast.1 h1
    have h2 := Rat.intCast_le_intCast.1 h2'
    omega
  have f1 := fit r4
  have f2 := fit (n := abNo (refSid lon t) lat (stX K t) (stY K t) (stZ K)) (by rw [hu] at r3; grind)
  exact ⟨fun w1 => c_rStar _ t (argV 97300000 t) K w1 (nm_is hK) hK v0 v1 (Lib.hid (fun w2 => c_Arg 97300000 t w2 (by omega) (by omega) (by omega) (by omega))),
    fun w1 => c_rAbove lon lat t (stX K t) (stY K t) (stZ K) w1 p1 p2 p3 p4 (by omega) (by omega) lo.x1.1 lo.x1.2 lo.y1.1 lo.y1.2 lo.z1.1 lo.z1.2 lo.o.1 lo.o.2,
    fun w1 => c_ContainsUnit1 _ _ _ w1 u1 (by omega) (by omega) (by omega) (by omega) f1.1 f1.2, fun w1 => c_ContainsUnit1 _ _ _ w1 u2 (by omega) (by omega) (by omega) (by omega) f2.1 f2.2⟩
set_option maxHeartbeats 4000000 in
theorem walk_Sm_ok (lon lat t : Int) (w : World) (hT : Tab w) (hP : STab w) (h : plB lon lat = true) (ht : instB t = true) :
    Calls Tryd.prog 5 #[.agg #[.int .i64 lon, .int .i64 lat], .int .i64 t] w fun e w' => e = .returned (.bool true) ∧ Below w.heap.size w w' := by
  have HM := Lib.hid (fun w1 h1 h2 => c_Map_ok lon lat t w1 h ht h1 h2)
  unfold MapIs at HM
  have hE := fun w1 => c_rPlaceErr lon lat w1
  rw [plE_t h] at hE
  have HE := Lib.hid hE
  have HT := Lib.hid hT
  have HP := Lib.hid hP
  have hI := fun w1 => c_instErr t w1
  rw [instE_of.1 ht] at hI
  have HI := Lib.hid hI
  have HN := Lib.hid (fun w1 h1 => c_stNamesC w1 h1)
  have HK := Lib.hid (fun K (hK : K < 8) => stK (lon := lon) (lat := lat) (t := t) hK h ht)
  have HS := Lib.hid (fun K (hK : K < 8) => star_sure hK lon lat t)
  have HF := Lib.hid (fun w1 => c_FromUnit 1 w1 (by omega) (by omega))
  have hf : fu 1 = 1152921504 := by decide +kernel
  rw [hf] at HF
  clear hT hP h hE ht hI hf
  have hgen := sgen; have hgen2 := sgen2; have hgen3 := sgen3; go_enter Tryd.func5, Tryd.ntmps5
  go_wp2_with (first | (go_at_call 15; (with_reducible refine (c_starmapWorks _ (HT.out.below (by exact belz)) (HP.out.below (by exact belz))).mono ?_); rintro e w1 ⟨rfl, hb⟩; have hz := hb.size; (try simp only [szA, szS, szD, szN] at hz); (try (refine bcB (n := w.heap.size) hb ?_; intro h_w_0 e_w_0 d_w_0 _ _))) | (go_at_call 16; (with_reducible refine (HM.out _ (HT.out.below (by exact belz)) (HP.out.below (by exact belz))).mono ?_); rintro e w2 ⟨s, cap, rfl, hcap, hat, hb⟩; have hz := hb.size; (try simp only [szA, szS, szD, szN] at hz); (try (refine bcB (n := w.heap.size) hb ?_; intro h_w_0 e_w_0 d_w_0 _ _)); (try (refine bcB (n := w1.heap.size) hb ?_; intro h_w1_0 e_w1_0 d_w1_0 _ _))) | (go_at_call 17; (with_reducible refine (HE.out _).mono ?_); rintro e w3 ⟨rfl, hb⟩; have hz := hb.size; (try simp only [szA, szS, szD, szN] at hz); (try (refine bcB (n := w.heap.size) hb ?_; intro h_w_0 e_w_0 d_w_0 _ _)); (try (refine bcB (n := w1.heap.size) hb ?_; intro h_w1_0 e_w1_0 d_w1_0 _ _)); (try (refine bcB (n := w2.heap.size) hb ?_; intro h_w2_0 e_w2_0 d_w2_0 _ _))) | (go_at_call 18; refine (HI.out _).mono ?_; rintro e w' ⟨rfl, rfl⟩) | (go_at_call 19; (with_reducible refine (HN.out _ (HP.out.below (by exact belz))).mono ?_); rintro e w4 ⟨g, cp2, rfl, hcp2, hgw, hgl, hnm, hb⟩; have hz := hb.size; (try simp only [szA, szS, szD, szN] at hz); (try (refine bcB (n := w.heap.size) hb ?_; intro h_w_0 e_w_0 d_w_0 _ _)); (try (refine bcB (n := w1.heap.size) hb ?_; intro h_w1_0 e_w1_0 d_w1_0 _ _)); (try (refine bcB (n := w2.heap.size) hb ?_; intro h_w2_0 e_w2_0 d_w2_0 _ _)); (try (refine bcB (n := w3.heap.size) hb ?_; intro h_w3_0 e_w3_0 d_w3_0 _ _))))
  have hb4 : Below w.heap.size w w4 := by (clear hat hnm; exact belz)
  have hz4 := hb4.size
  have HAT := Lib.hid hat
  have HNM := Lib.hid hnm
  have cs0 : w4.cell? ⟨w.heap.size, 0, none⟩ = some (.int .i64 lon) := by go_simp
  have cs1 : w4.cell? ⟨w.heap.size, 1, none⟩ = some (.int .i64 lat) := by go_simp
  have hb24 : Below w2.heap.size w2 w4 := by (clear hat hnm hb4; exact belz)
  have hz24 := hb24.size
  have hwl : w.heap.size < w4.heap.size := by omega
  clear hat hnm hb HM HE HI HN
  go_loopg [8, 42] 8 (fun gk i r wr => ∃ k : Nat, k ≤ 8 ∧ gk + k = 8 ∧ i = .int .i64 ((dots lon lat t k).length : Int) ∧ r = .int .i64 (k : Int) ∧ Below w4.heap.size w4 wr)
  case atStart => exact ⟨0, by omega, by omega, rfl, rfl, Below.refl _ _⟩
  case round =>
    obtain ⟨k, hk8, hk, rfl, rfl, hbel⟩ := hrel
    have hsz := hbel.size
    by_cases hlt : k < 8
    · have hkd : decide ((k : Int) < 8) = true := decide_eq_true (by omega)
      have c5 : wr.cell? ⟨g, k, none⟩ = some (.string ⟨(stNm k).toArray⟩) := (hbel.cell (p := ⟨g, k, none⟩) hgl).trans (HNM.out k hlt)
      have d0 : wr.cell? ⟨w.heap.size, 0, none⟩ = some (.int .i64 lon) := (hbel.cell (p := ⟨w.heap.size, 0, none⟩) hwl).trans cs0
      have d1 : wr.cell? ⟨w.heap.size, 1, none⟩ = some (.int .i64 lat) := (hbel.cell (p := ⟨w.heap.size, 1, none⟩) hwl).trans cs1
      have hwr : w.heap.size < wr.heap.size := by omega
      have hgr : g < wr.heap.size := by omega
      have HKK := Lib.hid (HK.out k hlt)
      obtain ⟨hs1, hs2⟩ := HS.out k hlt
      have HNE := Lib.hid (fun q (hq : q < 8) => nm_eq q hq k hlt)
      have hdl : (dots lon lat t k).length ≤ (dots lon lat t 8).length := by
        have := dots_mono lon lat t k (8 - k)
        rw [show k + (8 - k) = 8 by omega] at this; exact this
      have h88 := dots_le lon lat t 8
      have ix0 := @ix_Nm g 0 8 cp2 k hlt
      rw [Nat.zero_add] at ix0
      by_cases hu : 0 ≤ sU1 lon lat t k
      · have hd := dots_at lon lat t 8 k hlt hu
        obtain ⟨hi, hie⟩ := List.getElem?_eq_some_iff.1 hd
        obtain ⟨gg, hs, hg, hp⟩ := HAT.out _ hi
        rw [hie] at hp
        have ix1 := @ix_Dot s gg 0 (dots lon lat t 8).length cap (dots lon lat t k).length hs hi
        rw [Nat.zero_add] at ix1
        have P : ∀ j, j < 6 → wr.cell? ⟨gg, (dots lon lat t k).length * 6 + j, none⟩ = (dotC lon lat t k)[j]? := fun j hj => (hbel.cell (p := ⟨gg, _, none⟩) (show gg < w4.heap.size by omega)).trans ((hb24.cell (p := ⟨gg, _, none⟩) hg).trans (hp.c j hj))
        have e0 : wr.cell? ⟨gg, (dots lon lat t k).length * 6, none⟩ = some (.string ⟨(stNm k).toArray⟩) := P 0 (by omega)
        have e1 : wr.cell? ⟨gg, (dots lon lat t k).length * 6 + 1, none⟩ = some (.int .i64 (sX0 lon t k)) := P 1 (by omega)
        have e2 : wr.cell? ⟨gg, (dots lon lat t k).length * 6 + 2, none⟩ = some (.int .i64 (sX1 lon t k)) := P 2 (by omega)
        have e3 : wr.cell? ⟨gg, (dots lon lat t k).length * 6 + 3, none⟩ = some (.int .i64 (sY0 lon lat t k)) := P 3 (by omega)
        have e4 : wr.cell? ⟨gg, (dots lon lat t k).length * 6 + 4, none⟩ = some (.int .i64 (sY1 lon lat t k)) := P 4 (by omega)
        have e5 : wr.cell? ⟨gg, (dots lon lat t k).length * 6 + 5, none⟩ = some (.bool (decide (0 < sU0 lon lat t k))) := P 5 (by omega)
        have hggr : gg < wr.heap.size := by omega
        have hlen : (dots lon lat t (k + 1)).length = (dots lon lat t k).length + 1 := by rw [dots_snoc, if_pos hu]; simp
        have HL := Lib.hid hlen
        have n1 : decide (((dots lon lat t k).length : Int) < ((dots lon lat t 8).length : Int)) = true := decide_eq_true (by omega)
        have n2 : ((⟨(stNm k).toArray⟩ : ByteArray).toList == (⟨(stNm k).toArray⟩ : ByteArray).toList) = true := by simp
        have v4 : IntKind.i64.wrap (((dots lon lat t k).length : Int) + 1) = (((dots lon lat t k).length + 1 : Nat) : Int) := by rw [IntWalk.i64_in _ (by omega)]; omega
        have f1 : (decide (0 < sU0 lon lat t k) = true ∧ decide (abUp (refSid lon t) lat (stX k t) (stY k t) (stZ k) < 0) = false) ∨ decide (0 < sU0 lon lat t k) = false := by
          by_cases c : 0 < sU0 lon lat t k
          · have := hs1 c
            exact .inl ⟨decide_eq_true c, decide_eq_false (by omega)⟩
          · exact .inr (decide_eq_false c)
        clear P hp hs hie hd hlen hs1 hs2 HAT HNE hu
        have HSt := Lib.hid HKK.out.st
        have HAb := Lib.hid HKK.out.ab
        have HCx := Lib.hid HKK.out.cx
        have HCy := Lib.hid HKK.out.cy
        clear HKK HNM
        generalize abUp (refSid lon t) lat (stX k t) (stY k t) (stZ k) = au at *
        generalize abSide (refSid lon t) (stX k t) (stY k t) = asd at *
        generalize abNo (refSid lon t) lat (stX k t) (stY k t) (stZ k) = an at *
        generalize stX k t = x at *
        generalize stY k t = y at *
        generalize stZ k = z at *
        generalize sX0 lon t k = x0 at *
        generalize sX1 lon t k = x1 at *
        generalize sY0 lon lat t k = y0 at *
        generalize sY1 lon lat t k = y1 at *
        generalize sU0 lon lat t k = u0 at *
        generalize (dots lon lat t k).length = m at *
        generalize (dots lon lat t 8).length = N at *
        generalize stNm k = nm at *
        clear HK HS HF h88
        rcases f1 with ⟨f1, f2⟩ | f1
        all_goals
          go_wp2_with (first | (go_at_call 20; (with_reducible refine (HSt.out _).mono ?_); rintro e w5 ⟨rfl, hb⟩; have hz := hb.size; (try simp only [szA, szS, szD, szN] at hz); (try (refine bcB (n := w.heap.size) hb ?_; intro h_w_0 e_w_0 d_w_0 _ _)); (try (refine bcB (n := g) hb ?_; intro h_bg_0 e_bg_0 d_bg_0 _ _)); (try (refine bcB (n := gg) hb ?_; intro h_bgg_0 e_bgg_0 d_bgg_0 _ _)); (try (refine bcB (n := wr.heap.size) hb ?_; intro h_wr_0 e_wr_0 d_wr_0 _ _))) | (go_at_call 21; (with_reducible refine (HAb.out _).mono ?_); rintro e w6 ⟨rfl, hb⟩; have hz := hb.size; (try simp only [szA, szS, szD, szN] at hz); (try (refine bcB (n := w.heap.size) hb ?_; intro h_w_0 e_w_0 d_w_0 _ _)); (try (refine bcB (n := g) hb ?_; intro h_bg_0 e_bg_0 d_bg_0 _ _)); (try (refine bcB (n := gg) hb ?_; intro h_bgg_0 e_bgg_0 d_bgg_0 _ _)); (try (refine bcB (n := wr.heap.size) hb ?_; intro h_wr_0 e_wr_0 d_wr_0 _ _)); (try (refine bcB (n := w5.heap.size) hb ?_; intro h_w5_0 e_w5_0 d_w5_0 _ _))) | (go_at_call 22; (with_reducible refine (HCx.out _).mono ?_); rintro e w7 ⟨rfl, hb⟩; have hz := hb.size; (try simp only [szA, szS, szD, szN] at hz); (try (refine bcB (n := w.heap.size) hb ?_; intro h_w_0 e_w_0 d_w_0 _ _)); (try (refine bcB (n := g) hb ?_; intro h_bg_0 e_bg_0 d_bg_0 _ _)); (try (refine bcB (n := gg) hb ?_; intro h_bgg_0 e_bgg_0 d_bgg_0 _ _)); (try (refine bcB (n := wr.heap.size) hb ?_; intro h_wr_0 e_wr_0 d_wr_0 _ _)); (try (refine bcB (n := w5.heap.size) hb ?_; intro h_w5_0 e_w5_0 d_w5_0 _ _)); (try (refine bcB (n := w6.heap.size) hb ?_; intro h_w6_0 e_w6_0 d_w6_0 _ _))) | (go_at_call 22; (with_reducible refine (HCy.out _).mono ?_); rintro e w8 ⟨rfl, hb⟩; have hz := hb.size; (try simp only [szA, szS, szD, szN] at hz); (try (refine bcB (n := w.heap.size) hb ?_; intro h_w_0 e_w_0 d_w_0 _ _)); (try (refine bcB (n := g) hb ?_; intro h_bg_0 e_bg_0 d_bg_0 _ _)); (try (refine bcB (n := gg) hb ?_; intro h_bgg_0 e_bgg_0 d_bgg_0 _ _)); (try (refine bcB (n := wr.heap.size) hb ?_; intro h_wr_0 e_wr_0 d_wr_0 _ _)); (try (refine bcB (n := w5.heap.size) hb ?_; intro h_w5_0 e_w5_0 d_w5_0 _ _)); (try (refine bcB (n := w6.heap.size) hb ?_; intro h_w6_0 e_w6_0 d_w6_0 _ _)); (try (refine bcB (n := w7.heap.size) hb ?_; intro h_w7_0 e_w7_0 d_w7_0 _ _))))
          go_roundg (8 - (k + 1))
          case measure => omega
          case rel => exact ⟨k + 1, by omega, by omega, by rw [HL.out]; push_cast; rfl, by push_cast; rfl, by exact belz⟩
      · have hlen : (dots lon lat t (k + 1)).length = (dots lon lat t k).length := by rw [dots_snoc, if_neg hu]
        have HL := Lib.hid hlen
        have f1 : decide (abUp (refSid lon t) lat (stX k t) (stY k t) (stZ k) > 1152921504) = false := by
          have := hs2 (by omega)
          exact decide_eq_false (by omega)
        by_cases hi : (dots lon lat t k).length < (dots lon lat t 8).length
        · obtain ⟨gg, hs, hg, hp⟩ := HAT.out _ hi
          have hmem := dots_mem (List.getElem_mem hi)
          have hq : (dots lon lat t 8)[(dots lon lat t k).length] ≠ k := fun e => hu (by rw [← e]; exact hmem.2)
          have n2 := HNE.out _ hmem.1
          rw [decide_eq_false hq] at n2
          have n3 := nm_eq2 _ hmem.1 k hlt
          rw [decide_eq_false hq] at n3
          have n4 : ∀ h : ((dots lon lat t 8)[(dots lon lat t k).length] : Nat) < 8, True := fun _ => trivial
          clear n4
          generalize (dots lon lat t 8)[(dots lon lat t k).length] = q at *
          have ix1 := @ix_Dot s gg 0 (dots lon lat t 8).length cap (dots lon lat t k).length hs hi
          rw [Nat.zero_add] at ix1
          have e0 : wr.cell? ⟨gg, (dots lon lat t k).length * 6, none⟩ = some (.string ⟨(stNm q).toArray⟩) := (hbel.cell (p := ⟨gg, _, none⟩) (show gg < w4.heap.size by omega)).trans ((hb24.cell (p := ⟨gg, _, none⟩) hg).trans (hp.c 0 (by omega)))
          have hggr : gg < wr.heap.size := by omega
          have n1 : decide (((dots lon lat t k).length : Int) < ((dots lon lat t 8).length : Int)) = true := decide_eq_true (by omega)
          clear hp hs hlen hs1 hs2 HAT HNE hu hmem hq
          have HSt := Lib.hid HKK.out.st
          have HAb := Lib.hid HKK.out.ab
          have HCx := Lib.hid HKK.out.cx
          have HCy := Lib.hid HKK.out.cy
          clear HKK HNM
          generalize abUp (refSid lon t) lat (stX k t) (stY k t) (stZ k) = au at *
          generalize abSide (refSid lon t) (stX k t) (stY k t) = asd at *
          generalize abNo (refSid lon t) lat (stX k t) (stY k t) (stZ k) = an at *
          generalize stX k t = x at *
          generalize stY k t = y at *
          generalize stZ k = z at *
          generalize sX0 lon t k = x0 at *
          generalize sX1 lon t k = x1 at *
          generalize sY0 lon lat t k = y0 at *
          generalize sY1 lon lat t k = y1 at *
          generalize (dots lon lat t k).length = m at *
          generalize (dots lon lat t 8).length = N at *
          generalize stNm k = nm at *
          generalize stNm q = nq at *
          clear HK HS h88
          go_wp2_with (first | (go_at_call 20; (with_reducible refine (HSt.out _).mono ?_); rintro e w5 ⟨rfl, hb⟩; have hz := hb.size; (try simp only [szA, szS, szD, szN] at hz); (try (refine bcB (n := w.heap.size) hb ?_; intro h_w_0 e_w_0 d_w_0 _ _)); (try (refine bcB (n := g) hb ?_; intro h_bg_0 e_bg_0 d_bg_0 _ _)); (try (refine bcB (n := gg) hb ?_; intro h_bgg_0 e_bgg_0 d_bgg_0 _ _)); (try (refine bcB (n := wr.heap.size) hb ?_; intro h_wr_0 e_wr_0 d_wr_0 _ _))) | (go_at_call 21; (with_reducible refine (HAb.out _).mono ?_); rintro e w6 ⟨rfl, hb⟩; have hz := hb.size; (try simp only [szA, szS, szD, szN] at hz); (try (refine bcB (n := w.heap.size) hb ?_; intro h_w_0 e_w_0 d_w_0 _ _)); (try (refine bcB (n := g) hb ?_; intro h_bg_0 e_bg_0 d_bg_0 _ _)); (try (refine bcB (n := gg) hb ?_; intro h_bgg_0 e_bgg_0 d_bgg_0 _ _)); (try (refine bcB (n := wr.heap.size) hb ?_; intro h_wr_0 e_wr_0 d_wr_0 _ _)); (try (refine bcB (n := w5.heap.size) hb ?_; intro h_w5_0 e_w5_0 d_w5_0 _ _))) | (go_at_call 23; refine (HF.out _).mono ?_; rintro e w' ⟨rfl, rfl⟩))
          go_roundg (8 - (k + 1))
          case measure => omega
          case rel => exact ⟨k + 1, by omega, by omega, by rw [HL.out], by push_cast; rfl, by exact belz⟩
        · have n1 : decide (((dots lon lat t k).length : Int) < ((dots lon lat t 8).length : Int)) = false := decide_eq_false (by omega)
          clear hlen hs1 hs2 HAT HNE hu
          have HSt := Lib.hid HKK.out.st
          have HAb := Lib.hid HKK.out.ab
          have HCx := Lib.hid HKK.out.cx
          have HCy := Lib.hid HKK.out.cy
          clear HKK HNM
          generalize abUp (refSid lon t) lat (stX k t) (stY k t) (stZ k) = au at *
          generalize abSide (refSid lon t) (stX k t) (stY k t) = asd at *
          generalize abNo (refSid lon t) lat (stX k t) (stY k t) (stZ k) = an at *
          generalize stX k t = x at *
          generalize stY k t = y at *
          generalize stZ k = z at *
          generalize sX0 lon t k = x0 at *
          generalize sX1 lon t k = x1 at *
          generalize sY0 lon lat t k = y0 at *
          generalize sY1 lon lat t k = y1 at *
          generalize (dots lon lat t k).length = m at *
          generalize (dots lon lat t 8).length = N at *
          generalize stNm k = nm at *
          clear HK HS h88
          go_wp2_with (first | (go_at_call 20; (with_reducible refine (HSt.out _).mono ?_); rintro e w5 ⟨rfl, hb⟩; have hz := hb.size; (try simp only [szA, szS, szD, szN] at hz); (try (refine bcB (n := w.heap.size) hb ?_; intro h_w_0 e_w_0 d_w_0 _ _)); (try (refine bcB (n := g) hb ?_; intro h_bg_0 e_bg_0 d_bg_0 _ _)); (try (refine bcB (n := wr.heap.size) hb ?_; intro h_wr_0 e_wr_0 d_wr_0 _ _))) | (go_at_call 21; (with_reducible refine (HAb.out _).mono ?_); rintro e w6 ⟨rfl, hb⟩; have hz := hb.size; (try simp only [szA, szS, szD, szN] at hz); (try (refine bcB (n := w.heap.size) hb ?_; intro h_w_0 e_w_0 d_w_0 _ _)); (try (refine bcB (n := g) hb ?_; intro h_bg_0 e_bg_0 d_bg_0 _ _)); (try (refine bcB (n := wr.heap.size) hb ?_; intro h_wr_0 e_wr_0 d_wr_0 _ _)); (try (refine bcB (n := w5.heap.size) hb ?_; intro h_w5_0 e_w5_0 d_w5_0 _ _))) | (go_at_call 23; refine (HF.out _).mono ?_; rintro e w' ⟨rfl, rfl⟩))
          go_roundg (8 - (k + 1))
          case measure => omega
          case rel => exact ⟨k + 1, by omega, by omega, by rw [HL.out], by push_cast; rfl, by exact belz⟩
    · obtain rfl : k = 8 := by omega
      clear HAT HK HS
      generalize (dots lon lat t 8).length = N at *
      have hb : Below w.heap.size w wr := Below.call hb4 (by omega) hbel
      go_wp2_with fail
      go_ret
      exact ⟨rfl, hb⟩
theorem walk_StarmapMaps (lon lat t : Int) (w : World) (hT : Tab w) (hP : STab w) (ht : -9223372036854775808 ≤ t ∧ t ≤ 9223372036854775807) :
    Calls Tryd.prog 5 #[.agg #[.int .i64 lon, .int .i64 lat], .int .i64 t] w fun e w' => e = .returned (.bool true) ∧ Below w.heap.size w w' := by
  cases h : plB lon lat with
  | false => exact walk_Sm_site lon lat t w hT hP h
  | true =>
    cases h2 : instB t with
    | true => exact walk_Sm_ok lon lat t w hT hP h h2
    | false => exact walk_Sm_time lon lat t w hT hP h h2 ht.1 ht.2
end
end Go.Proofs.YtcgnhnmigmdalaaDoor
