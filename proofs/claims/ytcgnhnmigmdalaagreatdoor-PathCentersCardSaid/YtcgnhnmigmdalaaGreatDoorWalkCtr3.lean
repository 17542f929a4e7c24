/- The walk through the law PathCenters, joined. -/
import Derived.Test.YtcgnhnmigmdalaaGreatDoorWalkCtr2
set_option linter.unusedVariables false
set_option linter.unusedSimpArgs false
set_option maxRecDepth 100000
namespace Go.Proofs.YtcgnhnmigmdalaaGreatDoor
open Go.RowKit
theorem ah_bd (t : Int) : -600000000000000 ≤ ahV t ∧ ahV t ≤ 600000000000000 := by
  obtain ⟨q, -, h1, h2⟩ := ah_mid t
  omega
theorem pcA_of {t x r0 r1 r2 r3 r4 : Int} (ht : instB t = true) (h : CtrP t x r0 r1 r2 r3 r4) : PcA t x r0 r1 r2 r3 r4 (moonW t % 1048576000000000) (psm t) (ahV t) (northV t) := by
  obtain ⟨i1, i2⟩ := inst_bd ht
  have b1 := Int.emod_nonneg (moonW t) (show (1048576000000000 : Int) ≠ 0 by decide)
  have b2 := Int.emod_lt_of_pos (moonW t) (show (0 : Int) < 1048576000000000 by decide)
  have hp : 0 ≤ psm t ∧ psm t < 1048576000000000 := by unfold psm; omega
  refine ⟨fun w1 h1 => h w1 h1, fun w1 => ?_, fun w1 => ?_, fun w1 => ?_, fun w1 => ?_, fun w1 => c_ahead _ _ w1 (by omega) (by omega) (by omega) (by omega)⟩
  · have := c_instErr t w1
    rw [inst_nil ht] at this; exact this
  · have := c_MoonLon t 0 w1 (by omega) (by omega) (by decide) (by decide)
    rw [show moonW t + 2500 * 0 * 1048576 = moonW t by omega] at this; exact this
  · have := c_SunLon t 0 w1 (by omega) (by omega) (by decide) (by decide)
    rw [show sunW t + 250 * 0 * 1048576 = sunW t by omega] at this; exact this
  · have := c_MoonLat t 0 w1 (by omega) (by omega) (by decide) (by decide)
    rw [show northV t + 2500 * 0 * 1048576 = northV t by omega] at this; exact this
theorem dir_bds {x y z : Int} {X Y Z : Rat} (h : Dir3 x y z X Y Z) (bX : rabs X ≤ 1 + 1 / 1000000) (bY : rabs Y ≤ 1 + 1 / 1000000) (bZ : rabs Z ≤ 1 + 1 / 1000000) : (-1160000000000000000 ≤ x ∧ x ≤ 1160000000000000000) ∧ (-1160000000000000000 ≤ y ∧ y ≤ 1160000000000000000) ∧ (-1160000000000000000 ≤ z ∧ z ≤ 1160000000000000000) := by
  obtain ⟨h1, h2, h3⟩ := h
  have a := fine_bd (n := x) (x := X) (by grind) bX
  have b := fine_bd (n := y) (x := Y) (by grind) bY
  have c := fine_bd (n := z) (x := Z) (by grind) bZ
  exact ⟨a.2, b.2, c.2⟩
theorem fm_all {a b : Int} (a1 : -1200000000000000000 ≤ a) (a2 : a ≤ 1200000000000000000) (b1 : -1200000000000000000 ≤ b) (b2 : b ≤ 1200000000000000000) : -1300000000000000000 ≤ fm a b ∧ fm a b ≤ 1300000000000000000 :=
  fm_le (a := a) (b := b) (A := 1200000000000000000) (B := 1200000000000000000) a1 a2 b1 b2 1300000000000000000 (by decide)
theorem fm_sq_nn (a : Int) : -10 ≤ fm a a := by
  have n : 0 ≤ a * a := by
    rcases Int.le_total 0 a with h | h
    · exact Int.mul_nonneg h h
    · have := Int.mul_nonneg (show 0 ≤ -a by omega) (show 0 ≤ -a by omega)
      have e : -a * -a = a * a := by grind
      omega
  have : 0 ≤ fm a a := by unfold fm; exact Int.tdiv_nonneg n (by decide)
  omega
theorem fu_rngC {n : Int} (n1 : -1000000000 ≤ n) (n2 : n ≤ 1000000000) : -1200000000000000000 ≤ fu n ∧ fu n ≤ 1200000000000000000 := by
  have h := fine_bd (n := fu n) (x := (n : Rat) / 1000000000) (by have := fu_near n; grind) (by have := one_bd n1 n2; grind)
  omega
theorem north_rngC (t : Int) : -1000000000000000 ≤ northV t ∧ northV t ≤ 1000000000000000 := by
  obtain ⟨a, b, -⟩ := north_facts t
  obtain ⟨c, d⟩ := north_bd t
  omega
theorem walk_Pc_ok {t : Int} (ht : instB t = true) (h : pErr t = 0) (w : World) (hT : Tab w) :
    Calls Tryz.prog 4 #[.int .i64 t] w fun e w' => e = .returned (.bool true) ∧ Below w.heap.size w w' := by
  obtain ⟨i1, i2⟩ := inst_bd ht
  have hA := pcA_of ht ((ctr_in ht).2 h)
  obtain ⟨a1, a2, b1, b2, -, -, -⟩ := pc_ok h
  obtain ⟨s1, s2⟩ := pc_sum h
  obtain ⟨z0, z1, -⟩ := ctZ_bd h
  obtain ⟨-, -, bs, bc⟩ := ps_sc t
  obtain ⟨t1, t2, t3, t4⟩ := tilt_num
  have bce : rabs ce9 ≤ 92/100 := rabs_le.2 ⟨by grind, by grind⟩
  have bse : rabs se9 ≤ 40/100 := rabs_le.2 ⟨by grind, by grind⟩
  have d1 : rabs (psS t * ce9) ≤ 1 + 1 / 1000000 := by have := mul_rabs bs bce; grind
  have d2 : rabs (psS t * se9) ≤ 1 + 1 / 1000000 := by have := mul_rabs bs bse; grind
  have d3 : rabs (psC t * ce9) ≤ 1 + 1 / 1000000 := by have := mul_rabs bc bce; grind
  have d4 : rabs (psC t * se9) ≤ 1 + 1 / 1000000 := by have := mul_rabs bc bse; grind
  have d5 : rabs (-psS t) ≤ 1 + 1 / 1000000 := by rw [rabs_neg]; grind
  have d6 : rabs (-se9) ≤ 1 + 1 / 1000000 := by rw [rabs_neg]; grind
  obtain ⟨⟨sx1, sx2⟩, ⟨sy1, sy2⟩, ⟨sz1, sz2⟩⟩ := dir_bds (sun_dir t) (by grind) d1 d2
  obtain ⟨⟨ex1, ex2⟩, ⟨ey1, ey2⟩, ⟨ez1, ez2⟩⟩ := dir_bds (side_dir t) d5 d3 d4
  obtain ⟨⟨nx1, nx2⟩, ⟨ny1, ny2⟩, ⟨nz1, nz2⟩⟩ := dir_bds north_dir (by decide +kernel) d6 (by grind)
  obtain ⟨fx1, fx2⟩ := fu_rngC a1 a2
  obtain ⟨fy1, fy2⟩ := fu_rngC b1 b2
  obtain ⟨has, dz1, dz2, ⟨dx1, dx2⟩, dy1, dy2⟩ := ctr_asin h
  have hp : 0 ≤ psm t ∧ psm t < 1048576000000000 := by unfold psm; omega
  have hn : 0 ≤ psn t ∧ psn t < 1048576000000000 := by unfold psn; omega
  have so := sid_ok 0 t
  have hr0 := so.a0
  have hr1 := so.a1
  obtain ⟨st1, st2, ct1, ct2⟩ := sc_bds (refSid 0 t) hr0 hr1
  have o := as_bounds (p3Lo t)
  have o' := as_bounds (p3Hi t)
  obtain ⟨-, -, h3, -⟩ := pErr_zero h
  have ko := (pc_all h3).2.2.2.o
  have oo := as_order ko
  obtain ⟨l0, l1, lh, lw⟩ : 0 ≤ ctrLo t ∧ ctrLo t < 1000000000 ∧ ctrLo t ≤ ctrHi t ∧ ctrHi t ≤ 3000000000 := by
    obtain ⟨-, ⟨f0, f1, f2⟩, ⟨g0, g1, g2⟩, -⟩ := pc_all h3
    have h4 := (pErr_zero h).2.2.2
    have hzz : ¬ (p2Lo t ≤ 0 ∧ 0 ≤ p2Hi t ∧ p1Lo t ≤ 0 ∧ 0 ≤ p1Hi t) := fun q => h4 (.inl q)
    obtain ⟨-, hle, -⟩ := c_Arc_all (p2Lo t) (p2Hi t) (p1Lo t) (p1Hi t) g0 f0 (by omega) (by omega) (by omega) (by omega) hzz
    have hle' : pA0 t ≤ pA1 t := hle
    have hwd : pA1 t - pA0 t ≤ 400000000 := by
      by_cases q : pA1 t - pA0 t ≤ 400000000
      · exact q
      · exact absurd (.inr (show 400000000 < pA1 t - pA0 t by omega)) h4
    obtain ⟨Q, q1, q2, q3, q4⟩ := ctr_split t
    have so1 := so.o
    have so2 := so.w
    omega
  have hB : PcB t (pca t) (pcb t) (fu (pca t)) (fu (pcb t)) (fm (fu (pca t)) (fu (pca t))) (fm (fu (pcb t)) (fu (pcb t))) (ctZ t) (psm t) (psn t) (dirX (psm t) 0) (dirY (psm t) 0) (dirZ (psm t) 0) (dirX (psn t) 0) (dirY (psn t) 0) (dirZ (psn t) 0) (dirX 0 262144000000000) (dirY 0 262144000000000) (dirZ 0 262144000000000)
      (fm (ctZ t) (dirX (psm t) 0)) (fm (fu (pca t)) (dirX (psn t) 0)) (fm (fu (pcb t)) (dirX 0 262144000000000)) (fm (ctZ t) (dirY (psm t) 0)) (fm (fu (pca t)) (dirY (psn t) 0)) (fm (fu (pcb t)) (dirY 0 262144000000000)) (fm (ctZ t) (dirZ (psm t) 0)) (fm (fu (pca t)) (dirZ (psn t) 0)) (fm (fu (pcb t)) (dirZ 0 262144000000000))
      (refSid 0 t) (sc (refSid 0 t)).1 (sc (refSid 0 t)).2 (fm (sc (refSid 0 t)).2 (cdY t)) (fm (sc (refSid 0 t)).1 (cdX t)) (fm (sc (refSid 0 t)).2 (cdX t)) (fm (sc (refSid 0 t)).1 (cdY t)) (ctrLo t) (ctrHi t) (asLo (p3Lo t)) (asHi (p3Hi t)) := by
    refine ⟨fun w1 => c_FromUnit _ w1 a1 a2, fun w1 => c_FromUnit _ w1 b1 b2, fun w1 => c_fMul _ _ w1 (by omega) (by omega) (by omega) (by omega), fun w1 => c_fMul _ _ w1 (by omega) (by omega) (by omega) (by omega), hA.sl, fun w1 => c_rEquator _ _ w1 (by omega) (by omega) (by omega) (by omega), fun w1 => c_rMod _ _ w1 (by omega) (by omega) (by omega) (by omega), fun w1 => c_rEquator _ _ w1 (by omega) (by omega) (by omega) (by omega), fun w1 => c_rEquator _ _ w1 (by omega) (by omega) (by omega) (by omega),
      fun w1 => c_fMul _ _ w1 (by omega) (by omega) (by omega) (by omega), fun w1 => c_fMul _ _ w1 (by omega) (by omega) (by omega) (by omega), fun w1 => c_fMul _ _ w1 (by omega) (by omega) (by omega) (by omega), fun w1 => c_fMul _ _ w1 (by omega) (by omega) (by omega) (by omega), fun w1 => c_fMul _ _ w1 (by omega) (by omega) (by omega) (by omega), fun w1 => c_fMul _ _ w1 (by omega) (by omega) (by omega) (by omega), fun w1 => c_fMul _ _ w1 (by omega) (by omega) (by omega) (by omega), fun w1 => c_fMul _ _ w1 (by omega) (by omega) (by omega) (by omega), fun w1 => c_fMul _ _ w1 (by omega) (by omega) (by omega) (by omega),
      fun w1 => c_rSidereal 0 0 t w1 (by omega) (by omega) (by omega) (by omega), fun w1 => ?_, fun w1 => ?_, fun w1 => c_fMul _ (cdY t) w1 (by omega) (by omega) (by omega) (by omega), fun w1 => c_fMul _ (cdX t) w1 (by omega) (by omega) (by omega) (by omega), fun w1 => c_fMul _ (cdX t) w1 (by omega) (by omega) (by omega) (by omega), fun w1 => c_fMul _ (cdY t) w1 (by omega) (by omega) (by omega) (by omega), fun hw w1 => ?_⟩
    · have := c_SinCos (refSid 0 t) w1 (by omega) (by omega)
      rw [Int.emod_eq_of_lt hr0 hr1] at this; exact this
    · exact c_InArcSin1 _ _ (cdZ t) w1 o.1 oo o'.2.2.2.1 has dz1 dz2
    · obtain ⟨ok, ⟨u1, u2⟩, v1, v2⟩ := ctr_arc h hw
      exact c_InArc1 _ _ (ctU t) (ctV t) w1 l0 l1 lh hw ok u1 u2 v1 v2
  have hZ : PcZ (fm (fu (pca t)) (fu (pca t))) (fm (fu (pcb t)) (fu (pcb t))) (psm t)
      (fm (ctZ t) (dirX (psm t) 0)) (fm (fu (pca t)) (dirX (psn t) 0)) (fm (fu (pcb t)) (dirX 0 262144000000000)) (fm (ctZ t) (dirY (psm t) 0)) (fm (fu (pca t)) (dirY (psn t) 0)) (fm (fu (pcb t)) (dirY 0 262144000000000)) (fm (ctZ t) (dirZ (psm t) 0)) (fm (fu (pca t)) (dirZ (psn t) 0)) (fm (fu (pcb t)) (dirZ 0 262144000000000))
      (fm (sc (refSid 0 t)).2 (cdY t)) (fm (sc (refSid 0 t)).1 (cdX t)) (fm (sc (refSid 0 t)).2 (cdX t)) (fm (sc (refSid 0 t)).1 (cdY t)) (ctrLo t) (ctrHi t) :=
    ⟨⟨fm_sq_nn _, (fm_all fx1 fx2 fx1 fx2).2⟩, ⟨fm_sq_nn _, (fm_all fy1 fy2 fy1 fy2).2⟩, ⟨hp.1, by omega⟩, fm_all (by omega) (by omega) (by omega) (by omega), fm_all (by omega) (by omega) (by omega) (by omega), fm_all (by omega) (by omega) (by omega) (by omega), fm_all (by omega) (by omega) (by omega) (by omega), fm_all (by omega) (by omega) (by omega) (by omega), fm_all (by omega) (by omega) (by omega) (by omega), fm_all (by omega) (by omega) (by omega) (by omega), fm_all (by omega) (by omega) (by omega) (by omega), fm_all (by omega) (by omega) (by omega) (by omega),
      fm_all (by omega) (by omega) (by omega) (by omega), fm_all (by omega) (by omega) (by omega) (by omega), fm_all (by omega) (by omega) (by omega) (by omega), fm_all (by omega) (by omega) (by omega) (by omega), ⟨l0, l1⟩, ⟨lh, lw⟩⟩
  obtain ⟨v0, v1⟩ := ah_bd t
  obtain ⟨n0, n1⟩ := north_rngC t
  exact walk_Pc_gen w hT hA hB hZ v0 v1 n0 n1 rfl rfl a1 a2 b1 b2 (by omega) rfl
theorem walk_PathCenters (t : Int) (w : World) (hT : Tab w) (t1 : -9223372036854775808 ≤ t) (t2 : t ≤ 9223372036854775807) :
    Calls Tryz.prog 4 #[.int .i64 t] w fun e w' => e = .returned (.bool true) ∧ Below w.heap.size w w' := by
  by_cases ht : instB t = true
  · by_cases h : pErr t = 0
    · exact walk_Pc_ok ht h w hT
    · have hA := pcA_of ht ((ctr_in ht).1 h)
      obtain ⟨v0, v1⟩ := ah_bd t
      obtain ⟨n0, n1⟩ := north_rngC t
      have hv : pErr t = 6 ∨ pErr t = 11 := by rcases pErr_vals t with e | e | e <;> omega
      refine walk_Pc_err (a := pca t) (b := pcb t) w hT hA v0 v1 n0 n1 rfl rfl ?_
      by_cases c1 : -1000000000 ≤ pca t ∧ pca t ≤ 1000000000
      · by_cases c2 : -1000000000 ≤ pcb t ∧ pcb t ≤ 1000000000
        · refine .inr (.inr ⟨c1.1, c1.2, c2.1, c2.2, ?_⟩)
          by_cases c3 : pca t * pca t + pcb t * pcb t ≤ 1000000000000000000
          · refine .inr ⟨c3, ?_⟩
            rcases pc_open c1 c2 c3 with e | e
            · exact absurd e h
            · exact e
          · exact .inl ⟨by omega, hv⟩
        · exact .inr (.inl ⟨c1.1, c1.2, by omega, hv⟩)
      · exact .inl ⟨by omega, hv⟩
  · have ht' : instB t = false := by revert ht; cases instB t <;> simp
    exact walk_Pc_range t w hT ht' t1 t2
end Go.Proofs.YtcgnhnmigmdalaaGreatDoor
