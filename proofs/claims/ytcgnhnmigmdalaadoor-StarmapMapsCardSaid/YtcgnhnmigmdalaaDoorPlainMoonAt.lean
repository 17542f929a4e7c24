/- The moon's conversion to the equator: numbers. No program in sight. -/
import Derived.Test.YtcgnhnmigmdalaaDoorWalkSunA
set_option linter.unusedVariables false
set_option linter.unusedSimpArgs false
namespace Go.Proofs.YtcgnhnmigmdalaaDoor
open Ieee
theorem prt_small (a v : Int) (h1 : -1153000000000000000 ≤ v) (h2 : v ≤ 1153000000000000000) {A : Int} (ha : rabs (a : Rat) ≤ (A : Rat)) : prt a v ≤ A * 1048652 + 1 ∧ -(A * 1048652 + 1) ≤ prt a v := by
  obtain ⟨p1, p2⟩ := prt_near a v
  have hv := rabs_int h1 h2
  have m := rabs_le.1 (mul_rabs ha hv)
  have A0 := rabs_nonneg (a : Rat)
  have c : ((1153000000000000000 : Int) : Rat) = 1153000000000000000 := rfl
  rw [c] at m
  constructor
  · refine Rat.intCast_le_intCast.1 ?_
    push_cast
    grind
  · refine Rat.intCast_le_intCast.1 ?_
    push_cast
    grind
theorem refArg_sc (t : Tm) (i : Int) : -1153000000000000000 ≤ (sc (refArg t i % 1000000000000000)).1 ∧ (sc (refArg t i % 1000000000000000)).1 ≤ 1153000000000000000 := by
  have h0 := Int.emod_nonneg (refArg t i) (show (1000000000000000 : Int) ≠ 0 by decide)
  have h1 := Int.emod_lt_of_pos (refArg t i) (show (0 : Int) < 1000000000000000 by decide)
  have b := sc_bd h0 (by omega) 12 (by decide)
  exact ⟨b.1, b.2.1⟩
theorem north_small (t : Int) : -16564089629000 ≤ northV t ∧ northV t ≤ 16564089629000 := by
  have e : northV t = 0 * 1048576 + refTerm ⟨14244783, 648500531, 36748195111111⟩ t + refTerm ⟨779450, 747884547, 73039842194444⟩ t + refTerm ⟨771369, 450883485, -456548027778⟩ t := rfl
  have a1 := refArg_sc ⟨14244783, 648500531, 36748195111111⟩ t
  have a2 := refArg_sc ⟨779450, 747884547, 73039842194444⟩ t
  have a3 := refArg_sc ⟨771369, 450883485, -456548027778⟩ t
  have b1 := prt_small 14244783 _ a1.1 a1.2 (A := 14244783) (rabs_int (by decide) (by decide))
  have b2 := prt_small 779450 _ a2.1 a2.2 (A := 779450) (rabs_int (by decide) (by decide))
  have b3 := prt_small 771369 _ a3.1 a3.2 (A := 771369) (rabs_int (by decide) (by decide))
  have f1 : refTerm ⟨14244783, 648500531, 36748195111111⟩ t = prt 14244783 (sc (refArg ⟨14244783, 648500531, 36748195111111⟩ t % 1000000000000000)).1 := rfl
  have f2 : refTerm ⟨779450, 747884547, 73039842194444⟩ t = prt 779450 (sc (refArg ⟨779450, 747884547, 73039842194444⟩ t % 1000000000000000)).1 := rfl
  have f3 : refTerm ⟨771369, 450883485, -456548027778⟩ t = prt 771369 (sc (refArg ⟨771369, 450883485, -456548027778⟩ t % 1000000000000000)).1 := rfl
  rw [e, f1, f2, f3]
  generalize prt 14244783 _ = p1 at *
  generalize prt 779450 _ = p2 at *
  generalize prt 771369 _ = p3 at *
  omega
theorem blat_in {t v : Int} (h : BLat t v) : northLo t * 1048576 - 2000 ≤ v ∧ v ≤ northHi t * 1048576 + 2000 := by
  obtain ⟨n, h1, h2, rfl⟩ := h
  obtain ⟨a, b⟩ := val_contains2 (inst := t) (sumOk_of north_e) (by decide)
  have a : northLo t * 1048576 ≤ northV t - 20000 * 1048576 + 2000 := a
  have b : northV t + 20000 * 1048576 ≤ northHi t * 1048576 + 2000 := b
  omega
theorem north_rng (t : Int) : northLo t ≤ northHi t ∧ -15900000 ≤ northLo t ∧ northHi t ≤ 15900000 ∧ northHi t - northLo t ≤ 40002 := by
  obtain ⟨a, b⟩ := val_contains2 (inst := t) (sumOk_of north_e) (by decide)
  have a : northLo t * 1048576 ≤ northV t - 20000 * 1048576 + 2000 := a
  have b : northV t + 20000 * 1048576 ≤ northHi t * 1048576 + 2000 := b
  obtain ⟨-, -, w, -, -⟩ := north_facts t
  have s := north_small t
  omega
theorem mlon_in {t m : Int} (h : MLon t m) : (m - moonLo t * 1048576 + 2000) % 1048576000000000 ≤ (moonHi t - moonLo t) * 1048576 + 4000 := by
  obtain ⟨n, h1, h2, rfl⟩ := h
  have h : (moonW t - 20000 * 1048576 - moonLo t * 1048576 + 2000) % 1048576000000000 ≤ (moonHi t - moonLo t - 2 * 20000) * 1048576 + 4000 := ang_contains2 (inst := t) (sumOk_of moon_e) (by decide)
  obtain ⟨-, -, -, hw, -⟩ := moon_facts t
  have h0 : 0 ≤ (moonW t - 20000 * 1048576 - moonLo t * 1048576 + 2000) % 1048576000000000 := by omega
  generalize moonW t = W at *
  generalize moonLo t = lo at *
  generalize moonHi t = hi at *
  have e : ((W + 2500 * n * 1048576) % 1048576000000000 - lo * 1048576 + 2000) % 1048576000000000 = ((W - 20000 * 1048576 - lo * 1048576 + 2000) % 1048576000000000 + (20000 * 1048576 + 2500 * n * 1048576)) % 1048576000000000 := by omega
  rw [e]
  generalize (W - 20000 * 1048576 - lo * 1048576 + 2000) % 1048576000000000 = K at *
  have e2 : (K + (20000 * 1048576 + 2500 * n * 1048576)) % 1048576000000000 = K + (20000 * 1048576 + 2500 * n * 1048576) := Int.emod_eq_of_lt (by omega) (by omega)
  rw [e2]
  omega
theorem moon_pt {t m v : Int} (h : MLon t m) (h' : BLat t v) : Pt (moonLo t) (moonHi t) (northLo t) (northHi t) (zA (argU m)) (zA (argU v)) := by
  obtain ⟨-, -, -, -, -, -, h6⟩ := moon_facts t
  obtain ⟨a0, a1⟩ := argU_bd m
  obtain ⟨c0, c1⟩ := argU_bd v
  have b := blat_in h'
  exact ⟨h6, (north_rng t).1, zA_bd a0 a1, zA_bd c0 c1, kl_ang h.bd.1 h.bd.2 (mlon_in h), kl_val (by omega) (by omega)⟩
theorem blat_sin {t v : Int} (h : BLat t v) : rabs (S (tq * zA (argU v))) ≤ 994/10000 := by
  obtain ⟨n, h1, h2, rfl⟩ := h
  have s := north_small t
  generalize hv : northV t + 2500 * n * 1048576 = v
  have v1 : -16585065000000 ≤ v := by omega
  have v2 : v ≤ 16585065000000 := by omega
  obtain ⟨c0, c1⟩ := argU_bd v
  obtain ⟨z0, z1⟩ := zA_bd c0 c1
  obtain ⟨n1, n2⟩ := zA_near v
  have l1 := icast (show -16585065000000 ≤ v by omega)
  have l2 := icast (show v ≤ 16585065000000 by omega)
  have k1 : ((-16585065000000 : Int) : Rat) = -16585065000000 := rfl
  have k2 : ((16585065000000 : Int) : Rat) = 16585065000000 := rfl
  rw [k1] at l1
  rw [k2] at l2
  obtain ⟨j, hj, hj2⟩ : ∃ j : Int, v % 1048576000000000 = v + j * 1048576000000000 ∧ (j = 0 ∨ j = 1) := by
    by_cases q : 0 ≤ v
    · exact ⟨0, by omega, .inl rfl⟩
    · exact ⟨1, by omega, .inr rfl⟩
  have ej : ((v % 1048576000000000 : Int) : Rat) = (v : Rat) + (j : Rat) * 1048576000000000 := by rw [hj]; push_cast; rfl
  rw [ej] at n1 n2
  have yb : rabs (zA (argU v) - (j : Rat) * 1000000000) ≤ 15816800 := by
    rw [rabs_le]
    constructor <;> grind
  have l := rabs_le.1 (sin_lat (z := zA (argU v)) (y := zA (argU v) - (j : Rat) * 1000000000) (j := j) z0 z1 (Rat.le_trans yb (by decide +kernel)) (by grind))
  obtain ⟨t1, t2, -⟩ := tq_num
  have m := mul_rabs (show rabs tq ≤ 628319 / 100000000000000 from rabs_le.2 ⟨by grind, by grind⟩) yb
  have sm := S_small1 (x := tq * (zA (argU v) - (j : Rat) * 1000000000)) (Rat.le_trans m (by decide +kernel))
  have sm2 := rabs_le.1 (Rat.le_trans sm m)
  have fin : (628319 / 100000000000000 * 15816800 : Rat) ≤ 9939/100000 := by decide +kernel
  exact rabs_le.2 ⟨by grind, by grind⟩
theorem moon_norm {t m v : Int} (h : MLon t m) (h' : BLat t v) : (8732/10000 : Rat) * (8732/10000) - 1 / 1000000000 ≤ pX (zA (argU m)) (zA (argU v)) * pX (zA (argU m)) (zA (argU v)) + pY (zA (argU m)) (zA (argU v)) * pY (zA (argU m)) (zA (argU v)) ∧ rabs (pX (zA (argU m)) (zA (argU v))) ≤ 1 + 1 / 1000000 ∧ rabs (pY (zA (argU m)) (zA (argU v))) ≤ 1 + 1 / 1000000 ∧ rabs (pZ (zA (argU m)) (zA (argU v))) ≤ 1 + 1 / 1000000000 := eq_norm (moon_pt h h').l.1 (moon_pt h h').l.2 (moon_pt h h').b.1 (moon_pt h h').b.2 (s0 := 994/10000) (c0 := 995/1000) (r0 := 8732/10000) (blat_sin h') (by decide +kernel) (by decide +kernel) (by decide +kernel) (by decide +kernel)
theorem moon_wd (t : Int) : 62832 / 10000 * ((moonHi t - moonLo t : Int) : Rat) + 225/100 ≤ 251350 ∧ 62832 / 10000 * ((northHi t - northLo t : Int) : Rat) + 225/100 ≤ 251350 := by
  obtain ⟨-, -, -, h4, -, -, -⟩ := moon_facts t
  obtain ⟨-, -, -, h5⟩ := north_rng t
  have a := icast h4
  have b := icast h5
  have c : ((40003 : Int) : Rat) = 40003 := rfl
  have c' : ((40002 : Int) : Rat) = 40002 := rfl
  rw [c] at a
  rw [c'] at b
  constructor <;> grind
theorem moon_box {t m v : Int} (h : MLon t m) (h' : BLat t v) : Box (eqY0 (moonLo t) (moonHi t) (northLo t) (northHi t)) (eqY1 (moonLo t) (moonHi t) (northLo t) (northHi t)) (eqX0 (moonLo t) (moonHi t) (northLo t) (northHi t)) (eqX1 (moonLo t) (moonHi t) (northLo t) (northHi t)) 871900000 (865/1000000) :=
  eq_box (moon_pt h h') (s0 := 994/10000) (c0 := 995/1000) (r0 := 8732/10000) (wl := 251350) (wb := 251350) (A := 502703) (B := 561225) (moon_wd t).1 (moon_wd t).2 (blat_sin h') (by decide +kernel) (by decide +kernel) (by decide +kernel) (by decide +kernel) (by decide +kernel) (by decide +kernel) (by decide +kernel) (by decide +kernel) (by decide +kernel) (by decide +kernel) (by decide +kernel) (by decide +kernel) (by decide +kernel)
theorem moon_sov (t : Int) : -100200000 ≤ sovLo (northLo t) (northHi t) ∧ sovHi (northLo t) (northHi t) ≤ 100200000 := by
  obtain ⟨o, a, b, w⟩ := north_rng t
  have ok := over_ok (northLo t) (northHi t) o
  have c1 := ok.c1 (northLo t) (Int.le_refl _) o
  have c2 := ok.c2 (northHi t) o (Int.le_refl _)
  have ww := ok.w
  have w' := (moon_wd t).2
  have sm : ∀ n : Int, -15900000 ≤ n → n ≤ 15900000 → siU n ≤ 9991/100000 ∧ -(9991/100000) ≤ siU n := by
    intro n n1 n2
    have s := rabs_le.1 (siU_tq (a := n) (by omega) (by omega))
    have rn := rabs_int (n := n) (B := 15900000) n1 n2
    have cc : ((15900000 : Int) : Rat) = 15900000 := rfl
    rw [cc] at rn
    obtain ⟨t1, t2, -⟩ := tq_num
    have m := mul_rabs (show rabs tq ≤ 628319 / 100000000000000 from rabs_le.2 ⟨by grind, by grind⟩) rn
    have ss := rabs_le.1 (Rat.le_trans (S_small1 (x := tq * (n : Rat)) (Rat.le_trans m (by decide +kernel))) m)
    have fin : (628319 / 100000000000000 * 15900000 : Rat) ≤ 99903/1000000 := by decide +kernel
    constructor <;> grind
  have s1 := sm (northLo t) a (by omega)
  have s2 := sm (northHi t) (by omega) b
  clear sm ok
  generalize sovLo (northLo t) (northHi t) = L at *
  generalize sovHi (northLo t) (northHi t) = H at *
  push_cast at ww w'
  constructor
  · refine Rat.intCast_le_intCast.1 ?_
    have k : ((-100200000 : Int) : Rat) = -100200000 := rfl
    rw [k]; grind
  · refine Rat.intCast_le_intCast.1 ?_
    have k : ((100200000 : Int) : Rat) = 100200000 := rfl
    rw [k]; grind
theorem moon_dec (t : Int) : asHi (eqZ1 (moonLo t) (moonHi t) (northLo t) (northHi t)) - asLo (eqZ0 (moonLo t) (moonHi t) (northLo t) (northHi t)) ≤ 200000 := by
  obtain ⟨-, -, -, -, -, -, h6⟩ := moon_facts t
  obtain ⟨o, -⟩ := north_rng t
  obtain ⟨s1, s2⟩ := moon_sov t
  have z := eqZ_small (l0 := moonLo t) (l1 := moonHi t) h6 o s1 s2 (by decide)
  have zo := (eqZ_bd (l0 := moonLo t) (l1 := moonHi t) h6 o).1
  obtain ⟨-, -, wZ⟩ := eq_widths (l0 := moonLo t) (l1 := moonHi t) (wl := 251350) (wb := 251350) h6 o (moon_wd t).1 (moon_wd t).2
  generalize eqZ0 (moonLo t) (moonHi t) (northLo t) (northHi t) = m at *
  generalize eqZ1 (moonLo t) (moonHi t) (northLo t) (northHi t) = n at *
  have b1 := rabs_int (n := m) (B := 498000000) (by omega) (by omega)
  have b2 := rabs_int (n := n) (B := 498000000) (by omega) (by omega)
  have cc : ((498000000 : Int) : Rat) = 1000000000 * (498/1000) := by decide +kernel
  rw [cc] at b1 b2
  have k := asin_wide (m := m) (n := n) (s := 498/1000) (c0 := 867/1000) zo (by omega) (by omega) b1 b2 (by decide +kernel) (by decide +kernel) (by decide +kernel)
  push_cast at k
  refine width_int (κ := 10348 / 10000000) ?_ (by decide +kernel)
  push_cast
  grind
theorem moonD_bd {t x y z : Int} (h : MoonD t x y z) : (-1160000000000000000 ≤ x ∧ x ≤ 1160000000000000000) ∧ (-1160000000000000000 ≤ y ∧ y ≤ 1160000000000000000) ∧ (-1160000000000000000 ≤ z ∧ z ≤ 1160000000000000000) := by
  obtain ⟨m, v, hm, hv, rfl, rfl, rfl⟩ := h
  have n := moon_norm hm hv
  have d := dir_ok m v
  have dx := d.x
  have dy := d.y
  have dz := d.z
  exact ⟨(fine_bd (by grind) n.2.1).2, (fine_bd (by grind) n.2.2.1).2, (fine_bd (by grind) (show rabs (pZ (zA (argU m)) (zA (argU v))) ≤ 1 + 1 / 1000000 by have := n.2.2.2; grind)).2⟩
theorem mlon_ex (t : Int) : ∃ m, MLon t m := ⟨_, 0, by decide, by decide, rfl⟩
theorem blat_ex (t : Int) : ∃ v, BLat t v := ⟨_, 0, by decide, by decide, rfl⟩
end Go.Proofs.YtcgnhnmigmdalaaDoor
