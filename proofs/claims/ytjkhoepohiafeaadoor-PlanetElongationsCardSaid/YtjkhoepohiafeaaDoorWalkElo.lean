/- The walk through the law PlanetElongations. -/
import Derived.Test.YtjkhoepohiafeaaDoorPlainElo2
import Derived.Test.YtjkhoepohiafeaaDoorWalkPlo4
set_option linter.unusedVariables false
set_option linter.unusedSimpArgs false
namespace Go.Proofs.YtjkhoepohiafeaaDoor
open Go.RowKit
def elLoP (r m rt t : Int) : Int := (plLo r m rt t - sunHi t) % 1000000000
def elHiP (r m rt t : Int) : Int := (plLo r m rt t - sunHi t) % 1000000000 + (plHi r m rt t - sunLo t) - (plLo r m rt t - sunHi t)
def elU (r m rt t : Int) : Int := fm (plF r (sc (plA m rt t)).1 (sc (argU (sunW t))).1) (sc (argU (sunW t))).2 - fm (plF r (sc (plA m rt t)).2 (sc (argU (sunW t))).2) (sc (argU (sunW t))).1
def elV (r m rt t : Int) : Int := fm (plF r (sc (plA m rt t)).2 (sc (argU (sunW t))).2) (sc (argU (sunW t))).2 + fm (plF r (sc (plA m rt t)).1 (sc (argU (sunW t))).1) (sc (argU (sunW t))).1
structure PlE (r m rt t : Int) : Prop where
  l0 : 0 ≤ elLoP r m rt t
  l1 : elLoP r m rt t < 1000000000
  lh : elLoP r m rt t ≤ elHiP r m rt t
  w : elHiP r m rt t - elLoP r m rt t ≤ 104020
  i : InArcOk (elLoP r m rt t) (elHiP r m rt t % 1000000000) (elU r m rt t) (elV r m rt t)
  u : -1160000000000000000 ≤ elU r m rt t ∧ elU r m rt t ≤ 1160000000000000000
  v : -1160000000000000000 ≤ elV r m rt t ∧ elV r m rt t ≤ 1160000000000000000
theorem elo_len {r : Int} (h : r = 387 ∨ r = 723 ∨ r = 1524 ∨ r = 5203 ∨ r = 9537) : ((r : Rat) + 1001) * ((r : Rat) + 1001) / 64 ≤ ((r : Rat) - 1000) * ((r : Rat) - 1000) - 1 / 100 := by
  rcases h with rfl | rfl | rfl | rfl | rfl <;> decide +kernel
theorem elo_bdv {r x y : Rat} (r0 : 0 ≤ r) (r1 : r ≤ 9537) (hx : rabs x ≤ 1 + 1 / 100000000000) (hy : rabs y ≤ 1 + 1 / 100000000000) : rabs (1 / 16384 * (1000000000 * (r * x + 1000 * y))) ≤ 1000000000 / 16384 * (r + 1001) := by
  have hx := rabs_le.1 hx
  have hy := rabs_le.1 hy
  have m1 := Rat.mul_le_mul_of_nonneg_left hx.1 r0
  have m2 := Rat.mul_le_mul_of_nonneg_left hx.2 r0
  rw [rabs_le]
  constructor <;> grind
theorem pl_e {r m rt : Int} (h : PlRw r m rt) (t : Int) : PlE r m rt t := by
  have f := pl_f h t
  have pt := f.pt
  have l := pl_l h t
  obtain ⟨u1, u2, -, u3, -, -, u6⟩ := sun_facts t
  have r0 := pt.r0
  have r1 := pt.r1
  have R0 := icast (show 0 ≤ r by omega)
  have R1 := icast r1
  have e0 : ((0 : Int) : Rat) = 0 := rfl
  have e2 : ((9537 : Int) : Rat) = 9537 := rfl
  rw [e0] at R0
  rw [e2] at R1
  obtain ⟨A0, A1⟩ := plA_bd m rt t
  obtain ⟨B0, B1⟩ := argU_bd (sunW t)
  obtain ⟨g1, g2⟩ := sc_zA A0 A1
  obtain ⟨g3, g4⟩ := sc_zA B0 B1
  have n1 := sc_one pt.p0 pt.p1
  have n2 := sc_one pt.s0 pt.s1
  have FY := plF_near r0 r1 g1 g3
  have FX := plF_near r0 r1 g2 g4
  have bY := plv_bd R0 R1 n1.1 n2.1
  have bX := plv_bd R0 R1 n1.2 n2.2
  have MX := elo_bdv R0 R1 n1.2 n2.2
  have MY := elo_bdv R0 R1 n1.1 n2.1
  have ln := pv_len (r := (r : Rat)) R0 R1 pt.p0 pt.p1 pt.s0 pt.s1
  have le := elo_len h.r
  have hn := l.n
  have ll0 := l.l0
  have ll1 := l.l1
  have llh := l.lh
  have llw := l.w
  obtain ⟨q1, q2, q3⟩ := elo_in (a := plLo r m rt t) (hi := plHi r m rt t) (b0 := sunLo t) (b1 := sunHi t) (M := 1000000000 / 16384 * ((r : Rat) + 1001)) (zS := zA (argU (sunW t))) ll0 ll1 llh llw hn (by grind) (by grind) MX MY (by
    unfold pvX pvY
    generalize S (tq * zA (plA m rt t)) = a at *
    generalize C (tq * zA (plA m rt t)) = b at *
    generalize S (tq * zA (argU (sunW t))) = c at *
    generalize C (tq * zA (argU (sunW t))) = d at *
    have e : 1 / 16384 * (1000000000 * (↑r * b + 1000 * d)) * (1 / 16384 * (1000000000 * (↑r * b + 1000 * d))) + 1 / 16384 * (1000000000 * (↑r * a + 1000 * c)) * (1 / 16384 * (1000000000 * (↑r * a + 1000 * c))) = 1000000000 / 16384 * (1000000000 / 16384) * ((↑r * a + 1000 * c) * (↑r * a + 1000 * c) + (↑r * b + 1000 * d) * (↑r * b + 1000 * d)) := by grind
    have e3 : 1000000000 / 16384 * ((r : Rat) + 1001) * (1000000000 / 16384 * ((r : Rat) + 1001)) / 64 = 1000000000 / 16384 * (1000000000 / 16384) * (((r : Rat) + 1001) * ((r : Rat) + 1001) / 64) := by grind
    rw [e, e3]
    exact Rat.mul_le_mul_of_nonneg_left (Rat.le_trans le ln) (by decide +kernel)) u6 (by omega) pt.s0 pt.s1 pt.ks
  have eX : 1 / 16384 * pvX r (zA (plA m rt t)) (zA (argU (sunW t))) = 1000000000 * (((r : Rat) * C (tq * zA (plA m rt t)) + 1000 * C (tq * zA (argU (sunW t)))) / 16384) := by unfold pvX; grind
  have eY : 1 / 16384 * pvY r (zA (plA m rt t)) (zA (argU (sunW t))) = 1000000000 * (((r : Rat) * S (tq * zA (plA m rt t)) + 1000 * S (tq * zA (argU (sunW t)))) / 16384) := by unfold pvY; grind
  rw [eX, eY] at q1 q2 q3
  clear eX eY ln le hn MX MY f pt l h g1 g2
  generalize hx : ((r : Rat) * C (tq * zA (plA m rt t)) + 1000 * C (tq * zA (argU (sunW t)))) / 16384 = x at *
  generalize hy : ((r : Rat) * S (tq * zA (plA m rt t)) + 1000 * S (tq * zA (argU (sunW t)))) / 16384 = y at *
  have w6 : ∀ {q : Rat}, rabs q ≤ 1 + 1 / 100000000000 → rabs q ≤ 1 + 1 / 1000000 := fun h => by grind
  have k1 := fm_two FY g4 (by decide +kernel) (by decide +kernel) bY (w6 n2.2)
  have k2 := fm_two FX g3 (by decide +kernel) (by decide +kernel) bX (w6 n2.1)
  have k3 := fm_two FX g4 (by decide +kernel) (by decide +kernel) bX (w6 n2.2)
  have k4 := fm_two FY g3 (by decide +kernel) (by decide +kernel) bY (w6 n2.1)
  have cU : rabs ((elU r m rt t : Rat) - uQ * ((1000000000 * y * C (tq * zA (argU (sunW t))) - 1000000000 * x * S (tq * zA (argU (sunW t)))) / 1000000000)) ≤ 1000000 := by
    have k1 := rabs_le.1 k1
    have k2 := rabs_le.1 k2
    unfold elU
    rw [rabs_le]
    push_cast
    clear q1 q2 q3 k3 k4 FX FY bX bY n1 n2 g3 g4 hx hy w6
    constructor <;> grind
  have cV : rabs ((elV r m rt t : Rat) - uQ * ((1000000000 * x * C (tq * zA (argU (sunW t))) + 1000000000 * y * S (tq * zA (argU (sunW t)))) / 1000000000)) ≤ 1000000 := by
    have k3 := rabs_le.1 k3
    have k4 := rabs_le.1 k4
    unfold elV
    rw [rabs_le]
    push_cast
    clear q1 q2 q3 k1 k2 FX FY bX bY n1 n2 g3 g4 hx hy w6 cU
    constructor <;> grind
  have c8 : (1000000 : Rat) ≤ 100000000 := by decide +kernel
  have sU : rabs ((1000000000 * y * C (tq * zA (argU (sunW t))) - 1000000000 * x * S (tq * zA (argU (sunW t)))) / 1000000000) ≤ 1 + 1 / 1000000 := by
    have := rabs_le.1 q3
    rw [rabs_le]; constructor <;> grind
  have sV : rabs ((1000000000 * x * C (tq * zA (argU (sunW t))) + 1000000000 * y * S (tq * zA (argU (sunW t)))) / 1000000000) ≤ 1 + 1 / 1000000 := by
    have := rabs_le.1 q2
    rw [rabs_le]; constructor <;> grind
  have fU := fine_bd (Rat.le_trans cU c8) sU
  have fV := fine_bd (Rat.le_trans cV c8) sV
  have mm := emod_bd (plLo r m rt t - sunHi t)
  have m9 := emod_bd (elHiP r m rt t)
  refine ⟨mm.1, mm.2, by unfold elHiP elLoP; omega, by unfold elHiP elLoP; omega, ?_, fU.2, fV.2⟩
  exact inArc_nearW mm.1 mm.2 m9.1 m9.2 q1 cU cV fU.1 fV.1
theorem c_pElo {s : ByteArray} {t r m rt : Int} (w : World) (hc : PlC s t r m rt) (hr : PlRw r m rt) (hT : Tab w) (hP : PTab w) (hi : instB t = true) :
    Calls Tryd.prog 24 #[.string s, .int .i64 t] w fun e w' => e = .returned (.tuple #[.agg #[.int .i64 (elLoP r m rt t), .int .i64 (elHiP r m rt t)], .int .i64 0]) ∧ Below w.heap.size w w' := by
  have HL := Lib.hid (fun w1 (h : Tab w1) (hp : PTab w1) => c_pLongitude w1 hc hr h hp hi)
  have HS := Lib.hid (fun w1 (h : Tab w1) => c_sunLongitude t w1 h hi)
  have l := pl_l hr t
  obtain ⟨u1, u2, -, u3, -, -, u6⟩ := sun_facts t
  have l0 := l.l0
  have l1 := l.l1
  have l2 := l.lh
  have l3 := l.w
  have HM := Lib.hid (fun w1 => c_Less (plLo r m rt t) (plHi r m rt t) (sunLo t) (sunHi t) w1 (by omega) (by omega) (by omega) (by omega) (by omega) (by omega) (by omega) (by omega))
  have HT := Lib.hid hT
  have HP := Lib.hid hP
  have HA : Hid (elLoP r m rt t = (plLo r m rt t - sunHi t) % 1000000000) := Lib.hid rfl
  have HB : Hid (elHiP r m rt t = (plLo r m rt t - sunHi t) % 1000000000 + (plHi r m rt t - sunLo t) - (plLo r m rt t - sunHi t)) := Lib.hid rfl
  rw [HA.out, HB.out]
  clear hT hP hc hr hi l
  generalize plLo r m rt t = a0 at *
  generalize plHi r m rt t = a1 at *
  generalize sunLo t = b0 at *
  generalize sunHi t = b1 at *
  generalize (a0 - b1) % 1000000000 = e0 at *
  generalize e0 + (a1 - b0) - (a0 - b1) = e1 at *
  clear HA HB
  have hgen := sgen; have hgen2 := sgen2; have hgen3 := sgen3; go_enter Tryd.func24, Tryd.ntmps24
  go_wp2_with (first | (go_at_call 21; (with_reducible refine (HL.out _ (HT.out.below (by exact belz)) (HP.out.below (by exact belz))).mono ?_); rintro e w1 ⟨rfl, hb⟩; have hz := hb.size; (try simp only [szA, szS, szD, szN] at hz); (try (refine bcB (n := w.heap.size) hb ?_; intro h_w_0 e_w_0 d_w_0 _ _))) | (go_at_call 49; (with_reducible refine (HS.out _ (HT.out.below (by exact belz))).mono ?_); rintro e w2 ⟨rfl, hb⟩; have hz := hb.size; (try simp only [szA, szS, szD, szN] at hz); (try (refine bcB (n := w.heap.size) hb ?_; intro h_w_0 e_w_0 d_w_0 _ _)); (try (refine bcB (n := w1.heap.size) hb ?_; intro h_w1_0 e_w1_0 d_w1_0 _ _))) | (go_at_call 57; (with_reducible refine (HM.out _).mono ?_); rintro e w3 ⟨rfl, hb⟩; have hz := hb.size; (try simp only [szA, szS, szD, szN] at hz); (try (refine bcB (n := w.heap.size) hb ?_; intro h_w_0 e_w_0 d_w_0 _ _)); (try (refine bcB (n := w1.heap.size) hb ?_; intro h_w1_0 e_w1_0 d_w1_0 _ _)); (try (refine bcB (n := w2.heap.size) hb ?_; intro h_w2_0 e_w2_0 d_w2_0 _ _))))
  refine bodyPost_ret (v := .tuple #[.agg #[.int .i64 e0, .int .i64 e1], .int .i64 0]) (by simp only [results, Tryd.results24]; go_simp) rfl ⟨rfl, ?_⟩
  exact belz
theorem c_pEloE {s : ByteArray} {t er : Int} (w : World) (he : er ≠ 0) (hH : ∀ w1, PTab w1 → Calls Tryd.prog 45 #[.string s, .int .i64 t] w1 fun e w' => e = .returned (.tuple #[.agg #[.int .i64 0, .int .i64 0], .int .i64 er]) ∧ Below w1.heap.size w1 w') (hP : PTab w) :
    Calls Tryd.prog 24 #[.string s, .int .i64 t] w fun e w' => e = .returned (.tuple #[.agg #[.int .i64 0, .int .i64 0], .int .i64 er]) ∧ Below w.heap.size w w' := by
  have HL := Lib.hid (fun w1 (hp : PTab w1) => c_pLongitudeE w1 he hH hp)
  have HP := Lib.hid hP
  have h1 : (er != 0) = true := by simp [he]
  clear hH hP he
  have hgen := sgen; have hgen2 := sgen2; have hgen3 := sgen3; go_enter Tryd.func24, Tryd.ntmps24
  go_wp2_with (go_at_call 21; (with_reducible refine (HL.out _ (HP.out.below (by exact belz))).mono ?_); rintro e w1 ⟨rfl, hb⟩; have hz := hb.size; (try simp only [szA, szS, szD, szN] at hz); (try (refine bcB (n := w.heap.size) hb ?_; intro h_w_0 e_w_0 d_w_0 _ _)))
  refine bodyPost_ret (v := .tuple #[.agg #[.int .i64 0, .int .i64 0], .int .i64 er]) (by simp only [results, Tryd.results24]; go_simp) rfl ⟨rfl, ?_⟩
  exact belz
theorem c_SunArg (t : Int) (w : World) (hi : instB t = true) :
    Calls Tryd.prog 25 #[.int .i64 t] w fun e w' => e = .returned (.int .i64 (argU (sunW t))) ∧ Below w.heap.size w w' := by
  obtain ⟨t1, t2⟩ := inst_bd hi
  obtain ⟨-, -, -, -, s1, s2, -⟩ := sun_facts t
  have hS := fun w1 => c_SunLon t 0 w1 (by omega) (by omega) (by omega) (by omega)
  rw [show (sunW t + 250 * 0 * 1048576) % 1048576000000000 = sunW t by omega] at hS
  have HS := Lib.hid hS
  have HA := Lib.hid (fun w1 => c_argument (sunW t) w1 (by omega) (by omega))
  clear hS hi
  generalize argU (sunW t) = A at *
  generalize sunW t = W at *
  have hgen := sgen; have hgen2 := sgen2; have hgen3 := sgen3; go_enter Tryd.func25, Tryd.ntmps25
  go_wp2_with (first | (go_at_call 56; (with_reducible refine (HS.out _).mono ?_); rintro e w1 ⟨rfl, hb⟩; have hz := hb.size; (try simp only [szA, szS, szD, szN] at hz); (try (refine bcB (n := w.heap.size) hb ?_; intro h_w_0 e_w_0 d_w_0 _ _))) | (go_at_call 55; (with_reducible refine (HA.out _).mono ?_); rintro e w' ⟨rfl, rfl⟩))
  go_ret
  refine ⟨rfl, ?_⟩
  exact belz
theorem walk_Elo_time {s : ByteArray} {t r m rt : Int} (w : World) (hT : Tab w) (hP : PTab w) (hc : PlC s t r m rt) (hr : PlRw r m rt) (r0 : 0 < rt) (hi : instB t = false) (t1 : -9223372036854775808 ≤ t) (t2 : t ≤ 9223372036854775807) :
    Calls Tryd.prog 5 #[.string s, .int .i64 t] w fun e w' => e = .returned (.bool true) ∧ Below w.heap.size w w' := by
  have HL := Lib.hid (fun w1 (hp : PTab w1) => c_pEloE w1 (show (3 : Int) ≠ 0 by decide) (fun w2 h2 => hc.ht w2 h2 hi t1 t2) hp)
  have HR := Lib.hid (fun w1 => c_rPlanetT w1 hc hr r0 t1 t2)
  have hI := fun w1 => c_instErr t w1
  rw [instE_of.2 hi] at hI
  have HI := Lib.hid hI
  have HT := Lib.hid hT
  have HP := Lib.hid hP
  clear hT hP hI hi hc hr r0
  have hgen := sgen; have hgen2 := sgen2; have hgen3 := sgen3; go_enter Tryd.func5, Tryd.ntmps5
  go_wp2_with (first | (go_at_call 20; (refine (c_planetWorks _ (HT.out.below (by exact belz)) (HP.out.below (by exact belz))).mono ?_); rintro e w1 ⟨rfl, hb⟩; have hz := hb.size; (try simp only [szA, szS, szD, szN] at hz); (try (refine bcB (n := w.heap.size) hb ?_; intro h_w_0 e_w_0 d_w_0 _ _))) | (go_at_call 24; (with_reducible refine (HL.out _ (HP.out.below (by exact belz))).mono ?_); rintro e w2 ⟨rfl, hb⟩; have hz := hb.size; (try simp only [szA, szS, szD, szN] at hz); (try (refine bcB (n := w.heap.size) hb ?_; intro h_w_0 e_w_0 d_w_0 _ _)); (try (refine bcB (n := w1.heap.size) hb ?_; intro h_w1_0 e_w1_0 d_w1_0 _ _))) | (go_at_call 22; (refine (HR.out _).mono ?_); rintro e w3 ⟨y, x, rfl, hb⟩; have hz := hb.size; (try simp only [szA, szS, szD, szN] at hz); (try (refine bcB (n := w.heap.size) hb ?_; intro h_w_0 e_w_0 d_w_0 _ _)); (try (refine bcB (n := w1.heap.size) hb ?_; intro h_w1_0 e_w1_0 d_w1_0 _ _)); (try (refine bcB (n := w2.heap.size) hb ?_; intro h_w2_0 e_w2_0 d_w2_0 _ _))) | (go_at_call 23; refine (HI.out _).mono ?_; rintro e w' ⟨rfl, rfl⟩) | (go_at_call 14; (refine (c_none1 _ _).mono ?_); rintro e w5 ⟨rfl, hb⟩; have hz := hb.size; (try simp only [szA, szS, szD, szN] at hz); (try (refine bcB (n := w.heap.size) hb ?_; intro h_w_0 e_w_0 d_w_0 _ _)); (try (refine bcB (n := w1.heap.size) hb ?_; intro h_w1_0 e_w1_0 d_w1_0 _ _)); (try (refine bcB (n := w2.heap.size) hb ?_; intro h_w2_0 e_w2_0 d_w2_0 _ _)); (try (refine bcB (n := w3.heap.size) hb ?_; intro h_w3_0 e_w3_0 d_w3_0 _ _))))
  go_ret
  refine ⟨rfl, ?_⟩
  exact belz
theorem walk_Elo_name {s : ByteArray} {t : Int} (w : World) (hT : Tab w) (hP : PTab w) (h : PlNo s t) :
    Calls Tryd.prog 5 #[.string s, .int .i64 t] w fun e w' => e = .returned (.bool true) ∧ Below w.heap.size w w' := by
  have HL := Lib.hid (fun w1 (hp : PTab w1) => c_pEloE w1 (show (5 : Int) ≠ 0 by decide) h.h hp)
  have HR := Lib.hid (fun w1 => c_rPlanetN s t w1 h.r)
  have HT := Lib.hid hT
  have HP := Lib.hid hP
  clear hT hP h
  have hgen := sgen; have hgen2 := sgen2; have hgen3 := sgen3; go_enter Tryd.func5, Tryd.ntmps5
  go_wp2_with (first | (go_at_call 20; (refine (c_planetWorks _ (HT.out.below (by exact belz)) (HP.out.below (by exact belz))).mono ?_); rintro e w1 ⟨rfl, hb⟩; have hz := hb.size; (try simp only [szA, szS, szD, szN] at hz); (try (refine bcB (n := w.heap.size) hb ?_; intro h_w_0 e_w_0 d_w_0 _ _))) | (go_at_call 24; (with_reducible refine (HL.out _ (HP.out.below (by exact belz))).mono ?_); rintro e w2 ⟨rfl, hb⟩; have hz := hb.size; (try simp only [szA, szS, szD, szN] at hz); (try (refine bcB (n := w.heap.size) hb ?_; intro h_w_0 e_w_0 d_w_0 _ _)); (try (refine bcB (n := w1.heap.size) hb ?_; intro h_w1_0 e_w1_0 d_w1_0 _ _))) | (go_at_call 22; (with_reducible refine (HR.out _).mono ?_); rintro e w3 ⟨rfl, hb⟩; have hz := hb.size; (try simp only [szA, szS, szD, szN] at hz); (try (refine bcB (n := w.heap.size) hb ?_; intro h_w_0 e_w_0 d_w_0 _ _)); (try (refine bcB (n := w1.heap.size) hb ?_; intro h_w1_0 e_w1_0 d_w1_0 _ _)); (try (refine bcB (n := w2.heap.size) hb ?_; intro h_w2_0 e_w2_0 d_w2_0 _ _))) | (go_at_call 14; (refine (c_none1 _ _).mono ?_); rintro e w5 ⟨rfl, hb⟩; have hz := hb.size; (try simp only [szA, szS, szD, szN] at hz); (try (refine bcB (n := w.heap.size) hb ?_; intro h_w_0 e_w_0 d_w_0 _ _)); (try (refine bcB (n := w1.heap.size) hb ?_; intro h_w1_0 e_w1_0 d_w1_0 _ _)); (try (refine bcB (n := w2.heap.size) hb ?_; intro h_w2_0 e_w2_0 d_w2_0 _ _)); (try (refine bcB (n := w3.heap.size) hb ?_; intro h_w3_0 e_w3_0 d_w3_0 _ _))))
  go_ret
  refine ⟨rfl, ?_⟩
  exact belz
theorem c_rPlanetS {s : ByteArray} {t r m rt : Int} (w : World) (hc : PlC s t r m rt) (hr : PlRw r m rt) (hi : instB t = true) :
    Calls Tryd.prog 22 #[.string s, .int .i64 t] w fun e w' => e = .returned (.tuple #[.int .i64 (plF r (sc (plA m rt t)).1 (sc (argU (sunW t))).1), .int .i64 (plF r (sc (plA m rt t)).2 (sc (argU (sunW t))).2), .bool true]) ∧ Below w.heap.size w w' := by
  refine (c_rPlanetO w hc hr hi).mono ?_
  rintro e w' ⟨x, rfl, h1, h2⟩
  exact ⟨h1, h2⟩
set_option maxRecDepth 100000 in
set_option maxHeartbeats 4000000 in
theorem walk_Elo_ok {s : ByteArray} {t r m rt : Int} (w : World) (hT : Tab w) (hP : PTab w) (hc : PlC s t r m rt) (hr : PlRw r m rt) (hi : instB t = true) :
    Calls Tryd.prog 5 #[.string s, .int .i64 t] w fun e w' => e = .returned (.bool true) ∧ Below w.heap.size w w' := by
  have HL := Lib.hid (fun w1 (h : Tab w1) (hp : PTab w1) => c_pElo w1 hc hr h hp hi)
  have HR := Lib.hid (fun w1 => c_rPlanetS w1 hc hr hi)
  have HSA := Lib.hid (fun w1 => c_SunArg t w1 hi)
  obtain ⟨l0, l1, lh, lw, li, lu, lv⟩ := pl_e hr t
  have pl := pl_l hr t
  have pu := pl.u
  have pv := pl.v
  have hI := fun w1 => c_instErr t w1
  rw [instE_of.1 hi] at hI
  have HI := Lib.hid hI
  obtain ⟨B0, B1⟩ := argU_bd (sunW t)
  obtain ⟨g1, g2, g3, g4⟩ := sc_bds (argU (sunW t)) B0 B1
  have HSC := Lib.hid (fun w1 => c_SinCosB (argU (sunW t)) w1 B0 B1)
  have HU : Hid (elU r m rt t = fm (plF r (sc (plA m rt t)).1 (sc (argU (sunW t))).1) (sc (argU (sunW t))).2 - fm (plF r (sc (plA m rt t)).2 (sc (argU (sunW t))).2) (sc (argU (sunW t))).1) := Lib.hid rfl
  have HV : Hid (elV r m rt t = fm (plF r (sc (plA m rt t)).2 (sc (argU (sunW t))).2) (sc (argU (sunW t))).2 + fm (plF r (sc (plA m rt t)).1 (sc (argU (sunW t))).1) (sc (argU (sunW t))).1) := Lib.hid rfl
  have HIA := Lib.hid (fun w1 => c_InArc1 (elLoP r m rt t) (elHiP r m rt t) (elU r m rt t) (elV r m rt t) w1 l0 l1 lh (by omega) li lu.1 lu.2 lv.1 lv.2)
  have HT := Lib.hid hT
  have HP := Lib.hid hP
  clear hT hP hI li lu lv hi hc hr pl B0 B1
  generalize elLoP r m rt t = lo at *
  generalize elHiP r m rt t = hi at *
  generalize elU r m rt t = U at *
  generalize elV r m rt t = V at *
  generalize plF r (sc (plA m rt t)).1 (sc (argU (sunW t))).1 = Y at *
  generalize plF r (sc (plA m rt t)).2 (sc (argU (sunW t))).2 = X at *
  generalize (sc (argU (sunW t))).1 = sn at *
  generalize (sc (argU (sunW t))).2 = cn at *
  have b1 := fm_bds (a := Y) (b := cn) (by omega) (by omega) g3 g4
  have b2 := fm_bds (a := X) (b := sn) (by omega) (by omega) g1 g2
  have b3 := fm_bds (a := X) (b := cn) (by omega) (by omega) g3 g4
  have b4 := fm_bds (a := Y) (b := sn) (by omega) (by omega) g1 g2
  have M1 := Lib.hid (fun w1 => c_fMul Y cn w1 (by omega) (by omega) (by omega) (by omega))
  have M2 := Lib.hid (fun w1 => c_fMul X sn w1 (by omega) (by omega) (by omega) (by omega))
  have M3 := Lib.hid (fun w1 => c_fMul X cn w1 (by omega) (by omega) (by omega) (by omega))
  have M4 := Lib.hid (fun w1 => c_fMul Y sn w1 (by omega) (by omega) (by omega) (by omega))
  have e1 : IntKind.i64.wrap (hi - lo) = hi - lo := IntWalk.i64_in _ (by omega)
  have d1 : decide (hi - lo ≤ 104020) = true := decide_eq_true lw
  have hU := HU.out
  have hV := HV.out
  generalize fm Y cn = y1 at *
  generalize fm X sn = y2 at *
  generalize fm X cn = y3 at *
  generalize fm Y sn = y4 at *
  have e2 : IntKind.i64.wrap (y1 - y2) = U := (IntWalk.i64_in _ (by omega)).trans hU.symm
  have e3 : IntKind.i64.wrap (y3 + y4) = V := (IntWalk.i64_in _ (by omega)).trans hV.symm
  clear hU hV HU HV b1 b2 b3 b4 g1 g2 g3 g4 pu pv l0 l1 lh lw
  have hgen := sgen; have hgen2 := sgen2; have hgen3 := sgen3; go_enter Tryd.func5, Tryd.ntmps5
  go_upto_region 11 with (first | (go_at_call 20; (refine (c_planetWorks _ (HT.out.below (by exact belz)) (HP.out.below (by exact belz))).mono ?_); rintro e w1 ⟨rfl, hb⟩; have hz := hb.size; (try simp only [szA, szS, szD, szN] at hz); (try (refine bcB (n := w.heap.size) hb ?_; intro h_w_0 e_w_0 d_w_0 _ _))) | (go_at_call 24; (with_reducible refine (HL.out _ (HT.out.below (by exact belz)) (HP.out.below (by exact belz))).mono ?_); rintro e w2 ⟨rfl, hb⟩; have hz := hb.size; (try simp only [szA, szS, szD, szN] at hz); (try (refine bcB (n := w.heap.size) hb ?_; intro h_w_0 e_w_0 d_w_0 _ _)); (try (refine bcB (n := w1.heap.size) hb ?_; intro h_w1_0 e_w1_0 d_w1_0 _ _))) | (go_at_call 22; (with_reducible refine (HR.out _).mono ?_); rintro e w3 ⟨rfl, hb⟩; have hz := hb.size; (try simp only [szA, szS, szD, szN] at hz); (try (refine bcB (n := w.heap.size) hb ?_; intro h_w_0 e_w_0 d_w_0 _ _)); (try (refine bcB (n := w1.heap.size) hb ?_; intro h_w1_0 e_w1_0 d_w1_0 _ _)); (try (refine bcB (n := w2.heap.size) hb ?_; intro h_w2_0 e_w2_0 d_w2_0 _ _))) | (go_at_call 23; refine (HI.out _).mono ?_; rintro e w' ⟨rfl, rfl⟩) | (go_at_call 25; (with_reducible refine (HSA.out _).mono ?_); rintro e w4 ⟨rfl, hb⟩; have hz := hb.size; (try simp only [szA, szS, szD, szN] at hz); (try (refine bcB (n := w.heap.size) hb ?_; intro h_w_0 e_w_0 d_w_0 _ _)); (try (refine bcB (n := w1.heap.size) hb ?_; intro h_w1_0 e_w1_0 d_w1_0 _ _)); (try (refine bcB (n := w2.heap.size) hb ?_; intro h_w2_0 e_w2_0 d_w2_0 _ _)); (try (refine bcB (n := w3.heap.size) hb ?_; intro h_w3_0 e_w3_0 d_w3_0 _ _))) | (go_at_call 15; (with_reducible refine (HSC.out _).mono ?_); rintro e w' ⟨rfl, rfl⟩))
  go_region_held3 (fun w' => w'.cell? ⟨w2.heap.size, 0, none⟩ = some (.int .i64 lo) ∧ w'.cell? ⟨w2.heap.size, 1, none⟩ = some (.int .i64 hi)) (refine ⟨?_, ?_⟩ <;> (first | (go_simp; done) | go_keep)) (first | (go_at_call 19; (first | (with_reducible refine (M1.out _).mono ?_) | (with_reducible refine (M2.out _).mono ?_) | (with_reducible refine (M3.out _).mono ?_) | (with_reducible refine (M4.out _).mono ?_)); rintro e w' ⟨rfl, rfl⟩) | (go_at_call 18; (with_reducible refine (HIA.out _).mono ?_); rintro e w5 ⟨rfl, hb⟩; have hz := hb.size; (try simp only [szA, szS, szD, szN] at hz); (try (refine bcB (n := w.heap.size) hb ?_; intro h_w_0 e_w_0 d_w_0 _ _)); (try (refine bcB (n := w1.heap.size) hb ?_; intro h_w1_0 e_w1_0 d_w1_0 _ _)); (try (refine bcB (n := w2.heap.size) hb ?_; intro h_w2_0 e_w2_0 d_w2_0 _ _)); (try (refine bcB (n := w3.heap.size) hb ?_; intro h_w3_0 e_w3_0 d_w3_0 _ _)); (try (refine bcB (n := w4.heap.size) hb ?_; intro h_w4_0 e_w4_0 d_w4_0 _ _))))
  all_goals go_wp2
  all_goals go_ret
  all_goals refine ⟨rfl, ?_⟩
  all_goals exact belz
theorem walk_PlanetElongations (s : ByteArray) (t : Int) (w : World) (hT : Tab w) (hP : PTab w) (ht : -9223372036854775808 ≤ t ∧ t ≤ 9223372036854775807) :
    Calls Tryd.prog 5 #[.string s, .int .i64 t] w fun e w' => e = .returned (.bool true) ∧ Below w.heap.size w w' := by
  rcases pl_cases s t with ⟨r, m, rt, hc, hr, r0⟩ | h
  · cases hi : instB t with
    | true => exact walk_Elo_ok w hT hP hc hr hi
    | false => exact walk_Elo_time w hT hP hc hr r0 hi ht.1 ht.2
  · exact walk_Elo_name w hT hP h
end Go.Proofs.YtjkhoepohiafeaaDoor
