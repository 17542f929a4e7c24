/- The walk through the law PlanetLongitudes. -/
import Derived.Test.YtjkhoepohiafeaaDoorWalkPlo2
import Derived.Test.YtjkhoepohiafeaaDoorTrL
import Derived.Test.YtjkhoepohiafeaaDoorSnA
set_option linter.unusedVariables false
set_option linter.unusedSimpArgs false
namespace Go.Proofs.YtjkhoepohiafeaaDoor
open Go.RowKit
/-- A row of the planets' table. -/
structure PlRw (r m rt : Int) : Prop where
  r : r = 387 ∨ r = 723 ∨ r = 1524 ∨ r = 5203 ∨ r = 9537
  m0 : 0 ≤ m
  m1 : m < 1000000000
  e : sumE m rt [] 5000 = 0
def plA (m rt t : Int) : Int := (argV rt t + m * 1000000) % 1000000000000000
theorem plA_bd (m rt t : Int) : 0 ≤ plA m rt t ∧ plA m rt t < 1000000000000000 := by unfold plA; omega
structure PlF (r m rt t : Int) : Prop where
  l0 : 0 ≤ angLo m rt [] 5000 t
  l1 : angLo m rt [] 5000 t < 1000000000
  lh : angLo m rt [] 5000 t ≤ angHi m rt [] 5000 t
  w : angHi m rt [] 5000 t - angLo m rt [] 5000 t ≤ 10001
  pt : PlT r (angLo m rt [] 5000 t) (angHi m rt [] 5000 t) (sunLo t) (sunHi t) (zA (plA m rt t)) (zA (argU (sunW t)))
theorem sunW_slon (t : Int) : SLon t (sunW t) := by
  obtain ⟨-, -, -, -, h1, h2, -⟩ := sun_facts t
  exact ⟨0, by omega, by omega, by omega⟩
theorem pl_f {r m rt : Int} (h : PlRw r m rt) (t : Int) : PlF r m rt t := by
  obtain ⟨hr, m0, m1, he⟩ := h
  have hs := sumOk_of he
  obtain ⟨v1, v2, v3, v4, v5⟩ := ang_contains (inst := t) hs
  have v6 := ang_contains2 (inst := t) hs (by decide)
  have hb : bndAt 5000 [] = 10000 := by decide +kernel
  rw [hb] at v4
  rw [helio_whole m0 m1] at v6
  have eA : (argV rt t + m * 1000000) % 1000000000000000 = plA m rt t := rfl
  rw [eA] at v6
  obtain ⟨A0, A1⟩ := plA_bd m rt t
  obtain ⟨z0, z1⟩ := zA_bd A0 A1
  obtain ⟨B0, B1⟩ := argU_bd (sunW t)
  obtain ⟨s0, s1⟩ := zA_bd B0 B1
  obtain ⟨u1, u2, -, u3, u4, u5, u6⟩ := sun_facts t
  have ks := kl_ang u4 u5 (slon_in (sunW_slon t))
  have hlh : angLo m rt [] 5000 t ≤ angHi m rt [] 5000 t := by omega
  have kp : ∃ k : Int, (angLo m rt [] 5000 t : Rat) - 1/500 ≤ zA (plA m rt t) + (k : Rat) * 1000000000 ∧ zA (plA m rt t) + (k : Rat) * 1000000000 ≤ (angHi m rt [] 5000 t : Rat) + 1/500 := by
    generalize plA m rt t = a at *
    refine kl_argP (lo := angLo m rt [] 5000 t) (hi := angHi m rt [] 5000 t) A0 A1 (by omega) ?_
    have e : (a / 1000000 * 1048576 + a % 1000000 * 1048576 / 1000000 - angLo m rt [] 5000 t * 1048576 + 2000) % 1048576000000000 = ((a / 1000000 * 1048576 + a % 1000000 * 1048576 / 1000000 - 5000 * 1048576 - angLo m rt [] 5000 t * 1048576 + 2000) % 1048576000000000 + 5000 * 1048576) % 1048576000000000 := by omega
    rw [e]
    have h0 : 0 ≤ (a / 1000000 * 1048576 + a % 1000000 * 1048576 / 1000000 - 5000 * 1048576 - angLo m rt [] 5000 t * 1048576 + 2000) % 1048576000000000 := Int.emod_nonneg _ (by decide)
    have v7 : (a / 1000000 * 1048576 + a % 1000000 * 1048576 / 1000000 - 5000 * 1048576 - angLo m rt [] 5000 t * 1048576 + 2000) % 1048576000000000 ≤ (angHi m rt [] 5000 t - angLo m rt [] 5000 t - 2 * 5000) * 1048576 + 4000 := v6
    generalize (a / 1000000 * 1048576 + a % 1000000 * 1048576 / 1000000 - 5000 * 1048576 - angLo m rt [] 5000 t * 1048576 + 2000) % 1048576000000000 = X at *
    have hX : X + 5000 * 1048576 < 1048576000000000 := by omega
    rw [Int.emod_eq_of_lt (by omega) hX]
    omega
  exact ⟨v1, v2, hlh, by omega, ⟨by omega, by omega, hlh, by omega, u6, by omega, z0, z1, s0, s1, kp, ks⟩⟩
/-- The interval of the longitude. -/
def pLoA (r m rt t : Int) : Int := arcLo (ploY0 r (angLo m rt [] 5000 t) (angHi m rt [] 5000 t) (sunLo t) (sunHi t)) (ploY1 r (angLo m rt [] 5000 t) (angHi m rt [] 5000 t) (sunLo t) (sunHi t)) (ploX0 r (angLo m rt [] 5000 t) (angHi m rt [] 5000 t) (sunLo t) (sunHi t)) (ploX1 r (angLo m rt [] 5000 t) (angHi m rt [] 5000 t) (sunLo t) (sunHi t))
def pHiA (r m rt t : Int) : Int := arcHi (ploY0 r (angLo m rt [] 5000 t) (angHi m rt [] 5000 t) (sunLo t) (sunHi t)) (ploY1 r (angLo m rt [] 5000 t) (angHi m rt [] 5000 t) (sunLo t) (sunHi t)) (ploX0 r (angLo m rt [] 5000 t) (angHi m rt [] 5000 t) (sunLo t) (sunHi t)) (ploX1 r (angLo m rt [] 5000 t) (angHi m rt [] 5000 t) (sunLo t) (sunHi t))
def plLo (r m rt t : Int) : Int := pLoA r m rt t % 1000000000
def plHi (r m rt t : Int) : Int := plLo r m rt t + pHiA r m rt t - pLoA r m rt t
structure PlL (r m rt t : Int) : Prop where
  l0 : 0 ≤ plLo r m rt t
  l1 : plLo r m rt t < 1000000000
  lh : plLo r m rt t ≤ plHi r m rt t
  w : plHi r m rt t - plLo r m rt t ≤ 100000
  n : Near (plLo r m rt t) (plHi r m rt t % 1000000000) (1 / 16384 * pvX r (zA (plA m rt t)) (zA (argU (sunW t)))) (1 / 16384 * pvY r (zA (plA m rt t)) (zA (argU (sunW t))))
  i : InArcOk (plLo r m rt t) (plHi r m rt t % 1000000000) (plF r (sc (plA m rt t)).1 (sc (argU (sunW t))).1) (plF r (sc (plA m rt t)).2 (sc (argU (sunW t))).2)
  u : -1160000000000000000 ≤ plF r (sc (plA m rt t)).1 (sc (argU (sunW t))).1 ∧ plF r (sc (plA m rt t)).1 (sc (argU (sunW t))).1 ≤ 1160000000000000000
  v : -1160000000000000000 ≤ plF r (sc (plA m rt t)).2 (sc (argU (sunW t))).2 ∧ plF r (sc (plA m rt t)).2 (sc (argU (sunW t))).2 ≤ 1160000000000000000
  c : ∀ w : World, Calls Tryd.prog 43 #[.agg #[.int .i64 (ploY0 r (angLo m rt [] 5000 t) (angHi m rt [] 5000 t) (sunLo t) (sunHi t)), .int .i64 (ploY1 r (angLo m rt [] 5000 t) (angHi m rt [] 5000 t) (sunLo t) (sunHi t))], .agg #[.int .i64 (ploX0 r (angLo m rt [] 5000 t) (angHi m rt [] 5000 t) (sunLo t) (sunHi t)), .int .i64 (ploX1 r (angLo m rt [] 5000 t) (angHi m rt [] 5000 t) (sunLo t) (sunHi t))]] w fun e w' =>
    e = .returned (.tuple #[.agg #[.int .i64 (plLo r m rt t), .int .i64 (plHi r m rt t)], .int .i64 0]) ∧ Below w.heap.size w w'
theorem pl_l {r m rt : Int} (h : PlRw r m rt) (t : Int) : PlL r m rt t := by
  have f := pl_f h t
  have pt := f.pt
  obtain ⟨ρ, τ, bx⟩ := plo_boxes pt h.r
  obtain ⟨⟨o1, o2⟩, -, b1, b2, b3, b4⟩ := plo_bd pt
  have r0 := pt.r0
  have r1 := pt.r1
  obtain ⟨⟨D0, E, L, H, hv⟩, ho, hc⟩ := c_Arc_all _ _ _ _ o1 o2 (by omega) (by omega) (by omega) (by omega) bx.off
  have hw := plo_narrow bx hv
  obtain ⟨A0, A1⟩ := plA_bd m rt t
  obtain ⟨B0, B1⟩ := argU_bd (sunW t)
  obtain ⟨n1, n2, n3, n4⟩ := plo_inArc A0 A1 B0 B1 pt hv hw
  have mm := emod_bd (pLoA r m rt t)
  have hw' : pHiA r m rt t - pLoA r m rt t ≤ 100000 := hw
  have ho' : pLoA r m rt t ≤ pHiA r m rt t := ho
  have e : plHi r m rt t % 1000000000 = pHiA r m rt t % 1000000000 := by unfold plHi plLo; omega
  refine ⟨mm.1, mm.2, by unfold plHi; omega, by unfold plHi; omega, by rw [e]; exact n1, by rw [e]; exact n2, n3, n4, fun w => (hc w).mono ?_⟩
  rintro q w' ⟨⟨hx, -⟩ | ⟨-, hx⟩, hb⟩
  · omega
  · exact ⟨hx, hb⟩
/-- The calls of a planet that is in the table. -/
structure PlC (s : ByteArray) (t r m rt : Int) : Prop where
  hh : ∀ w1 : World, Tab w1 → PTab w1 → instB t = true → Calls Tryd.prog 45 #[.string s, .int .i64 t] w1 fun e w' => e = .returned (.tuple #[.agg #[.int .i64 (angLo m rt [] 5000 t), .int .i64 (angHi m rt [] 5000 t)], .int .i64 0]) ∧ Below w1.heap.size w1 w'
  ht : ∀ w1 : World, PTab w1 → instB t = false → -9223372036854775808 ≤ t → t ≤ 9223372036854775807 → Calls Tryd.prog 45 #[.string s, .int .i64 t] w1 fun e w' => e = .returned (.tuple #[.agg #[.int .i64 0, .int .i64 0], .int .i64 3]) ∧ Below w1.heap.size w1 w'
  ff : ∃ nm : ByteArray, ∃ a b : Int, ∀ w1 : World, PTab w1 → Calls Tryd.prog 48 #[.string s] w1 fun e w' => e = .returned (.tuple #[.agg #[.string nm, .int .i64 r, .int .i64 a, .int .i64 b], .int .i64 0]) ∧ Below w1.heap.size w1 w'
  rh : ∀ (w1 : World) (v : Int), 0 ≤ v → v < 1000000000000000 → Hid (∀ w2 : World, Calls Tryd.prog 35 #[.int .i64 rt, .int .i64 t] w2 fun e w' => e = .returned (.int .i64 v) ∧ w2 = w') → Calls Tryd.prog 54 #[.string s, .int .i64 t] w1 fun e w' => e = .returned (.tuple #[.int .i64 r, .int .i64 ((v + m * 1000000) % 1000000000000000), .bool true]) ∧ Below w1.heap.size w1 w'
theorem pl_n {s : ByteArray} {t r m rt : Int} (hc : PlC s t r m rt) (hr : PlRw r m rt) (hi : instB t = true) :
    PlnN s t r (angLo m rt [] 5000 t) (angHi m rt [] 5000 t) (sunLo t) (sunHi t) (sovLo (angLo m rt [] 5000 t) (angHi m rt [] 5000 t)) (sovHi (angLo m rt [] 5000 t) (angHi m rt [] 5000 t)) (sovLo (covB (angLo m rt [] 5000 t)) (covE (angLo m rt [] 5000 t) (angHi m rt [] 5000 t))) (sovHi (covB (angLo m rt [] 5000 t)) (covE (angLo m rt [] 5000 t) (angHi m rt [] 5000 t)))
      (sovLo (sunLo t) (sunHi t)) (sovHi (sunLo t) (sunHi t)) (sovLo (covB (sunLo t)) (covE (sunLo t) (sunHi t))) (sovHi (covB (sunLo t)) (covE (sunLo t) (sunHi t)))
      (r * sovLo (angLo m rt [] 5000 t) (angHi m rt [] 5000 t)) (r * sovHi (angLo m rt [] 5000 t) (angHi m rt [] 5000 t)) (1000 * sovLo (sunLo t) (sunHi t)) (1000 * sovHi (sunLo t) (sunHi t))
      (r * sovLo (covB (angLo m rt [] 5000 t)) (covE (angLo m rt [] 5000 t) (angHi m rt [] 5000 t))) (r * sovHi (covB (angLo m rt [] 5000 t)) (covE (angLo m rt [] 5000 t) (angHi m rt [] 5000 t))) (1000 * sovLo (covB (sunLo t)) (covE (sunLo t) (sunHi t))) (1000 * sovHi (covB (sunLo t)) (covE (sunLo t) (sunHi t)))
      (ploY0 r (angLo m rt [] 5000 t) (angHi m rt [] 5000 t) (sunLo t) (sunHi t)) (ploY1 r (angLo m rt [] 5000 t) (angHi m rt [] 5000 t) (sunLo t) (sunHi t)) (ploX0 r (angLo m rt [] 5000 t) (angHi m rt [] 5000 t) (sunLo t) (sunHi t)) (ploX1 r (angLo m rt [] 5000 t) (angHi m rt [] 5000 t) (sunLo t) (sunHi t)) := by
  have f := pl_f hr t
  have pt := f.pt
  have r0 := pt.r0
  have r1 := pt.r1
  obtain ⟨u1, u2, -, u3, -, -, u6⟩ := sun_facts t
  have v1 := f.l0
  have v2 := f.l1
  have v3 := f.lh
  have v4 := f.w
  have hh := hc.hh
  generalize angLo m rt [] 5000 t = a0 at *
  generalize angHi m rt [] 5000 t = a1 at *
  have el : spanErr a0 a1 = 0 := by unfold spanErr; (repeat (first | rw [if_neg (by omega)] | rw [if_pos (by omega)]))
  have eb : spanErr (sunLo t) (sunHi t) = 0 := by unfold spanErr; (repeat (first | rw [if_neg (by omega)] | rw [if_pos (by omega)]))
  have A := sov_sp a0 a1 v3
  have B := sov_sp (sunLo t) (sunHi t) u6
  have A' := cov_sp v3
  have B' := cov_sp u6
  have lb := fun (u v : Int) (h1 : -1000000000 ≤ u) (h2 : u ≤ 1000000000) => lin_bd (r := r) (u := u) (v := 0) r0 r1 h1 h2 (by omega) (by omega)
  have k1 := lb _ (sovLo a0 a1) A.b0 (by have := A.o; have := A.b1; omega)
  have k2 := lb _ (sovLo a0 a1) (show -1000000000 ≤ sovHi a0 a1 by have := A.o; have := A.b0; omega) A.b1
  have k3 := lb _ (sovLo a0 a1) A'.b0 (by have := A'.o; have := A'.b1; omega)
  have k4 := lb _ (sovLo a0 a1) (show -1000000000 ≤ sovHi (covB a0) (covE a0 a1) by have := A'.o; have := A'.b0; omega) A'.b1
  have B0 := B.b0
  have B1 := B.b1
  have Bo := B.o
  have B0' := B'.b0
  have B1' := B'.b1
  have Bo' := B'.o
  clear lb
  exact ⟨fun w1 h hp => hh w1 h hp hi, hc.ff, fun w1 h => c_sunLongitude t w1 h hi, fun w1 h => c_SinOver_ok a0 a1 w1 h el (by omega) (by omega) (by omega) (by omega), fun w1 h => c_CosOver_ok a0 a1 w1 h el (by omega) v3 (by omega), fun w1 h => c_SinOver_ok _ _ w1 h eb (by omega) (by omega) (by omega) (by omega), fun w1 h => c_CosOver_ok _ _ w1 h eb (by omega) u6 (by omega),
    fun w1 => c_ptimes _ _ _ w1 A r0 (by omega), fun w1 => c_ptimes _ _ _ w1 B (by omega) (by omega), fun w1 => c_ptimes _ _ _ w1 A' r0 (by omega), fun w1 => c_ptimes _ _ _ w1 B' (by omega) (by omega),
    fun w1 => c_PlusB _ _ _ _ w1 (by omega) (by omega) (by omega) (by omega) (by omega) (by omega) (by omega) (by omega), fun w1 => c_PlusB _ _ _ _ w1 (by omega) (by omega) (by omega) (by omega) (by omega) (by omega) (by omega) (by omega)⟩
theorem c_pLongitude {s : ByteArray} {t r m rt : Int} (w : World) (hc : PlC s t r m rt) (hr : PlRw r m rt) (hT : Tab w) (hP : PTab w) (hi : instB t = true) :
    Calls Tryd.prog 21 #[.string s, .int .i64 t] w fun e w' => e = .returned (.tuple #[.agg #[.int .i64 (plLo r m rt t), .int .i64 (plHi r m rt t)], .int .i64 0]) ∧ Below w.heap.size w w' :=
  c_PLon _ _ w (pl_n hc hr hi) hT hP (pl_l hr t).c
/-- Longitude where Helio fails. -/
theorem c_pLongitudeE {s : ByteArray} {t er : Int} (w : World) (he : er ≠ 0) (hH : ∀ w1, PTab w1 → Calls Tryd.prog 45 #[.string s, .int .i64 t] w1 fun e w' => e = .returned (.tuple #[.agg #[.int .i64 0, .int .i64 0], .int .i64 er]) ∧ Below w1.heap.size w1 w') (hP : PTab w) :
    Calls Tryd.prog 21 #[.string s, .int .i64 t] w fun e w' => e = .returned (.tuple #[.agg #[.int .i64 0, .int .i64 0], .int .i64 er]) ∧ Below w.heap.size w w' := by
  have HH := Lib.hid hH
  have HP := Lib.hid hP
  have h1 : (er != 0) = true := by simp [he]
  clear hH hP he
  have hgen := sgen; have hgen2 := sgen2; have hgen3 := sgen3; go_enter Tryd.func21, Tryd.ntmps21
  go_wp2_with (go_at_call 45; (with_reducible refine (HH.out _ (HP.out.below (by exact belz))).mono ?_); rintro e w1 ⟨rfl, hb⟩; have hz := hb.size; (try simp only [szA, szS, szD, szN] at hz); (try (refine bcB (n := w.heap.size) hb ?_; intro h_w_0 e_w_0 d_w_0 _ _)))
  refine bodyPost_ret (v := .tuple #[.agg #[.int .i64 0, .int .i64 0], .int .i64 er]) (by simp only [results, Tryd.results21]; go_simp) rfl ⟨rfl, ?_⟩
  exact belz
end Go.Proofs.YtjkhoepohiafeaaDoor
