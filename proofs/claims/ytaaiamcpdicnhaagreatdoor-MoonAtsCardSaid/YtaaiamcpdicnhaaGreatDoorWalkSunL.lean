/- Contracts of sun.Equator where the arc is not open, of sun.At, of sunWorks; the walk through the law SunLongitudes. -/
import Derived.Test.YtaaiamcpdicnhaaGreatDoorWalkEqu
import Derived.Test.YtaaiamcpdicnhaaGreatDoorPlainSunFix
set_option linter.unusedVariables false
set_option linter.unusedSimpArgs false
namespace Go.Proofs.YtaaiamcpdicnhaaGreatDoor
open Go.RowKit
/-- The right ascension of a converted interval. -/
def raLo (l0 l1 b0 b1 : Int) : Int := arcLo (eqY0 l0 l1 b0 b1) (eqY1 l0 l1 b0 b1) (eqX0 l0 l1 b0 b1) (eqX1 l0 l1 b0 b1)
def raHi (l0 l1 b0 b1 : Int) : Int := arcHi (eqY0 l0 l1 b0 b1) (eqY1 l0 l1 b0 b1) (eqX0 l0 l1 b0 b1) (eqX1 l0 l1 b0 b1)
theorem c_arcSin_eq {l0 l1 b0 b1 : Int} (hl : l0 ≤ l1) (hb : b0 ≤ b1) (w : World) : Calls Tryz.prog 36 #[.agg #[.int .i64 (eqR0 l0 l1 b0 b1 + eqS0 b0 b1), .int .i64 (eqR1 l0 l1 b0 b1 + eqS1 b0 b1)]] w fun e w' => e = .returned (.tuple #[.agg #[.int .i64 (asLo (eqZ0 l0 l1 b0 b1)), .int .i64 (asHi (eqZ1 l0 l1 b0 b1))], .int .i64 0]) ∧ Below w.heap.size w w' := by
  obtain ⟨z1, z2, z3⟩ := eqZ_bd hl hb
  have ez : spanErr (eqZ0 l0 l1 b0 b1) (eqZ1 l0 l1 b0 b1) = 0 := by unfold spanErr; (repeat (first | rw [if_neg (by omega)] | rw [if_pos (by omega)]))
  exact c_ArcSin_ok (eqZ0 l0 l1 b0 b1) (eqZ1 l0 l1 b0 b1) w ez
/-- sun.Equator, open or not. -/
theorem c_Equator_all {l0 l1 b0 b1 : Int} (hl : l0 ≤ l1) (h1 : -1000000000000000000 ≤ l0) (h2 : l1 ≤ 1000000000000000000) (hb : b0 ≤ b1) (h3 : -125000000 ≤ b0) (h4 : b1 ≤ 125000000)
    (hzz : ¬ (eqY0 l0 l1 b0 b1 ≤ 0 ∧ 0 ≤ eqY1 l0 l1 b0 b1 ∧ eqX0 l0 l1 b0 b1 ≤ 0 ∧ 0 ≤ eqX1 l0 l1 b0 b1)) :
    (∃ D0 E L H, ArcV (eqY0 l0 l1 b0 b1) (eqY1 l0 l1 b0 b1) (eqX0 l0 l1 b0 b1) (eqX1 l0 l1 b0 b1) D0 E L H) ∧ raLo l0 l1 b0 b1 ≤ raHi l0 l1 b0 b1 ∧
    (400000000 < raHi l0 l1 b0 b1 - raLo l0 l1 b0 b1 → ∀ w, Tab w → Calls Tryz.prog 17 #[.agg #[.int .i64 l0, .int .i64 l1], .agg #[.int .i64 b0, .int .i64 b1]] w fun e w' => e = .returned (.tuple #[.agg #[.int .i64 0, .int .i64 0], .agg #[.int .i64 0, .int .i64 0], .int .i64 11]) ∧ Below w.heap.size w w') ∧
    (raHi l0 l1 b0 b1 - raLo l0 l1 b0 b1 ≤ 400000000 → ∀ w, Tab w → Calls Tryz.prog 17 #[.agg #[.int .i64 l0, .int .i64 l1], .agg #[.int .i64 b0, .int .i64 b1]] w fun e w' => e = .returned (.tuple #[.agg #[.int .i64 (raLo l0 l1 b0 b1 % 1000000000), .int .i64 (raLo l0 l1 b0 b1 % 1000000000 + raHi l0 l1 b0 b1 - raLo l0 l1 b0 b1)], .agg #[.int .i64 (asLo (eqZ0 l0 l1 b0 b1)), .int .i64 (asHi (eqZ1 l0 l1 b0 b1))], .int .i64 0]) ∧ Below w.heap.size w w') := by
  obtain ⟨y1, y2, y3⟩ := eqY_bd hl hb
  obtain ⟨x1, x2, x3⟩ := eqX_sp hl hb
  obtain ⟨hv, ho, ha⟩ := c_Arc_all (eqY0 l0 l1 b0 b1) (eqY1 l0 l1 b0 b1) (eqX0 l0 l1 b0 b1) (eqX1 l0 l1 b0 b1) y1 x1 (by omega) (by omega) (by omega) (by omega) hzz
  have N := eqN hl h1 h2 hb h3 h4
  refine ⟨hv, ho, fun hw w ht => ?_, fun hw w ht => ?_⟩
  · refine c_Equ l0 l1 b0 b1 _ _ _ _ _ _ _ _ _ _ _ _ _ _ _ _ _ _ _ _ 0 0 _ _ 11 0 0 0 0 w N ht h3 h4 (fun w1 => (ha w1).mono fun e w' ⟨h, hb⟩ => ?_) (fun w1 => c_arcSin_eq hl hb w1) (.inr ⟨rfl, rfl, rfl, rfl, rfl⟩)
    rcases h with ⟨-, h⟩ | ⟨h, -⟩
    · exact ⟨h, hb⟩
    · unfold raLo raHi at hw; omega
  · refine c_Equ l0 l1 b0 b1 _ _ _ _ _ _ _ _ _ _ _ _ _ _ _ _ _ _ _ _ (raLo l0 l1 b0 b1 % 1000000000) (raLo l0 l1 b0 b1 % 1000000000 + raHi l0 l1 b0 b1 - raLo l0 l1 b0 b1) _ _ 0 _ _ _ _ w N ht h3 h4 (fun w1 => (ha w1).mono fun e w' ⟨h, hb⟩ => ?_) (fun w1 => c_arcSin_eq hl hb w1) (.inl ⟨rfl, rfl, rfl, rfl, rfl⟩)
    rcases h with ⟨h, -⟩ | ⟨-, h⟩
    · unfold raLo raHi at hw; omega
    · exact ⟨h, hb⟩
/-- Both intervals of zero: the sun's latitude. -/
def sraLo (t : Int) : Int := raLo (sunLo t) (sunHi t) 0 0 % 1000000000
def sraHi (t : Int) : Int := raLo (sunLo t) (sunHi t) 0 0 % 1000000000 + raHi (sunLo t) (sunHi t) 0 0 - raLo (sunLo t) (sunHi t) 0 0
def sdeLo (t : Int) : Int := asLo (eqZ0 (sunLo t) (sunHi t) 0 0)
def sdeHi (t : Int) : Int := asHi (eqZ1 (sunLo t) (sunHi t) 0 0)
theorem slon_ex (t : Int) : ∃ m, SLon t m := ⟨_, 0, by decide, by decide, rfl⟩
/-- What is known of the sun's coordinates. -/
structure SunR (t : Int) : Prop where
  ra0 : 0 ≤ sraLo t
  ra1 : sraLo t < 1000000000
  ra2 : sraLo t ≤ sraHi t
  ra3 : sraHi t - sraLo t ≤ 10000
  de0 : -250000000 ≤ sdeLo t
  de1 : sdeLo t ≤ sdeHi t
  de2 : sdeHi t ≤ 250000000
  de3 : sdeHi t - sdeLo t ≤ 6000
  ia : ∀ m, SLon t m → InArcOk (sraLo t) (sraHi t % 1000000000) (dirY m 0) (dirX m 0)
  is : ∀ m, SLon t m → InAsin (sdeLo t) (sdeHi t) (dirZ m 0)
theorem sun_all (t : Int) : SunR t ∧ ∀ w, Tab w → Calls Tryz.prog 17 #[.agg #[.int .i64 (sunLo t), .int .i64 (sunHi t)], .agg #[.int .i64 0, .int .i64 0]] w fun e w' => e = .returned (.tuple #[.agg #[.int .i64 (sraLo t), .int .i64 (sraHi t)], .agg #[.int .i64 (sdeLo t), .int .i64 (sdeHi t)], .int .i64 0]) ∧ Below w.heap.size w w' := by
  obtain ⟨f0, f1, -, f3, -, -, f6⟩ := sun_facts t
  obtain ⟨m, hm⟩ := slon_ex t
  obtain ⟨⟨D0, E, L, H, hv⟩, ho, -, hc⟩ := c_Equator_all (l0 := sunLo t) (l1 := sunHi t) (b0 := 0) (b1 := 0) f6 (by omega) (by omega) (by decide) (by decide) (by decide) (sun_box hm).off
  have hw : raHi (sunLo t) (sunHi t) 0 0 - raLo (sunLo t) (sunHi t) 0 0 ≤ 10000 := sun_ra hv hm
  refine ⟨?_, hc (by omega)⟩
  have bz := eqZ_bd (l0 := sunLo t) (l1 := sunHi t) (b0 := 0) (b1 := 0) f6 (by decide)
  have ab := as_bounds (eqZ0 (sunLo t) (sunHi t) 0 0)
  have ab2 := as_bounds (eqZ1 (sunLo t) (sunHi t) 0 0)
  have m0 := Int.emod_nonneg (raLo (sunLo t) (sunHi t) 0 0) (show (1000000000 : Int) ≠ 0 by decide)
  have m1 := Int.emod_lt_of_pos (raLo (sunLo t) (sunHi t) 0 0) (show (0 : Int) < 1000000000 by decide)
  refine ⟨m0, m1, by unfold sraLo sraHi; omega, by unfold sraLo sraHi; omega, ab.1, as_order bz.1, ab2.2.2.2.1, sun_dec t, ?_, ?_⟩
  · intro m hm
    have d := dir_ok m 0
    have n := eq_norm (sun_pt hm).l.1 (sun_pt hm).l.2 (sun_pt hm).b.1 (sun_pt hm).b.2 (s0 := 1/10000) (c0 := 99999/100000) (r0 := 917/1000) (by rw [zb_zero, sc_zero.1]; decide +kernel) (by decide +kernel) (by decide +kernel) (by decide +kernel) (by decide +kernel)
    have dx := d.x
    have dy := d.y
    have h := eq_inArc (sun_pt hm) hv (by unfold raLo raHi at hw; omega) (u := dirY m 0) (v := dirX m 0) (by grind) (by grind) (fine_bd (by grind) n.2.2.1).1 (fine_bd (by grind) n.2.1).1
    have e : sraHi t % 1000000000 = raHi (sunLo t) (sunHi t) 0 0 % 1000000000 := by unfold sraHi; omega
    rw [e]
    exact h
  · intro m hm
    have d := dir_ok m 0
    have n := eq_norm (sun_pt hm).l.1 (sun_pt hm).l.2 (sun_pt hm).b.1 (sun_pt hm).b.2 (s0 := 1/10000) (c0 := 99999/100000) (r0 := 917/1000) (by rw [zb_zero, sc_zero.1]; decide +kernel) (by decide +kernel) (by decide +kernel) (by decide +kernel) (by decide +kernel)
    have dz := d.z
    exact eq_inAsin (sun_pt hm) (by grind) n.2.2.2
theorem c_sunAt (t : Int) (w : World) (hT : Tab w) (ht : instB t = true) :
    Calls Tryz.prog 6 #[.int .i64 t] w fun e w' => e = .returned (.tuple #[.agg #[.int .i64 (sraLo t), .int .i64 (sraHi t)], .agg #[.int .i64 (sdeLo t), .int .i64 (sdeHi t)], .int .i64 0]) ∧ Below w.heap.size w w' := by
  have HE := Lib.hid (sun_all t).2
  have HL := Lib.hid (fun w1 (h : Tab w1) => c_sunLongitude t w1 h ht)
  have HT := Lib.hid hT
  clear hT ht
  generalize sunLo t = l0 at *
  generalize sunHi t = l1 at *
  generalize sraLo t = r0 at *
  generalize sraHi t = r1 at *
  generalize sdeLo t = d0 at *
  generalize sdeHi t = d1 at *
  have hgen := sgen; have hgen2 := sgen2; have hgen3 := sgen3; go_enter Tryz.func6, Tryz.ntmps6
  go_wp2_with (first | (go_at_call 15; (refine (HL.out _ (HT.out.below (by (repeat' (first | (with_reducible exact Below.refl _ _) | (with_reducible assumption) | (with_reducible refine Below.call ?_ ?_ (by with_reducible assumption)) | (with_reducible refine Below.alloc ?_ ?_ _) | (with_reducible refine Below.drew ?_) | (with_reducible refine below_drewN ?_ _) | (with_reducible refine Below.setCell ?_ ?_ _) | (with_reducible exact Nat.le_refl _) | omega | (simp only [World.size_alloc, World.size_setCell, World.size_drew, World.heap_drewN] at *; omega)))))).mono ?_); rintro e w1 ⟨rfl, hb⟩; have hz := hb.size; (try simp only [World.size_alloc, World.size_setCell, World.size_drew, World.heap_drewN] at hz); (try have h_w_0 : w.heap.size < w1.heap.size := by omega); (try have e_w_0 : ¬ w.heap.size = w1.heap.size := by omega); (try have d_w_0 : ¬ w1.heap.size = w.heap.size := by omega); (try (refine bcUse (n := w.heap.size) hb ?_ ?_; (focus ((try simp only [World.size_alloc, World.size_setCell, World.size_drew, World.heap_drewN]); omega)); intro _ _)); (try have h_w_1 : w.heap.size + 1 < w1.heap.size := by omega); (try have e_w_1 : ¬ w.heap.size + 1 = w1.heap.size := by omega); (try have d_w_1 : ¬ w1.heap.size = w.heap.size + 1 := by omega); (try (refine bcUse (n := w.heap.size + 1) hb ?_ ?_; (focus ((try simp only [World.size_alloc, World.size_setCell, World.size_drew, World.heap_drewN]); omega)); intro _ _))) | (go_at_call 17; (refine (HE.out _ (HT.out.below (by (repeat' (first | (with_reducible exact Below.refl _ _) | (with_reducible assumption) | (with_reducible refine Below.call ?_ ?_ (by with_reducible assumption)) | (with_reducible refine Below.alloc ?_ ?_ _) | (with_reducible refine Below.drew ?_) | (with_reducible refine below_drewN ?_ _) | (with_reducible refine Below.setCell ?_ ?_ _) | (with_reducible exact Nat.le_refl _) | omega | (simp only [World.size_alloc, World.size_setCell, World.size_drew, World.heap_drewN] at *; omega)))))).mono ?_); rintro e w2 ⟨rfl, hb⟩; have hz := hb.size; (try simp only [World.size_alloc, World.size_setCell, World.size_drew, World.heap_drewN] at hz); (try have h_w_0 : w.heap.size < w2.heap.size := by omega); (try have e_w_0 : ¬ w.heap.size = w2.heap.size := by omega); (try have d_w_0 : ¬ w2.heap.size = w.heap.size := by omega); (try (refine bcUse (n := w.heap.size) hb ?_ ?_; (focus ((try simp only [World.size_alloc, World.size_setCell, World.size_drew, World.heap_drewN]); omega)); intro _ _)); (try have h_w_1 : w.heap.size + 1 < w2.heap.size := by omega); (try have e_w_1 : ¬ w.heap.size + 1 = w2.heap.size := by omega); (try have d_w_1 : ¬ w2.heap.size = w.heap.size + 1 := by omega); (try (refine bcUse (n := w.heap.size + 1) hb ?_ ?_; (focus ((try simp only [World.size_alloc, World.size_setCell, World.size_drew, World.heap_drewN]); omega)); intro _ _)); (try have h_w1_0 : w1.heap.size < w2.heap.size := by omega); (try have e_w1_0 : ¬ w1.heap.size = w2.heap.size := by omega); (try have d_w1_0 : ¬ w2.heap.size = w1.heap.size := by omega); (try (refine bcUse (n := w1.heap.size) hb ?_ ?_; (focus ((try simp only [World.size_alloc, World.size_setCell, World.size_drew, World.heap_drewN]); omega)); intro _ _))))
  refine bodyPost_ret (v := .tuple #[.agg #[.int .i64 r0, .int .i64 r1], .agg #[.int .i64 d0, .int .i64 d1], .int .i64 0]) (by simp only [results, Tryz.results6]; go_simp) rfl ⟨rfl, ?_⟩
  (repeat' (first | (with_reducible exact Below.refl _ _) | (with_reducible assumption) | (with_reducible refine Below.call ?_ ?_ (by with_reducible assumption)) | (with_reducible refine Below.alloc ?_ ?_ _) | (with_reducible refine Below.drew ?_) | (with_reducible refine below_drewN ?_ _) | (with_reducible refine Below.setCell ?_ ?_ _) | (with_reducible exact Nat.le_refl _) | omega | (simp only [World.size_alloc, World.size_setCell, World.size_drew, World.heap_drewN] at *; omega)))
theorem c_sunAtT (t : Int) (w : World) (ht : instB t = false) (t1 : -9223372036854775808 ≤ t) (t2 : t ≤ 9223372036854775807) :
    Calls Tryz.prog 6 #[.int .i64 t] w fun e w' => e = .returned (.tuple #[.agg #[.int .i64 0, .int .i64 0], .agg #[.int .i64 0, .int .i64 0], .int .i64 3]) ∧ Below w.heap.size w w' := by
  have HL := Lib.hid (fun w1 => c_sunLongitudeT t w1 ht t1 t2)
  clear ht
  have hgen := sgen; have hgen2 := sgen2; have hgen3 := sgen3; go_enter Tryz.func6, Tryz.ntmps6
  go_wp2_with (go_at_call 15; (refine (HL.out _).mono ?_); rintro e w1 ⟨rfl, hb⟩; have hz := hb.size; (try simp only [World.size_alloc, World.size_setCell, World.size_drew, World.heap_drewN] at hz); (try have h_w_0 : w.heap.size < w1.heap.size := by omega); (try have e_w_0 : ¬ w.heap.size = w1.heap.size := by omega); (try have d_w_0 : ¬ w1.heap.size = w.heap.size := by omega); (try (refine bcUse (n := w.heap.size) hb ?_ ?_; (focus ((try simp only [World.size_alloc, World.size_setCell, World.size_drew, World.heap_drewN]); omega)); intro _ _)); (try have h_w_1 : w.heap.size + 1 < w1.heap.size := by omega); (try have e_w_1 : ¬ w.heap.size + 1 = w1.heap.size := by omega); (try have d_w_1 : ¬ w1.heap.size = w.heap.size + 1 := by omega); (try (refine bcUse (n := w.heap.size + 1) hb ?_ ?_; (focus ((try simp only [World.size_alloc, World.size_setCell, World.size_drew, World.heap_drewN]); omega)); intro _ _)))
  refine bodyPost_ret (v := .tuple #[.agg #[.int .i64 0, .int .i64 0], .agg #[.int .i64 0, .int .i64 0], .int .i64 3]) (by simp only [results, Tryz.results6]; go_simp) rfl ⟨rfl, ?_⟩
  (repeat' (first | (with_reducible exact Below.refl _ _) | (with_reducible assumption) | (with_reducible refine Below.call ?_ ?_ (by with_reducible assumption)) | (with_reducible refine Below.alloc ?_ ?_ _) | (with_reducible refine Below.drew ?_) | (with_reducible refine below_drewN ?_ _) | (with_reducible refine Below.setCell ?_ ?_ _) | (with_reducible exact Nat.le_refl _) | omega | (simp only [World.size_alloc, World.size_setCell, World.size_drew, World.heap_drewN] at *; omega)))
theorem sun_fix5 : sraLo 0 ≤ 780562381 ∧ 780562381 ≤ sraHi 0 ∧ sdeLo 0 ≤ -64038259 ∧ -64038259 ≤ sdeHi 0 := by
  obtain ⟨e1, e2⟩ := sun_fix1
  obtain ⟨y0, y1, x0, x1, z0, z1⟩ := sun_fix2
  unfold sraLo sraHi sdeLo sdeHi raLo raHi
  rw [e1, e2, y0, y1, x0, x1, z0, z1]
  exact ⟨sun_fix3.1, sun_fix3.2, sun_fix4.1, sun_fix4.2⟩
theorem c_sunWorks (w : World) (hT : Tab w) : Calls Tryz.prog 5 #[] w fun e w' => e = .returned (.bool true) ∧ Below w.heap.size w w' := by
  obtain ⟨e1, e2⟩ := sun_fix1
  obtain ⟨f1, f2, f3, f4⟩ := sun_fix5
  obtain ⟨r0, r1, r2, r3, r4, r5, r6, r7, -, -⟩ := (sun_all 0).1
  have hl := fun w1 (h : Tab w1) => c_sunLongitude 0 w1 h (by decide)
  rw [e1, e2] at hl
  have HL := Lib.hid hl
  have HA := Lib.hid (fun w1 (h : Tab w1) => c_sunAt 0 w1 h (by decide))
  have HT := Lib.hid hT
  clear hT hl e1 e2
  generalize sraLo 0 = a0 at *
  generalize sraHi 0 = a1 at *
  generalize sdeLo 0 = d0 at *
  generalize sdeHi 0 = d1 at *
  have H1 := Lib.hid (fun w1 => c_has1 778092769 778096770 778094769 4010 w1 (by decide) (by decide) (by decide) (by decide) (by decide))
  have H2 := Lib.hid (fun w1 => c_has1 a0 a1 780562381 10000 w1 f1 f2 r3 (by omega) (by omega))
  have H3 := Lib.hid (fun w1 => c_has1 d0 d1 (-64038259) 6000 w1 f3 f4 r7 (by omega) (by omega))
  have hgen := sgen; have hgen2 := sgen2; have hgen3 := sgen3; go_enter Tryz.func5, Tryz.ntmps5
  go_wp2_with (first | (go_at_call 15; (refine (HL.out _ (HT.out.below (by (repeat' (first | (with_reducible exact Below.refl _ _) | (with_reducible assumption) | (with_reducible refine Below.call ?_ ?_ (by with_reducible assumption)) | (with_reducible refine Below.alloc ?_ ?_ _) | (with_reducible refine Below.drew ?_) | (with_reducible refine below_drewN ?_ _) | (with_reducible refine Below.setCell ?_ ?_ _) | (with_reducible exact Nat.le_refl _) | omega | (simp only [World.size_alloc, World.size_setCell, World.size_drew, World.heap_drewN] at *; omega)))))).mono ?_); rintro e w1 ⟨rfl, hb⟩; have hz := hb.size; (try simp only [World.size_alloc, World.size_setCell, World.size_drew, World.heap_drewN] at hz); (try have h_w_0 : w.heap.size < w1.heap.size := by omega); (try have e_w_0 : ¬ w.heap.size = w1.heap.size := by omega); (try have d_w_0 : ¬ w1.heap.size = w.heap.size := by omega); (try (refine bcUse (n := w.heap.size) hb ?_ ?_; (focus ((try simp only [World.size_alloc, World.size_setCell, World.size_drew, World.heap_drewN]); omega)); intro _ _))) | (go_at_call 6; (refine (HA.out _ (HT.out.below (by (repeat' (first | (with_reducible exact Below.refl _ _) | (with_reducible assumption) | (with_reducible refine Below.call ?_ ?_ (by with_reducible assumption)) | (with_reducible refine Below.alloc ?_ ?_ _) | (with_reducible refine Below.drew ?_) | (with_reducible refine below_drewN ?_ _) | (with_reducible refine Below.setCell ?_ ?_ _) | (with_reducible exact Nat.le_refl _) | omega | (simp only [World.size_alloc, World.size_setCell, World.size_drew, World.heap_drewN] at *; omega)))))).mono ?_); rintro e w2 ⟨rfl, hb⟩; have hz := hb.size; (try simp only [World.size_alloc, World.size_setCell, World.size_drew, World.heap_drewN] at hz); (try have h_w_0 : w.heap.size < w2.heap.size := by omega); (try have e_w_0 : ¬ w.heap.size = w2.heap.size := by omega); (try have d_w_0 : ¬ w2.heap.size = w.heap.size := by omega); (try (refine bcUse (n := w.heap.size) hb ?_ ?_; (focus ((try simp only [World.size_alloc, World.size_setCell, World.size_drew, World.heap_drewN]); omega)); intro _ _)); (try have h_w1_0 : w1.heap.size < w2.heap.size := by omega); (try have e_w1_0 : ¬ w1.heap.size = w2.heap.size := by omega); (try have d_w1_0 : ¬ w2.heap.size = w1.heap.size := by omega); (try (refine bcUse (n := w1.heap.size) hb ?_ ?_; (focus ((try simp only [World.size_alloc, World.size_setCell, World.size_drew, World.heap_drewN]); omega)); intro _ _))) | (go_at_call 16; (with_reducible refine (H1.out _).mono ?_); rintro e w3 ⟨rfl, hb⟩; have hz := hb.size; (try simp only [World.size_alloc, World.size_setCell, World.size_drew, World.heap_drewN] at hz); (try have h_w_0 : w.heap.size < w3.heap.size := by omega); (try have e_w_0 : ¬ w.heap.size = w3.heap.size := by omega); (try have d_w_0 : ¬ w3.heap.size = w.heap.size := by omega); (try (refine bcUse (n := w.heap.size) hb ?_ ?_; (focus ((try simp only [World.size_alloc, World.size_setCell, World.size_drew, World.heap_drewN]); omega)); intro _ _)); (try have h_w1_0 : w1.heap.size < w3.heap.size := by omega); (try have e_w1_0 : ¬ w1.heap.size = w3.heap.size := by omega); (try have d_w1_0 : ¬ w3.heap.size = w1.heap.size := by omega); (try (refine bcUse (n := w1.heap.size) hb ?_ ?_; (focus ((try simp only [World.size_alloc, World.size_setCell, World.size_drew, World.heap_drewN]); omega)); intro _ _)); (try have h_w2_0 : w2.heap.size < w3.heap.size := by omega); (try have e_w2_0 : ¬ w2.heap.size = w3.heap.size := by omega); (try have d_w2_0 : ¬ w3.heap.size = w2.heap.size := by omega); (try (refine bcUse (n := w2.heap.size) hb ?_ ?_; (focus ((try simp only [World.size_alloc, World.size_setCell, World.size_drew, World.heap_drewN]); omega)); intro _ _)); (try have h_w2_1 : w2.heap.size + 1 < w3.heap.size := by omega); (try have e_w2_1 : ¬ w2.heap.size + 1 = w3.heap.size := by omega); (try have d_w2_1 : ¬ w3.heap.size = w2.heap.size + 1 := by omega); (try (refine bcUse (n := w2.heap.size + 1) hb ?_ ?_; (focus ((try simp only [World.size_alloc, World.size_setCell, World.size_drew, World.heap_drewN]); omega)); intro _ _))) | (go_at_call 16; (with_reducible refine (H2.out _).mono ?_); rintro e w4 ⟨rfl, hb⟩; have hz := hb.size; (try simp only [World.size_alloc, World.size_setCell, World.size_drew, World.heap_drewN] at hz); (try have h_w_0 : w.heap.size < w4.heap.size := by omega); (try have e_w_0 : ¬ w.heap.size = w4.heap.size := by omega); (try have d_w_0 : ¬ w4.heap.size = w.heap.size := by omega); (try (refine bcUse (n := w.heap.size) hb ?_ ?_; (focus ((try simp only [World.size_alloc, World.size_setCell, World.size_drew, World.heap_drewN]); omega)); intro _ _)); (try have h_w1_0 : w1.heap.size < w4.heap.size := by omega); (try have e_w1_0 : ¬ w1.heap.size = w4.heap.size := by omega); (try have d_w1_0 : ¬ w4.heap.size = w1.heap.size := by omega); (try (refine bcUse (n := w1.heap.size) hb ?_ ?_; (focus ((try simp only [World.size_alloc, World.size_setCell, World.size_drew, World.heap_drewN]); omega)); intro _ _)); (try have h_w2_0 : w2.heap.size < w4.heap.size := by omega); (try have e_w2_0 : ¬ w2.heap.size = w4.heap.size := by omega); (try have d_w2_0 : ¬ w4.heap.size = w2.heap.size := by omega); (try (refine bcUse (n := w2.heap.size) hb ?_ ?_; (focus ((try simp only [World.size_alloc, World.size_setCell, World.size_drew, World.heap_drewN]); omega)); intro _ _)); (try have h_w2_1 : w2.heap.size + 1 < w4.heap.size := by omega); (try have e_w2_1 : ¬ w2.heap.size + 1 = w4.heap.size := by omega); (try have d_w2_1 : ¬ w4.heap.size = w2.heap.size + 1 := by omega); (try (refine bcUse (n := w2.heap.size + 1) hb ?_ ?_; (focus ((try simp only [World.size_alloc, World.size_setCell, World.size_drew, World.heap_drewN]); omega)); intro _ _)); (try have h_w3_0 : w3.heap.size < w4.heap.size := by omega); (try have e_w3_0 : ¬ w3.heap.size = w4.heap.size := by omega); (try have d_w3_0 : ¬ w4.heap.size = w3.heap.size := by omega); (try (refine bcUse (n := w3.heap.size) hb ?_ ?_; (focus ((try simp only [World.size_alloc, World.size_setCell, World.size_drew, World.heap_drewN]); omega)); intro _ _))) | (go_at_call 16; (with_reducible refine (H3.out _).mono ?_); rintro e w5 ⟨rfl, hb⟩; have hz := hb.size; (try simp only [World.size_alloc, World.size_setCell, World.size_drew, World.heap_drewN] at hz); (try have h_w_0 : w.heap.size < w5.heap.size := by omega); (try have e_w_0 : ¬ w.heap.size = w5.heap.size := by omega); (try have d_w_0 : ¬ w5.heap.size = w.heap.size := by omega); (try (refine bcUse (n := w.heap.size) hb ?_ ?_; (focus ((try simp only [World.size_alloc, World.size_setCell, World.size_drew, World.heap_drewN]); omega)); intro _ _)); (try have h_w1_0 : w1.heap.size < w5.heap.size := by omega); (try have e_w1_0 : ¬ w1.heap.size = w5.heap.size := by omega); (try have d_w1_0 : ¬ w5.heap.size = w1.heap.size := by omega); (try (refine bcUse (n := w1.heap.size) hb ?_ ?_; (focus ((try simp only [World.size_alloc, World.size_setCell, World.size_drew, World.heap_drewN]); omega)); intro _ _)); (try have h_w2_0 : w2.heap.size < w5.heap.size := by omega); (try have e_w2_0 : ¬ w2.heap.size = w5.heap.size := by omega); (try have d_w2_0 : ¬ w5.heap.size = w2.heap.size := by omega); (try (refine bcUse (n := w2.heap.size) hb ?_ ?_; (focus ((try simp only [World.size_alloc, World.size_setCell, World.size_drew, World.heap_drewN]); omega)); intro _ _)); (try have h_w2_1 : w2.heap.size + 1 < w5.heap.size := by omega); (try have e_w2_1 : ¬ w2.heap.size + 1 = w5.heap.size := by omega); (try have d_w2_1 : ¬ w5.heap.size = w2.heap.size + 1 := by omega); (try (refine bcUse (n := w2.heap.size + 1) hb ?_ ?_; (focus ((try simp only [World.size_alloc, World.size_setCell, World.size_drew, World.heap_drewN]); omega)); intro _ _)); (try have h_w3_0 : w3.heap.size < w5.heap.size := by omega); (try have e_w3_0 : ¬ w3.heap.size = w5.heap.size := by omega); (try have d_w3_0 : ¬ w5.heap.size = w3.heap.size := by omega); (try (refine bcUse (n := w3.heap.size) hb ?_ ?_; (focus ((try simp only [World.size_alloc, World.size_setCell, World.size_drew, World.heap_drewN]); omega)); intro _ _)); (try have h_w4_0 : w4.heap.size < w5.heap.size := by omega); (try have e_w4_0 : ¬ w4.heap.size = w5.heap.size := by omega); (try have d_w4_0 : ¬ w5.heap.size = w4.heap.size := by omega); (try (refine bcUse (n := w4.heap.size) hb ?_ ?_; (focus ((try simp only [World.size_alloc, World.size_setCell, World.size_drew, World.heap_drewN]); omega)); intro _ _))))
  go_ret
  refine ⟨rfl, ?_⟩
  (repeat' (first | (with_reducible exact Below.refl _ _) | (with_reducible assumption) | (with_reducible refine Below.call ?_ ?_ (by with_reducible assumption)) | (with_reducible refine Below.alloc ?_ ?_ _) | (with_reducible refine Below.drew ?_) | (with_reducible refine below_drewN ?_ _) | (with_reducible refine Below.setCell ?_ ?_ _) | (with_reducible exact Nat.le_refl _) | omega | (simp only [World.size_alloc, World.size_setCell, World.size_drew, World.heap_drewN] at *; omega)))
end Go.Proofs.YtaaiamcpdicnhaaGreatDoor
