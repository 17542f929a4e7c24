/- The moon: contracts of its sums, of Longitude, Latitude and of the reference's MoonLon and MoonLat; the walk through the law MoonLongitudes. -/
import Derived.Test.YtmjdcabniefifaaDoorWalkSva
import Derived.Deep.RegionHeld3
set_option linter.unusedVariables false
set_option linter.unusedSimpArgs false
namespace Go.Proofs.YtmjdcabniefifaaDoor
open Go.RowKit
def moonL : List Tm := [⟨17468817, 99384016, 36291647083333⟩, ⟨3538964, 134030564, 31434736861111⟩, ⟨1828650, 233414580, 67726383944444⟩, ⟨593383, 198768032, 72583294166666⟩, ⟨-514211, 84888545, 2737778555556⟩, ⟨-317589, 297001062, 73496390222222⟩]
def northL : List Tm := [⟨14244783, 648500531, 36748195111111⟩, ⟨779450, 747884547, 73039842194444⟩, ⟨771369, 450883485, -456548027778⟩]
theorem moon_e : sumE 392048814 36601101305556 moonL 20000 = 0 := by decide +kernel
theorem north_e : sumE 0 0 northL 20000 = 0 := by decide +kernel
def moonLo (t : Int) : Int := angLo 392048814 36601101305556 moonL 20000 t
def moonHi (t : Int) : Int := angHi 392048814 36601101305556 moonL 20000 t
def moonW (t : Int) : Int := wholeV 392048814 36601101305556 moonL t
def northLo (t : Int) : Int := valLo 0 northL 20000 t
def northHi (t : Int) : Int := valHi 0 northL 20000 t
def northV (t : Int) : Int := refAt 0 northL t 3
theorem moon_facts (t : Int) : 0 ≤ moonLo t ∧ moonLo t < 1000000000 ∧ (moonW t - 20000 * 1048576 - moonLo t * 1048576 + 8192) % 1048576000000000 ≤ (moonHi t - moonLo t - 2 * 20000) * 1048576 + 16384 ∧ moonHi t - moonLo t ≤ 40003 ∧ 0 ≤ moonW t ∧ moonW t < 1048576000000000 ∧ moonLo t ≤ moonHi t := by
  obtain ⟨v1, v2, v3, v4, v5⟩ := ang_contains (inst := t) (sumOk_of moon_e)
  refine ⟨v1, v2, v3, v5, ?_, ?_, ?_⟩
  · unfold moonW wholeV; omega
  · unfold moonW wholeV; omega
  · unfold moonLo moonHi
    omega
theorem north_facts (t : Int) : northLo t * 1048576 ≤ northV t - 20000 * 1048576 + 7600 ∧ northV t + 20000 * 1048576 ≤ northHi t * 1048576 + 7600 ∧ northHi t - northLo t ≤ 40002 ∧ -50000000000000000 ≤ northV t ∧ northV t ≤ 50000000000000000 := by
  have hv := sumOk_of north_e
  obtain ⟨v1, v2⟩ := val_contains (inst := t) hv
  have v3 := (val_width (inst := t) hv).2.2
  have nb := refAt_bd (inst := t) hv.m1 hv.m2 hv.tm 3 (Nat.le_refl _)
  exact ⟨v1, v2, v3, by unfold northV; omega, by unfold northV; omega⟩
theorem moon_low (t : Int) : 0 ≤ (moonW t - 20000 * 1048576 - moonLo t * 1048576 + 8192) % 1048576000000000 := by omega
/-- A whole sum with a part of the remainder, in eighths, lies in the interval. -/
theorem moon_shift (t n : Int) (h1 : -8 ≤ n) (h2 : n ≤ 8) : ((moonW t + 2500 * n * 1048576) % 1048576000000000 - 0 * 1048576 - moonLo t * 1048576 + 8192) % 1048576000000000 ≤ (moonHi t - moonLo t - 2 * 0) * 1048576 + 16384 := by
  obtain ⟨-, -, h, hw, -⟩ := moon_facts t
  have h0 := moon_low t
  generalize moonW t = W at *
  generalize moonLo t = lo at *
  generalize moonHi t = hi at *
  have e : ((W + 2500 * n * 1048576) % 1048576000000000 - 0 * 1048576 - lo * 1048576 + 8192) % 1048576000000000 = ((W - 20000 * 1048576 - lo * 1048576 + 8192) % 1048576000000000 + (20000 * 1048576 + 2500 * n * 1048576)) % 1048576000000000 := by omega
  rw [e]
  generalize (W - 20000 * 1048576 - lo * 1048576 + 8192) % 1048576000000000 = K at *
  have e2 : (K + (20000 * 1048576 + 2500 * n * 1048576)) % 1048576000000000 = K + (20000 * 1048576 + 2500 * n * 1048576) := Int.emod_eq_of_lt (by omega) (by omega)
  rw [e2]
  omega
theorem moon_zero : moonLo 0 ≤ 406718613 ∧ 406718613 ≤ moonHi 0 ∧ moonHi 0 - moonLo 0 ≤ 40030 := by
  obtain ⟨l0, l1, h, hw, -⟩ := moon_facts 0
  have h0 := moon_low 0
  have e : (moonW 0 / 1048576 : Int) = 406718613 ∨ moonW 0 / 1048576 = 406718612 := by decide +kernel
  generalize moonW 0 = W at *
  generalize moonLo 0 = lo at *
  generalize moonHi 0 = hi at *
  omega
theorem north_zero : northLo 0 ≤ -11989968 ∧ -11989968 ≤ northHi 0 ∧ northHi 0 - northLo 0 ≤ 40030 := by
  obtain ⟨h1, h2, h3, -⟩ := north_facts 0
  have e : (northV 0 / 1048576 : Int) = -11989968 ∨ (northV 0 / 1048576 : Int) = -11989969 := by decide +kernel
  generalize northV 0 = W at *
  generalize northLo 0 = lo at *
  generalize northHi 0 = hi at *
  omega
theorem c_moon_longitude (w : World) : Calls Tryd.prog 53 #[] w fun e w' => ∃ b, e = .returned (sumV 392048814 36601101305556 (some ⟨b, 0, none⟩) 6 6 20000) ∧ Below w.heap.size w w' ∧ TmSlice w' (some ⟨b, 0, none⟩) moonL := by
  have hgen := sgen; have hgen2 := sgen2; have hgen3 := sgen3; go_enter Tryd.func53, Tryd.ntmps53
  go_wp2
  refine bodyPost_ret (v := sumV 392048814 36601101305556 (some ⟨w.heap.size + 1, 0, none⟩) 6 6 20000) (by simp only [results, Tryd.results53]; go_simp) rfl ⟨_, rfl, ?_, ?_⟩
  · (repeat' (first | (with_reducible exact Below.refl _ _) | (with_reducible assumption) | (with_reducible refine Below.call ?_ ?_ (by with_reducible assumption)) | (with_reducible refine Below.alloc ?_ ?_ _) | (with_reducible refine Below.drew ?_) | (with_reducible refine below_drewN ?_ _) | (with_reducible refine Below.setCell ?_ ?_ _) | (with_reducible exact Nat.le_refl _) | omega | (simp only [World.size_alloc, World.size_setCell, World.size_drew, World.heap_drewN] at *; omega)))
  · intro k hk
    refine ⟨_, 0, rfl, by go_simp, ?_, ?_, ?_⟩
    all_goals (rcases k with _ | _ | _ | _ | _ | _ | k <;> first | (simp only [moonL, List.getElem_cons_zero, List.getElem_cons_succ]; go_simp; done) | (exfalso; simp only [moonL, List.length_cons, List.length_nil] at hk; omega))
theorem c_Angle_moon (t : Int) (a : Option Addr) (w : World) (hT : Tab w) (hs : TmSlice w a moonL) (ht : instB t = true) :
    Calls Tryd.prog 24 #[sumV 392048814 36601101305556 a 6 6 20000, .int .i64 t] w fun e w' => e = .returned (.tuple #[.agg #[.int .i64 (moonLo t), .int .i64 (moonHi t)], .int .i64 0]) ∧ Below w.heap.size w w' :=
  c_Angle_ok 392048814 36601101305556 20000 t a 6 moonL w hT (Nat.le_refl _) hs moon_e ht
theorem c_Angle_moonT (t : Int) (a : Option Addr) (w : World) (hs : TmSlice w a moonL) (ht : instB t = false) (t1 : -9223372036854775808 ≤ t) (t2 : t ≤ 9223372036854775807) :
    Calls Tryd.prog 24 #[sumV 392048814 36601101305556 a 6 6 20000, .int .i64 t] w fun e w' => e = .returned (.tuple #[.agg #[.int .i64 0, .int .i64 0], .int .i64 3]) ∧ Below w.heap.size w w' :=
  c_Angle_time 392048814 36601101305556 20000 t a 6 moonL w (Nat.le_refl _) hs moon_e ht t1 t2
theorem c_Longitude (t : Int) (w : World) (hT : Tab w) (ht : instB t = true) :
    Calls Tryd.prog 31 #[.int .i64 t] w fun e w' => e = .returned (.tuple #[.agg #[.int .i64 (moonLo t), .int .i64 (moonHi t)], .int .i64 0]) ∧ Below w.heap.size w w' := by
  have HA := Lib.hid (fun w1 (h : Tab w1) a hs1 => c_Angle_moon t a w1 h hs1 ht)
  have HT := Lib.hid hT
  clear hT ht
  generalize moonLo t = lo at *
  generalize moonHi t = hi at *
  have hgen := sgen; have hgen2 := sgen2; have hgen3 := sgen3; go_enter Tryd.func31, Tryd.ntmps31
  go_wp2_with (first | (go_at_call 53; (refine (c_moon_longitude _).mono ?_); rintro e w1 ⟨b, rfl, hb, hm⟩; have hz := hb.size; (try simp only [World.size_alloc, World.size_setCell, World.size_drew, World.heap_drewN] at hz); (try have h_w_0 : w.heap.size < w1.heap.size := by omega); (try have e_w_0 : ¬ w.heap.size = w1.heap.size := by omega); (try have d_w_0 : ¬ w1.heap.size = w.heap.size := by omega); (try (refine bcUse (n := w.heap.size) hb ?_ ?_; (focus ((try simp only [World.size_alloc, World.size_setCell, World.size_drew, World.heap_drewN]); omega)); intro _ _)); (try have h_w_1 : w.heap.size + 1 < w1.heap.size := by omega); (try have e_w_1 : ¬ w.heap.size + 1 = w1.heap.size := by omega); (try have d_w_1 : ¬ w1.heap.size = w.heap.size + 1 := by omega); (try (refine bcUse (n := w.heap.size + 1) hb ?_ ?_; (focus ((try simp only [World.size_alloc, World.size_setCell, World.size_drew, World.heap_drewN]); omega)); intro _ _))) | (go_at_call 24; (refine (HA.out _ (HT.out.below (by (repeat' (first | (with_reducible exact Below.refl _ _) | (with_reducible assumption) | (with_reducible refine Below.call ?_ ?_ (by with_reducible assumption)) | (with_reducible refine Below.alloc ?_ ?_ _) | (with_reducible refine Below.drew ?_) | (with_reducible refine below_drewN ?_ _) | (with_reducible refine Below.setCell ?_ ?_ _) | (with_reducible exact Nat.le_refl _) | omega | (simp only [World.size_alloc, World.size_setCell, World.size_drew, World.heap_drewN] at *; omega))))) _ hm).mono ?_); rintro e w2 ⟨rfl, hb⟩; have hz := hb.size; (try simp only [World.size_alloc, World.size_setCell, World.size_drew, World.heap_drewN] at hz); (try have h_w_0 : w.heap.size < w2.heap.size := by omega); (try have e_w_0 : ¬ w.heap.size = w2.heap.size := by omega); (try have d_w_0 : ¬ w2.heap.size = w.heap.size := by omega); (try (refine bcUse (n := w.heap.size) hb ?_ ?_; (focus ((try simp only [World.size_alloc, World.size_setCell, World.size_drew, World.heap_drewN]); omega)); intro _ _)); (try have h_w_1 : w.heap.size + 1 < w2.heap.size := by omega); (try have e_w_1 : ¬ w.heap.size + 1 = w2.heap.size := by omega); (try have d_w_1 : ¬ w2.heap.size = w.heap.size + 1 := by omega); (try (refine bcUse (n := w.heap.size + 1) hb ?_ ?_; (focus ((try simp only [World.size_alloc, World.size_setCell, World.size_drew, World.heap_drewN]); omega)); intro _ _)); (try have h_w1_0 : w1.heap.size < w2.heap.size := by omega); (try have e_w1_0 : ¬ w1.heap.size = w2.heap.size := by omega); (try have d_w1_0 : ¬ w2.heap.size = w1.heap.size := by omega); (try (refine bcUse (n := w1.heap.size) hb ?_ ?_; (focus ((try simp only [World.size_alloc, World.size_setCell, World.size_drew, World.heap_drewN]); omega)); intro _ _))))
  refine bodyPost_ret (v := .tuple #[.agg #[.int .i64 lo, .int .i64 hi], .int .i64 0]) (by simp only [results, Tryd.results31]; go_simp) rfl ⟨rfl, ?_⟩
  (repeat' (first | (with_reducible exact Below.refl _ _) | (with_reducible assumption) | (with_reducible refine Below.call ?_ ?_ (by with_reducible assumption)) | (with_reducible refine Below.alloc ?_ ?_ _) | (with_reducible refine Below.drew ?_) | (with_reducible refine below_drewN ?_ _) | (with_reducible refine Below.setCell ?_ ?_ _) | (with_reducible exact Nat.le_refl _) | omega | (simp only [World.size_alloc, World.size_setCell, World.size_drew, World.heap_drewN] at *; omega)))
theorem c_LongitudeT (t : Int) (w : World) (ht : instB t = false) (t1 : -9223372036854775808 ≤ t) (t2 : t ≤ 9223372036854775807) :
    Calls Tryd.prog 31 #[.int .i64 t] w fun e w' => e = .returned (.tuple #[.agg #[.int .i64 0, .int .i64 0], .int .i64 3]) ∧ Below w.heap.size w w' := by
  have HA := Lib.hid (fun w1 a hs1 => c_Angle_moonT t a w1 hs1 ht t1 t2)
  clear ht
  have hgen := sgen; have hgen2 := sgen2; have hgen3 := sgen3; go_enter Tryd.func31, Tryd.ntmps31
  go_wp2_with (first | (go_at_call 53; (refine (c_moon_longitude _).mono ?_); rintro e w1 ⟨b, rfl, hb, hm⟩; have hz := hb.size; (try simp only [World.size_alloc, World.size_setCell, World.size_drew, World.heap_drewN] at hz); (try have h_w_0 : w.heap.size < w1.heap.size := by omega); (try have e_w_0 : ¬ w.heap.size = w1.heap.size := by omega); (try have d_w_0 : ¬ w1.heap.size = w.heap.size := by omega); (try (refine bcUse (n := w.heap.size) hb ?_ ?_; (focus ((try simp only [World.size_alloc, World.size_setCell, World.size_drew, World.heap_drewN]); omega)); intro _ _)); (try have h_w_1 : w.heap.size + 1 < w1.heap.size := by omega); (try have e_w_1 : ¬ w.heap.size + 1 = w1.heap.size := by omega); (try have d_w_1 : ¬ w1.heap.size = w.heap.size + 1 := by omega); (try (refine bcUse (n := w.heap.size + 1) hb ?_ ?_; (focus ((try simp only [World.size_alloc, World.size_setCell, World.size_drew, World.heap_drewN]); omega)); intro _ _))) | (go_at_call 24; (refine (HA.out _ _ hm).mono ?_); rintro e w2 ⟨rfl, hb⟩; have hz := hb.size; (try simp only [World.size_alloc, World.size_setCell, World.size_drew, World.heap_drewN] at hz); (try have h_w_0 : w.heap.size < w2.heap.size := by omega); (try have e_w_0 : ¬ w.heap.size = w2.heap.size := by omega); (try have d_w_0 : ¬ w2.heap.size = w.heap.size := by omega); (try (refine bcUse (n := w.heap.size) hb ?_ ?_; (focus ((try simp only [World.size_alloc, World.size_setCell, World.size_drew, World.heap_drewN]); omega)); intro _ _)); (try have h_w_1 : w.heap.size + 1 < w2.heap.size := by omega); (try have e_w_1 : ¬ w.heap.size + 1 = w2.heap.size := by omega); (try have d_w_1 : ¬ w2.heap.size = w.heap.size + 1 := by omega); (try (refine bcUse (n := w.heap.size + 1) hb ?_ ?_; (focus ((try simp only [World.size_alloc, World.size_setCell, World.size_drew, World.heap_drewN]); omega)); intro _ _)); (try have h_w1_0 : w1.heap.size < w2.heap.size := by omega); (try have e_w1_0 : ¬ w1.heap.size = w2.heap.size := by omega); (try have d_w1_0 : ¬ w2.heap.size = w1.heap.size := by omega); (try (refine bcUse (n := w1.heap.size) hb ?_ ?_; (focus ((try simp only [World.size_alloc, World.size_setCell, World.size_drew, World.heap_drewN]); omega)); intro _ _))))
  refine bodyPost_ret (v := .tuple #[.agg #[.int .i64 0, .int .i64 0], .int .i64 3]) (by simp only [results, Tryd.results31]; go_simp) rfl ⟨rfl, ?_⟩
  (repeat' (first | (with_reducible exact Below.refl _ _) | (with_reducible assumption) | (with_reducible refine Below.call ?_ ?_ (by with_reducible assumption)) | (with_reducible refine Below.alloc ?_ ?_ _) | (with_reducible refine Below.drew ?_) | (with_reducible refine below_drewN ?_ _) | (with_reducible refine Below.setCell ?_ ?_ _) | (with_reducible exact Nat.le_refl _) | omega | (simp only [World.size_alloc, World.size_setCell, World.size_drew, World.heap_drewN] at *; omega)))
end Go.Proofs.YtmjdcabniefifaaDoor
