/- The moon's elongation: contracts of trig.Minus, trig.Less, moon.Elongation; the walk through the law MoonElongations. -/
import Derived.Test.YtaaiamcpdicnhaaGreatDoorWalkMoon
import Derived.Test.YtaaiamcpdicnhaaGreatDoorWalkSunS
set_option linter.unusedVariables false
set_option linter.unusedSimpArgs false
namespace Go.Proofs.YtaaiamcpdicnhaaGreatDoor
open Go.RowKit
def elLo (t : Int) : Int := (moonLo t - sunHi t) % 1000000000
def elHi (t : Int) : Int := elLo t + (moonHi t - sunLo t) - (moonLo t - sunHi t)
theorem el_contains (t n1 n2 : Int) (a1 : -8 ≤ n1) (a2 : n1 ≤ 8) (b1 : -8 ≤ n2) (b2 : n2 ≤ 8) :
    (((moonW t + 2500 * n1 * 1048576) % 1048576000000000 - (sunW t + 250 * n2 * 1048576) % 1048576000000000) % 1048576000000000 - 0 * 1048576 - elLo t * 1048576 + 8192) % 1048576000000000 ≤ (elHi t - elLo t - 2 * 0) * 1048576 + 16384 := by
  obtain ⟨-, -, h2, w2, -⟩ := sun_facts t
  have h1 : (moonW t - 20000 * 1048576 - moonLo t * 1048576 + 2000) % 1048576000000000 ≤ (moonHi t - moonLo t - 2 * 20000) * 1048576 + 4000 := ang_contains2 (inst := t) (sumOk_of moon_e) (by decide)
  obtain ⟨-, -, -, w1, -⟩ := moon_facts t
  have h := less_contains (W1 := moonW t) (W2 := sunW t) (lo1 := moonLo t) (lo2 := sunLo t) (w1 := moonHi t - moonLo t) (w2 := sunHi t - sunLo t) (s1 := 20000) (s2 := 2000) (e1 := 2500 * n1) (e2 := 250 * n2) h1 h2 (by omega) (by omega) (by omega) (by omega) (by omega) (by omega) (by omega) (by omega) (by omega) (by omega)
  have e1 : moonLo t - (sunLo t + (sunHi t - sunLo t)) = moonLo t - sunHi t := by omega
  have e2 : elHi t - elLo t = moonHi t - moonLo t + (sunHi t - sunLo t) := by unfold elHi; omega
  rw [e1] at h
  rw [e2]
  exact h
/-- A longitude of the moon, of the sun, with a part of the remainder. -/
def MLon (t m : Int) : Prop := ∃ n, -8 ≤ n ∧ n ≤ 8 ∧ m = (moonW t + 2500 * n * 1048576) % 1048576000000000
def SLon (t m : Int) : Prop := ∃ n, -8 ≤ n ∧ n ≤ 8 ∧ m = (sunW t + 250 * n * 1048576) % 1048576000000000
theorem MLon.bd {t m : Int} (h : MLon t m) : 0 ≤ m ∧ m < 1048576000000000 := by obtain ⟨n, -, -, rfl⟩ := h; omega
theorem SLon.bd {t m : Int} (h : SLon t m) : 0 ≤ m ∧ m < 1048576000000000 := by obtain ⟨n, -, -, rfl⟩ := h; omega
theorem c_MoonLonE (t n : Int) (w : World) (i1 : -400000000000000 ≤ t) (i2 : t ≤ 400000000000000) (n1 : -8 ≤ n) (n2 : n ≤ 8) :
    Calls Tryz.prog 20 #[.int .i64 t, .int .i64 n] w fun e w' => ∃ m, e = .returned (.int .i64 m) ∧ MLon t m ∧ Below w.heap.size w w' :=
  (c_MoonLon t n w i1 i2 n1 n2).mono fun e w' ⟨h1, h2⟩ => ⟨_, h1, ⟨n, n1, n2, rfl⟩, h2⟩
theorem c_SunLonE (t n : Int) (w : World) (i1 : -400000000000000 ≤ t) (i2 : t ≤ 400000000000000) (n1 : -8 ≤ n) (n2 : n ≤ 8) :
    Calls Tryz.prog 19 #[.int .i64 t, .int .i64 n] w fun e w' => ∃ m, e = .returned (.int .i64 m) ∧ SLon t m ∧ Below w.heap.size w w' :=
  (c_SunLon t n w i1 i2 n1 n2).mono fun e w' ⟨h1, h2⟩ => ⟨_, h1, ⟨n, n1, n2, rfl⟩, h2⟩
theorem c_Minus (al ah bl bh : Int) (w : World) (a1 : -2000000000 ≤ al) (a2 : al ≤ 2000000000) (a3 : -2000000000 ≤ ah) (a4 : ah ≤ 2000000000) (b1 : -2000000000 ≤ bl) (b2 : bl ≤ 2000000000) (b3 : -2000000000 ≤ bh) (b4 : bh ≤ 2000000000) :
    Calls Tryz.prog 33 #[.agg #[.int .i64 al, .int .i64 ah], .agg #[.int .i64 bl, .int .i64 bh]] w fun e w' => e = .returned (.agg #[.int .i64 (al - bh), .int .i64 (ah - bl)]) ∧ Below w.heap.size w w' := by
  have hgen := sgen; have hgen2 := sgen2; have hgen3 := sgen3; go_enter Tryz.func33, Tryz.ntmps33
  go_wp2
  refine bodyPost_ret (v := .agg #[.int .i64 (al - bh), .int .i64 (ah - bl)]) (by simp only [results, Tryz.results33]; go_simp) rfl ⟨rfl, ?_⟩
  (repeat' (first | (with_reducible exact Below.refl _ _) | (with_reducible assumption) | (with_reducible refine Below.call ?_ ?_ (by with_reducible assumption)) | (with_reducible refine Below.alloc ?_ ?_ _) | (with_reducible refine Below.drew ?_) | (with_reducible refine below_drewN ?_ _) | (with_reducible refine Below.setCell ?_ ?_ _) | (with_reducible exact Nat.le_refl _) | omega | (simp only [World.size_alloc, World.size_setCell, World.size_drew, World.heap_drewN] at *; omega)))
end Go.Proofs.YtaaiamcpdicnhaaGreatDoor
