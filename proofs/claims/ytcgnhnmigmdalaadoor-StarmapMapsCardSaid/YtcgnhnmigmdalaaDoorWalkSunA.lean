/- Contracts of the reference's Body; the walk through the law SunAts. -/
import Derived.Test.YtcgnhnmigmdalaaDoorSnA
import Derived.Test.YtcgnhnmigmdalaaDoorWalkDir
set_option linter.unusedVariables false
set_option linter.unusedSimpArgs false
namespace Go.Proofs.YtcgnhnmigmdalaaDoor
open Go.RowKit
/-- A latitude of the moon with a part of the remainder. -/
def BLat (t v : Int) : Prop := ∃ n, -8 ≤ n ∧ n ≤ 8 ∧ v = northV t + 2500 * n * 1048576
theorem c_MoonLatE (t n : Int) (w : World) (i1 : -400000000000000 ≤ t) (i2 : t ≤ 400000000000000) (n1 : -8 ≤ n) (n2 : n ≤ 8) :
    Calls Tryd.prog 11 #[.int .i64 t, .int .i64 n] w fun e w' => ∃ m, e = .returned (.int .i64 m) ∧ BLat t m ∧ Below w.heap.size w w' :=
  (c_MoonLat t n w i1 i2 n1 n2).mono fun e w' ⟨h1, h2⟩ => ⟨_, h1, ⟨n, n1, n2, rfl⟩, h2⟩
theorem BLat.bd {t v : Int} (h : BLat t v) : -60000000000000000 ≤ v ∧ v ≤ 60000000000000000 := by
  obtain ⟨n, h1, h2, rfl⟩ := h
  obtain ⟨-, -, -, h4, h5⟩ := north_facts t
  omega
/-- The sun's direction. -/
def SunD (t x y z : Int) : Prop := ∃ m, SLon t m ∧ x = dirX m 0 ∧ y = dirY m 0 ∧ z = dirZ m 0
def MoonD (t x y z : Int) : Prop := ∃ m v, MLon t m ∧ BLat t v ∧ x = dirX m v ∧ y = dirY m v ∧ z = dirZ m v
/-- The parts of the sun's direction fit. -/
theorem sunD_bd {t x y z : Int} (h : SunD t x y z) : (-1160000000000000000 ≤ x ∧ x ≤ 1160000000000000000) ∧ (-1160000000000000000 ≤ y ∧ y ≤ 1160000000000000000) ∧ (-1160000000000000000 ≤ z ∧ z ≤ 1160000000000000000) := by
  obtain ⟨m, hm, rfl, rfl, rfl⟩ := h
  have n := eq_norm (sun_pt hm).l.1 (sun_pt hm).l.2 (sun_pt hm).b.1 (sun_pt hm).b.2 (s0 := 1/10000) (c0 := 99999/100000) (r0 := 917/1000) (by rw [zb_zero, sc_zero.1]; decide +kernel) (by decide +kernel) (by decide +kernel) (by decide +kernel) (by decide +kernel)
  have d := dir_ok m 0
  have dx := d.x
  have dy := d.y
  have dz := d.z
  exact ⟨(fine_bd (by grind) n.2.1).2, (fine_bd (by grind) n.2.2.1).2, (fine_bd (by grind) (show rabs (pZ (zA (argU m)) (zA (argU 0))) ≤ 1 + 1 / 1000000 by have := n.2.2.2; grind)).2⟩
end Go.Proofs.YtcgnhnmigmdalaaDoor
