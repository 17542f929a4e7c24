/- TrigOvers' statement. No program in sight. -/
import Derived.Test.YtffnmfcaoldlhaaDoorPlainOver
set_option linter.unusedVariables false
set_option linter.unusedSimpArgs false
namespace Go.Proofs.YtffnmfcaoldlhaaDoor
def covB (lo : Int) : Int := lo % 1000000000 + 250000000
def covE (lo hi : Int) : Int := lo % 1000000000 + 250000000 + min (hi - lo) 2000000000
theorem over_units (lo hi n : Int) (h : lo ≤ hi) (n1 : lo ≤ n) (n2 : n ≤ hi) : UnitOk (sovLo lo hi) (sovHi lo hi) (sc (n % 1000000000 * 1000000)).1 ∧ UnitOk (sovLo (covB lo) (covE lo hi)) (sovHi (covB lo) (covE lo hi)) (sc (n % 1000000000 * 1000000)).2 := by
  obtain ⟨m0, m1⟩ := emod_bd n
  obtain ⟨g1, g2⟩ := sc_ang m0 m1
  have o1 := over_ok lo hi h
  have o2 := over_ok (covB lo) (covE lo hi) (by unfold covB covE; omega)
  constructor
  · have a := o1.c1 n n1 n2
    have b := o1.c2 n n1 n2
    exact unit_ok (x := S (angU (n % 1000000000))) (by grind) (by unfold siU at a; grind) (by unfold siU at b; grind)
  · -- the same angle, a quarter of a turn on
    obtain ⟨x, x1, x2, x3⟩ : ∃ x, covB lo ≤ x ∧ x ≤ covE lo hi ∧ x % 1000000000 = (n % 1000000000 + 250000000) % 1000000000 := by
      by_cases hd : hi - lo ≤ 2000000000
      · exact ⟨covB lo + (n - lo), by omega, by unfold covB covE; omega, by unfold covB; omega⟩
      · have := emod_bd (n - lo)
        exact ⟨covB lo + (n - lo) % 1000000000, by omega, by unfold covB covE; omega, by unfold covB; omega⟩
    have a := o2.c1 x x1 x2
    have b := o2.c2 x x1 x2
    have e : siU x = siU (n % 1000000000 + 250000000) := by unfold siU; rw [x3]
    have c := rabs_le.1 (siU_cos m0 m1)
    rw [e] at a b
    exact unit_ok (x := C (angU (n % 1000000000))) (by grind) (by grind) (by grind)
theorem over_wide (lo hi : Int) (h : lo ≤ hi) (hw : hi - lo ≤ 1000000000) : sovHi lo hi - sovLo lo hi ≤ 3 + 7 * (hi - lo) ∧ sovHi (covB lo) (covE lo hi) - sovLo (covB lo) (covE lo hi) ≤ 3 + 7 * (hi - lo) := by
  have key : ∀ {a b L H : Int}, OverOk a b L H → a ≤ b → H - L ≤ 3 + 7 * (b - a) := by
    intro a b L H o h
    have w := o.w
    have d0 : (0 : Rat) ≤ ((b - a : Int) : Rat) := by exact_mod_cast (show 0 ≤ b - a by omega)
    have : ((H - L : Int) : Rat) ≤ ((3 + 7 * (b - a) : Int) : Rat) := by push_cast at w d0 ⊢; grind
    exact Rat.intCast_le_intCast.1 this
  have k1 := key (over_ok lo hi h) h
  have k2 := key (over_ok (covB lo) (covE lo hi) (by unfold covB covE; omega)) (by unfold covB covE; omega)
  have e : covE lo hi - covB lo = hi - lo := by unfold covB covE; omega
  rw [e] at k2
  exact ⟨k1, k2⟩
theorem tmod_twice {k n : Int} (h : 0 < n) : (k.tmod n + n).tmod n = k % n := by
  have h1 := Int.tmod_add_tdiv_mul k n
  have h2 := Int.tmod_lt_of_pos k h
  have h3 : -n < k.tmod n := by
    have := Int.neg_tmod k n
    have h4 := Int.tmod_lt_of_pos (-k) h
    omega
  rw [Int.tmod_eq_emod_of_nonneg (by omega)]
  have : k.tmod n + n = k + n * (1 - k.tdiv n) := by grind
  rw [this, Int.add_mul_emod_self_left]
end Go.Proofs.YtffnmfcaoldlhaaDoor
