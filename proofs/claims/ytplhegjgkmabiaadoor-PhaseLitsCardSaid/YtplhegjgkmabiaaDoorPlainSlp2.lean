/- The slope of a sum: the fold and the interval around it. No program in sight. -/
import Derived.Test.YtplhegjgkmabiaaDoorPlainSlp
import Derived.Test.YtplhegjgkmabiaaDoorTrB
set_option linter.unusedVariables false
set_option linter.unusedSimpArgs false
namespace Go.Proofs.YtplhegjgkmabiaaDoor
open Ieee
theorem slp_run {l : List Tm} (h40 : l.length ≤ 40) (h : ∀ t ∈ l, TmOk t) : ∀ k, k ≤ l.length →
    Ap (slAt l k) (slXAt l k) ((k : Rat) * (19 / 100000)) ∧ 0 ≤ slXAt l k ∧ slXAt l k ≤ 25200000000 * (k : Rat) ∧ slAt l k < 9223372036854775808 ∧ (∀ hk : k < l.length, double.add (slAt l k) (slW l[k]) = some (slAt l (k + 1)))
  | 0, _ => by
    have e0 : ((0 : Nat) : Rat) = 0 := rfl
    have z : Ap (slAt l 0) (slXAt l 0) 0 := num_zero.ap
    have x0 : slXAt l 0 = 0 := rfl
    have w0 : slAt l 0 = 0 := rfl
    refine ⟨by rw [e0]; exact z.mono (by grind), by rw [x0]; exact Rat.le_refl, by rw [x0, e0]; grind, by rw [w0]; omega, fun hk => ?_⟩
    obtain ⟨a, b, c, d, -, -, -, -, -, s6, s7, s8, s9⟩ := sl_run (h l[0] (List.getElem_mem hk))
    have p40 : p2 ((40 : Nat) : Int) = 1099511627776 := by decide +kernel
    obtain ⟨r, r1, r2⟩ := add_ap 40 (by omega) z s7 (by rw [p40, x0]; grind) (by rw [p40, x0]; grind)
    rw [r1, slAt_snoc l 0 hk, fadd_of r1]
  | k + 1, hk1 => by
    have hk : k < l.length := by omega
    obtain ⟨i1, i2, i3, i5, i4⟩ := slp_run h40 h k (by omega)
    obtain ⟨a, b, c, d, -, -, -, -, -, s6, s7, s8, s9⟩ := sl_run (h l[k] (List.getElem_mem hk))
    have p40 : p2 ((40 : Nat) : Int) = 1099511627776 := by decide +kernel
    have u40 : p2 (((40 : Nat) : Int) - 53) ≤ 13 / 100000 := by decide +kernel
    have k40 : (k : Rat) ≤ 39 := by
      have : (k : Rat) ≤ ((39 : Nat) : Rat) := cast_le (by omega)
      exact this
    have k0 : (0 : Rat) ≤ (k : Rat) := by exact_mod_cast Nat.zero_le k
    have ck : ((k + 1 : Nat) : Rat) = (k : Rat) + 1 := by push_cast; rfl
    have a4 := i4 hk
    obtain ⟨r, r1, r2⟩ := add_ap 40 (by omega) i1 s7 (by rw [p40]; grind) (by rw [p40]; grind)
    rw [a4] at r1
    obtain rfl := Option.some.inj r1
    obtain ⟨Y1, m1, -, -⟩ := i1.num
    obtain ⟨Y2, m2, -, -⟩ := s7.num
    have l63 := add_lt63 i5 s6 m1 m2 a4
    rw [slXAt_snoc l k hk]
    have j1 : Ap (slAt l (k + 1)) (slXAt l k + slX l[k]) (((k + 1 : Nat) : Rat) * (19 / 100000)) := r2.mono (by rw [ck]; grind)
    have j2 : 0 ≤ slXAt l k + slX l[k] := by grind
    have j3 : slXAt l k + slX l[k] ≤ 25200000000 * ((k + 1 : Nat) : Rat) := by rw [ck]; grind
    refine ⟨j1, j2, j3, l63, fun hkk => ?_⟩
    obtain ⟨a', b', c', d', -, -, -, -, -, f6, f7, f8, f9⟩ := sl_run (h l[k + 1] (List.getElem_mem hkk))
    obtain ⟨r', s1, s2⟩ := add_ap 40 (by omega) j1 f7 (by rw [p40, ck]; grind) (by rw [p40, ck]; grind)
    rw [s1, slAt_snoc l (k + 1) hkk, fadd_of s1]
def slG (l : List Tm) : Nat := fmul (slAt l l.length) wGrow
def slM (r : Int) : Nat := fdiv (fofI r) wMil
def slLo (r : Int) (l : List Tm) : Int := arLo (fsub (slM r) (slG l))
def slHi (r : Int) (l : List Tm) : Int := arHi (fadd (slM r) (slG l))
/-- The interval of the slope. -/
theorem slope_run {l : List Tm} {r : Int} (h40 : l.length ≤ 40) (h : ∀ t ∈ l, TmOk t) (r1 : -4000000000000000 ≤ r) (r2 : r ≤ 4000000000000000) :
    double.mul (slAt l l.length) wGrow = some (slG l) ∧ double.div (fofI r) wMil = some (slM r) ∧ double.sub (slM r) (slG l) = some (fsub (slM r) (slG l)) ∧ double.add (slM r) (slG l) = some (fadd (slM r) (slG l)) ∧
      AroundP (fsub (slM r) (slG l)) ∧ AroundP (fadd (slM r) (slG l)) ∧ slLo r l ≤ slHi r l ∧ (slLo r l : Rat) ≤ (r : Rat) * (1 / 1000000) - slXAt l l.length + 3 ∧ (r : Rat) * (1 / 1000000) + slXAt l l.length - 3 ≤ (slHi r l : Rat) ∧
      -1100000000000 ≤ slLo r l ∧ slLo r l ≤ 1100000000000 ∧ -1100000000000 ≤ slHi r l ∧ slHi r l ≤ 1100000000000 := by
  obtain ⟨i1, i2, i3, i5, -⟩ := slp_run h40 h l.length (Nat.le_refl _)
  have k40 : (l.length : Rat) ≤ 40 := by
    have : (l.length : Rat) ≤ ((40 : Nat) : Rat) := cast_le h40
    exact this
  have k0 : (0 : Rat) ≤ (l.length : Rat) := by exact_mod_cast Nat.zero_le _
  unfold slLo slHi slG slM
  have i1' := i1.mono (e' := 76 / 10000) (by grind)
  have i3' : slXAt l l.length ≤ 1008000000000 := by grind
  clear i1 i3
  generalize slAt l l.length = v at *
  generalize slXAt l l.length = V at *
  have p40 : p2 ((40 : Nat) : Int) = 1099511627776 := by decide +kernel
  have u40 : p2 (((40 : Nat) : Int) - 53) ≤ 13 / 100000 := by decide +kernel
  have p41 : p2 ((41 : Nat) : Int) = 2199023255552 := by decide +kernel
  have u41 : p2 (((41 : Nat) : Int) - 53) ≤ 25 / 100000 := by decide +kernel
  have p32 : p2 ((32 : Nat) : Int) = 4294967296 := by decide +kernel
  have u32 : p2 (((32 : Nat) : Int) - 54) + p2 (((32 : Nat) : Int) - 53) ≤ 1 / 1000000 := by decide +kernel
  have v32 : p2 (((32 : Nat) : Int) - 54) ≤ 1 / 1000000 := by decide +kernel
  have t18 : (1 : Rat) / 10 ^ 18 ≤ 1 / 1000000000 := by decide +kernel
  have nG : Ap wGrow 1 (2 / 1000000000000) := by
    have h := (cv_num (w := wGrow) (by decide +kernel)).ap
    have d1 : cv wGrow ≤ 1 + 2 / 1000000000000 := by decide +kernel
    have d2 : 1 ≤ cv wGrow + 2 / 1000000000000 := by decide +kernel
    have h' := h.move d1 d2
    exact h'.mono (by grind)
  have nM : Num wMil 1000000 := by
    have h : cv wMil = 1000000 := by decide +kernel
    rw [← h]; exact cv_num (by decide +kernel)
  have R1 : (r : Rat) ≤ 4000000000000000 := Rat.intCast_le_intCast.2 r2
  have R0 : -4000000000000000 ≤ (r : Rat) := Rat.intCast_le_intCast.2 r1
  have nr := fofI_num r (by omega) (by omega)
  have dM : (r : Rat) / 1000000 = (r : Rat) * (1 / 1000000) := by rw [Rat.div_def, Rat.div_def]; grind
  obtain ⟨g, g1, g2⟩ := mul_ap 1008000000000 1 40 (by omega) i1' nG (by grind) (by grind) (by grind) (by grind) (by rw [p40]; grind)
  have g3 := g2.mono (e' := 21 / 10) (by grind)
  rw [Rat.mul_one] at g3
  obtain ⟨Y, y1, y2, y3⟩ := g3.num
  obtain ⟨Y0, z1, -, -⟩ := i1'.num
  obtain ⟨Y9, z9, -, -⟩ := nG.num
  have lg := mul_lt63 i5 (by decide +kernel) z1 z9 g1
  have hY : 0 ≤ Y := by
    rcases num_nn lg y1 with q | q
    · rw [q] at y1
      obtain ⟨s, m, p, e1, e2⟩ := y1
      obtain ⟨s', m', p', e1', e2'⟩ := num_zero
      unfold Reads at e1 e1'
      rw [e1] at e1'
      cases e1'
      rw [← e2, e2']
      exact Rat.le_refl
    · exact Rat.le_of_lt q
  obtain ⟨mn, n1, n2⟩ := div_ap 1000000 4000000000 32 (by omega) nr.ap nM.ap (by grind) (by grind) (by rw [dM]; exact rabs_le.2 ⟨by grind, by grind⟩) (by rw [p32]; grind)
  rw [dM] at n2
  have n3 := n2.mono (e' := 1 / 100000) (by grind)
  obtain ⟨M, m1, m2, m3⟩ := n3.num
  rw [fmul_of g1, fdiv_of n1]
  obtain ⟨a, a1, a2⟩ := sub_ap 41 (by omega) m1.ap y1.ap (by rw [p41]; grind) (by rw [p41]; grind)
  obtain ⟨b, b1, b2⟩ := add_ap 41 (by omega) m1.ap y1.ap (by rw [p41]; grind) (by rw [p41]; grind)
  rw [fsub_of a1, fadd_of b1]
  have a3 := a2.mono (e' := 25 / 100000) (by grind)
  have b3 := b2.mono (e' := 25 / 100000) (by grind)
  obtain ⟨s1, s2, X1, X2, c1, c2, c3, c4, c5, c6, c7, c8, c9, c10, c11, c12, c13, c14⟩ := around_run 41 (by omega) a3 (by rw [p41]; grind) (by rw [p41]; grind)
  obtain ⟨t1, t2, X3, X4, d1, d2, d3, d4, d5, d6, d7, d8, d9, d10, d11, d12, d13, d14⟩ := around_run 41 (by omega) b3 (by rw [p41]; grind) (by rw [p41]; grind)
  have cancel : ∀ {a b : Int}, (a : Rat) ≤ (b : Rat) → a ≤ b := fun h => Rat.intCast_le_intCast.1 h
  have w1 : ((1100000000000 : Int) : Rat) = 1100000000000 := rfl
  have w2 : ((-1100000000000 : Int) : Rat) = -1100000000000 := rfl
  generalize (1 : Rat) / 10 ^ 18 = dd at *
  generalize p2 (((41 : Nat) : Int) - 53) = uu at *
  refine ⟨g1, n1, a1, b1, ⟨s1, s2, X1, X2, c1, c2, c3, c4, c5, c6, c7, c8, c9, c10⟩, ⟨t1, t2, X3, X4, d1, d2, d3, d4, d5, d6, d7, d8, d9, d10⟩, cancel (by grind), by grind, by grind, cancel (by rw [w2]; grind), cancel (by rw [w1]; grind), cancel (by rw [w2]; grind), cancel (by rw [w1]; grind)⟩
end Go.Proofs.YtplhegjgkmabiaaDoor
