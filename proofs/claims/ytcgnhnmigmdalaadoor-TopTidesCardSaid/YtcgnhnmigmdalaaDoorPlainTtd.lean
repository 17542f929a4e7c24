/- The plain law of TopTides: a height lies within the sum of the amplitudes; exact readings give back their factors. No program in sight. -/
import Derived.Test.YtcgnhnmigmdalaaDoorPlainTide
import Derived.Test.YtcgnhnmigmdalaaDoorGgB
import Derived.Test.YtcgnhnmigmdalaaDoorGwA
set_option linter.unusedVariables false
set_option linter.unusedSimpArgs false
namespace Go.Proofs.YtcgnhnmigmdalaaDoor
/-- The sum of the amplitudes. -/
def tdM (l : List Tm) : Int := l.foldl (fun n x => n + x.amp) 0
theorem tdM_snoc (l : List Tm) (x : Tm) : tdM (l ++ [x]) = tdM l + x.amp := by unfold tdM; rw [List.foldl_append]; rfl
theorem tdM_take (l : List Tm) (k : Nat) (h : k < l.length) : tdM (l.take (k + 1)) = tdM (l.take k) + l[k].amp := by
  rw [List.take_succ_eq_append_getElem h, tdM_snoc]
theorem aS_tdM {l : List Tm} (h : ∀ x ∈ l, ¬ TdBad x) : ∀ k, k ≤ l.length → aS (tdL l) k = ((tdM (l.take k) : Int) : Rat) ∧ 0 ≤ tdM (l.take k) ∧ tdM (l.take k) ≤ 20000 * (k : Int)
  | 0, _ => ⟨rfl, by show (0 : Int) ≤ tdM []; decide, by show tdM [] ≤ _; decide⟩
  | k + 1, hk => by
    obtain ⟨e, a, b⟩ := aS_tdM h k (by omega)
    have hl := tdL_len l
    have hx := h l[k] (List.getElem_mem (by omega))
    have eg : (tdL l)[k]'(by omega) = tdS l[k] := List.getElem_map tdS
    have ea : (tdS l[k]).amp = l[k].amp := rfl
    unfold TdBad at hx
    rw [aS_snoc (tdL l) k (by omega), tdM_take l k (by omega), e, eg, ea]
    have hc : (0 : Rat) ≤ ((l[k].amp : Int) : Rat) := by
      have := icast (show 0 ≤ l[k].amp by omega)
      simpa using this
    refine ⟨?_, by omega, by omega⟩
    have hr : rabs ((l[k].amp : Int) : Rat) = ((l[k].amp : Int) : Rat) := by unfold rabs; split <;> grind
    rw [hr]
    push_cast
    rfl
theorem td_most {l : List Tm} (hv : tdE l = 0) (t : Int) : tdLo l t ≤ tdM l ∧ -tdM l ≤ tdHi l t := by
  obtain ⟨h12, hb⟩ := td_of hv
  obtain ⟨es, m0, m1⟩ := aS_tdM hb l.length (Nat.le_refl _)
  rw [List.take_length] at es m0 m1
  by_cases h0 : l.length = 0
  · have e1 : tdLo l t = 0 := by unfold tdLo; rw [if_pos h0]
    have e2 : tdHi l t = 0 := by unfold tdHi; rw [if_pos h0]
    rw [e1, e2]; omega
  · have e1 : tdLo l t = arLo (vAt (tdL l) t l.length) := by unfold tdLo; rw [if_neg h0]
    have e2 : tdHi l t = arHi (vAt (tdL l) t l.length) := by unfold tdHi; rw [if_neg h0]
    have hl := tdL_len l
    obtain ⟨f1, f2, X1, X2, -, -, -, -, -, -, -, -, -, -, b1, b2, b3, b4⟩ := val_around (inst := t) (l := tdL l) (by rw [hl]; omega) (tdL_ok hb)
    rw [hl] at b1 b2 b3 b4
    have a := rabs_le.1 (xAt_amp (tdL l) t l.length (by omega))
    rw [es] at a
    rw [e1, e2]
    have mq := icast m0
    have mr := icast (show tdM l ≤ 240000 by omega)
    have c0 : ((0 : Int) : Rat) = 0 := rfl
    have c1 : ((240000 : Int) : Rat) = 240000 := rfl
    rw [c0] at mq
    rw [c1] at mr
    generalize arLo (vAt (tdL l) t l.length) = lo at *
    generalize arHi (vAt (tdL l) t l.length) = hi at *
    generalize tdM l = m at *
    constructor
    · by_cases q : lo ≤ m
      · exact q
      · exfalso
        have := icast (show m + 1 ≤ lo by omega)
        push_cast at this
        grind
    · by_cases q : -m ≤ hi
      · exact q
      · exfalso
        have := icast (show hi + 1 ≤ -m by omega)
        push_cast at this
        grind
/-- Exact readings. -/
theorem gmR_lin (R : Nat → Nat → Int) (H f : Nat → Int) (N i : Nat) (h : ∀ k, k < N → H k = R k 0 * f 0 + R k 1 * f 1 + R k 2 * f 2) : gmR R H N i = gmM R N i 0 * f 0 + gmM R N i 1 * f 1 + gmM R N i 2 * f 2 := by
  have e : ∀ k, k < N → R k i * H k = f 0 * (R k i * R k 0) + f 1 * (R k i * R k 1) + f 2 * (R k i * R k 2) + 0 * (R k i * R k 2) := fun k hk => by rw [h k hk]; grind
  have s := smN_lin4 (f 0) (f 1) (f 2) 0 (fun k => R k i * R k 0) (fun k => R k i * R k 1) (fun k => R k i * R k 2) (fun k => R k i * R k 2) N
  unfold gmR
  rw [smN_congr N e, s]
  unfold gmM
  grind
theorem cramerT {M : Nat → Nat → Int} {V f : Nat → Int} (hV : ∀ i, i < 3 → V i = M i 0 * f 0 + M i 1 * f 1 + M i 2 * f 2) {j : Nat} (hj : j < 3) : NNv 3 M V j = detF 3 M * f j := by
  unfold NNv
  rw [detF_three, detF_three]
  have v0 := hV 0 (by omega)
  have v1 := hV 1 (by omega)
  have v2 := hV 2 (by omega)
  have hj3 : j = 0 ∨ j = 1 ∨ j = 2 := by omega
  unfold det3
  rcases hj3 with rfl | rfl | rfl <;> simp [colM] <;> rw [v0, v1, v2] <;> grind
theorem gN_exact {D : Int} (F f : Nat → Int) : ∀ k, (∀ j, j < k → F j = D * f j) → gN D F k = D.natAbs
  | 0, _ => rfl
  | k + 1, h => by
    unfold gN
    rw [gN_exact F f k (fun j hj => h j (by omega)), h k (by omega), Int.natAbs_mul]
    exact Nat.gcd_eq_left (Nat.dvd_mul_right _ _)
theorem fit_exact {M : Nat → Nat → Int} {V f : Nat → Int} (hV : ∀ i, i < 3 → V i = M i 0 * f 0 + M i 1 * f 1 + M i 2 * f 2) (hD : 0 < detF 3 M) :
    detF 3 M / (gN (detF 3 M) (NNv 3 M V) 3 : Int) = 1 ∧ ∀ j, j < 3 → NNv 3 M V j / (gN (detF 3 M) (NNv 3 M V) 3 : Int) = f j := by
  have hN := fun j (hj : j < 3) => cramerT hV hj
  rw [gN_exact _ f 3 hN]
  have e : ((detF 3 M).natAbs : Int) = detF 3 M := by omega
  rw [e]
  refine ⟨Int.ediv_self (by omega), fun j hj => ?_⟩
  rw [hN j hj]
  exact Int.mul_ediv_cancel_left _ (by omega)
end Go.Proofs.YtcgnhnmigmdalaaDoor
