/- The texts of fractions and figures, in plain Lean. -/
import Derived.Test.YtapmdkinneehjaaDoorPlainNo
import Derived.Test.YtapmdkinneehjaaDoorFgP
import Derived.Test.YtapmdkinneehjaaDoorPlainFe
set_option linter.unusedVariables false
set_option linter.unusedSimpArgs false
namespace Go.Proofs.YtapmdkinneehjaaDoor
def fcB (n d : Int) : Prop := d < 1 ∨ 2147483647 < d ∨ n < -2147483647 ∨ 2147483647 < n
instance (n d : Int) : Decidable (fcB n d) := by unfold fcB; exact inferInstance
def fcE (n d : Int) : Int := if fcB n d then 8 else if Nat.gcd n.natAbs d.natAbs = 1 then 0 else 8
def showF (n d : Int) : List UInt8 := Go.Lib.itoa n ++ (if d = 1 then [] else 47 :: Go.Lib.itoa d)
theorem fcE_bad {n d : Int} (h : fcB n d) : fcE n d = 8 := if_pos h
theorem fcE_two (n d : Int) : fcE n d = 0 ∨ fcE n d = 8 := by unfold fcE; split; exact .inr rfl; split; exact .inl rfl; exact .inr rfl
theorem fcE_ok {n d : Int} (h : fcE n d = 0) : 1 ≤ d ∧ d ≤ 2147483647 ∧ -2147483647 ≤ n ∧ n ≤ 2147483647 ∧ Nat.gcd n.natAbs d.natAbs = 1 := by
  unfold fcE at h
  by_cases hb : fcB n d
  · rw [if_pos hb] at h; cases h
  · rw [if_neg hb] at h
    unfold fcB at hb
    refine ⟨by omega, by omega, by omega, by omega, ?_⟩
    by_cases g : Nat.gcd n.natAbs d.natAbs = 1
    · exact g
    · rw [if_neg g] at h; cases h
theorem mul_bd2 {x y : Int} (x0 : -2147483647 ≤ x) (x1 : x ≤ 2147483647) (y0 : 0 ≤ y) (y1 : y ≤ 2147483647) : -4611686014132420609 ≤ x * y ∧ x * y ≤ 4611686014132420609 := by
  have a : x * y ≤ 2147483647 * y := Int.mul_le_mul_of_nonneg_right x1 y0
  have b : -2147483647 * y ≤ x * y := Int.mul_le_mul_of_nonneg_right x0 y0
  omega
def ptT (p : Fp) : List UInt8 := [112, 32] ++ showF p.xn p.xd ++ [32] ++ showF p.yn p.yd ++ [10]
def nmT (r : List Int) : List UInt8 := r.flatMap fun n => 32 :: Go.Lib.itoa n
def lnT (r : List Int) : List UInt8 := [108] ++ nmT r ++ [10]
def fgT (P : List Fp) (L : List (List Int)) : List UInt8 := P.flatMap ptT ++ L.flatMap lnT
def ptE (p : Fp) : Int := if fcE p.xn p.xd ≠ 0 then fcE p.xn p.xd else fcE p.yn p.yd
def rgO (k n : Int) : Int := if n < 0 ∨ k ≤ n then 3 else 0
def lnE (k : Int) (l : List Int) : Int := if l.length < 2 ∨ 60 < l.length then 8 else fe (rgO k) l
def fgE (P : List Fp) (L : List (List Int)) : Int := if 60 < P.length ∨ 40 < L.length then 2 else if fe ptE P ≠ 0 then fe ptE P else fe (lnE P.length) L
theorem showF_le {n d : Int} (h : fcE n d = 0) : (showF n d).length ≤ 43 := by
  obtain ⟨d0, d1, n0, n1, -⟩ := fcE_ok h
  have a := Go.Lib.itoa_length_le n (by omega) (by omega)
  have b := Go.Lib.itoa_length_le d (by omega) (by omega)
  unfold showF
  split <;> simp <;> omega
theorem take_flat {α β : Type} (f : α → List β) (l : List α) (k : Nat) (h : k < l.length) : (l.take (k + 1)).flatMap f = (l.take k).flatMap f ++ f l[k] := by
  rw [List.take_succ_eq_append_getElem h, List.flatMap_append]; simp
theorem flat_le {α β : Type} (f : α → List β) (M : Nat) : ∀ l : List α, (∀ x ∈ l, (f x).length ≤ M) → (l.flatMap f).length ≤ M * l.length
  | [], _ => by simp
  | x :: l, h => by
    have a := h x (by simp)
    have b := flat_le f M l (fun y hy => h y (by simp [hy]))
    rw [List.flatMap_cons, List.length_append, List.length_cons, Nat.mul_add]
    omega
theorem ptE_zero {p : Fp} (h : ptE p = 0) : fcE p.xn p.xd = 0 ∧ fcE p.yn p.yd = 0 := by
  unfold ptE at h
  by_cases q : fcE p.xn p.xd = 0
  · rw [q, if_neg (by decide)] at h; exact ⟨q, h⟩
  · rw [if_pos q] at h; exact absurd h q
theorem fe_mem0 {α : Type} {f : α → Int} {l : List α} (h : fe f l = 0) {x : α} (hx : x ∈ l) : f x = 0 := by
  obtain ⟨k, hk, rfl⟩ := List.getElem_of_mem hx
  exact fe_zero h k hk
theorem fgE_ok {P : List Fp} {L : List (List Int)} (h : fgE P L = 0) : P.length ≤ 60 ∧ L.length ≤ 40 ∧ fe ptE P = 0 ∧ fe (lnE P.length) L = 0 := by
  unfold fgE at h
  by_cases h1 : 60 < P.length ∨ 40 < L.length
  · rw [if_pos h1] at h; cases h
  · rw [if_neg h1] at h
    by_cases h2 : fe ptE P = 0
    · rw [h2, if_neg (by decide)] at h; exact ⟨by omega, by omega, h2, h⟩
    · rw [if_pos h2] at h; exact absurd h h2
theorem lnE_ok {k : Int} {r : List Int} (h : lnE k r = 0) : 2 ≤ r.length ∧ r.length ≤ 60 ∧ ∀ n ∈ r, 0 ≤ n ∧ n < k := by
  unfold lnE at h
  by_cases h1 : r.length < 2 ∨ 60 < r.length
  · rw [if_pos h1] at h; cases h
  · rw [if_neg h1] at h
    refine ⟨by omega, by omega, fun n hn => ?_⟩
    have := fe_mem0 h hn
    unfold rgO at this
    by_cases q : n < 0 ∨ k ≤ n
    · rw [if_pos q] at this; cases this
    · omega
theorem ptT_le {p : Fp} (h : ptE p = 0) : (ptT p).length ≤ 90 := by
  have a := showF_le (ptE_zero h).1
  have b := showF_le (ptE_zero h).2
  unfold ptT
  simp; omega
theorem nmT_le {r : List Int} {k : Int} (h : lnE k r = 0) (hk : k ≤ 60) : ∀ j, (nmT (r.take j)).length ≤ 1320 := by
  intro j
  obtain ⟨r0, r1, hr⟩ := lnE_ok h
  have := flat_le (fun n => (32 : UInt8) :: Go.Lib.itoa n) 22 (r.take j) (fun x hx => by
    have hb := hr x (List.mem_of_mem_take hx)
    have := Go.Lib.itoa_length_le x (by omega) (by omega)
    simp; omega)
  have hl : (r.take j).length ≤ 60 := by simp; omega
  unfold nmT
  omega
theorem lnT_le {r : List Int} {k : Int} (h : lnE k r = 0) (hk : k ≤ 60) : (lnT r).length ≤ 1322 := by
  have := nmT_le h hk r.length
  rw [List.take_of_length_le (Nat.le_refl _)] at this
  unfold lnT
  simp; omega
end Go.Proofs.YtapmdkinneehjaaDoor
