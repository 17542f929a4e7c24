/- What the operations of floating-point numbers answer, up to an error. No program in sight. -/
import Derived.Test.YtffnmfcaoldlhaaDoorPlainFl
set_option linter.unusedVariables false
set_option linter.unusedSimpArgs false
namespace Go.Proofs.YtffnmfcaoldlhaaDoor
open Ieee
/-- A word reads as a finite number within e of X. -/
def Ap (w : Nat) (X e : Rat) : Prop := ∃ s m p, Reads w s m p ∧ rv s m p ≤ X + e ∧ X ≤ rv s m p + e
theorem Ap.mono {w : Nat} {X e e' : Rat} (h : Ap w X e) (he : e ≤ e') : Ap w X e' := by
  obtain ⟨s, m, p, h1, h2, h3⟩ := h
  exact ⟨s, m, p, h1, by grind, by grind⟩
theorem Ap.move {w : Nat} {X Y e d : Rat} (h : Ap w X e) (h1 : X ≤ Y + d) (h2 : Y ≤ X + d) : Ap w Y (e + d) := by
  obtain ⟨s, m, p, h3, h4, h5⟩ := h
  exact ⟨s, m, p, h3, by grind, by grind⟩
theorem Ap.pos {w : Nat} {X e : Rat} (h : Ap w X e) : 0 ≤ e := by
  obtain ⟨s, m, p, h3, h4, h5⟩ := h
  grind
theorem rv_neg (s : Bool) (m : Nat) (p : Int) : rv (!s) m p = -rv s m p := by
  unfold rv; cases s <;> simp <;> grind
theorem mp_nonneg (m : Nat) (p : Int) : 0 ≤ (m : Rat) * p2 p := Rat.mul_nonneg (by exact_mod_cast Nat.zero_le m) (Rat.le_of_lt (p2_pos p))
theorem rv_abs (s : Bool) (m : Nat) (p : Int) : (m : Rat) * p2 p = rv s m p ∨ (m : Rat) * p2 p = -rv s m p := by
  unfold rv; cases s
  · left; simp
  · right; simp; grind
/-- A number that is written reads as itself up to half a unit. -/
theorem write_ap {s : Bool} {m : Nat} {p : Int} {X e : Rat} (K : Nat) (hK : K ≤ 900) (h1 : rv s m p ≤ X + e) (h2 : X ≤ rv s m p + e) (hb1 : X + e ≤ p2 K) (hb2 : -p2 K ≤ X - e) : Ap (double.write (.number s m p)) X (e + p2 (K - 53)) := by
  have hx : (m : Rat) * p2 p ≤ p2 K := by
    rcases rv_abs s m p with q | q <;> rw [q] <;> grind
  obtain ⟨m', e', r1, r2, r3⟩ := nearest_near s m p K hK hx
  refine ⟨s, m', e', r1, ?_, ?_⟩
  · unfold rv at h1 h2 ⊢; cases s <;> simp at h1 h2 ⊢ <;> grind
  · unfold rv at h1 h2 ⊢; cases s <;> simp at h1 h2 ⊢ <;> grind
theorem signed_rv (s : Bool) (m : Nat) (i b : Int) (h : b ≤ i) : ((signed s m (i - b).toNat : Int) : Rat) * p2 b = rv s m i := by
  obtain ⟨D, hD⟩ : ∃ D : Nat, i - b = D := ⟨(i - b).toNat, by omega⟩
  have hDt : (i - b).toNat = D := by omega
  rw [hDt]
  unfold signed rv
  rw [show i = (D : Int) + b by omega, p2_add, p2_nat, Nat.shiftLeft_eq]
  cases s
  · simp only [Bool.false_eq_true, if_false]
    push_cast
    grind
  · simp only [if_true]
    push_cast
    grind
theorem total_rv (t : Int) (b : Int) (s : Bool) (hs : t ≠ 0 → s = decide (t < 0)) : rv s t.natAbs b = (t : Rat) * p2 b := by
  by_cases h0 : t = 0
  · subst h0; unfold rv; simp
  · rw [hs h0]
    unfold rv
    by_cases hn : t < 0
    · have e : ((t.natAbs : Nat) : Int) = -t := by omega
      have e2 : ((t.natAbs : Nat) : Rat) = -(t : Rat) := by
        have := congrArg (fun z : Int => (z : Rat)) e
        push_cast at this
        exact this
      rw [e2]
      simp [hn]
      grind
    · have e : ((t.natAbs : Nat) : Int) = t := by omega
      have e2 : ((t.natAbs : Nat) : Rat) = (t : Rat) := by
        have := congrArg (fun z : Int => (z : Rat)) e
        push_cast at this
        exact this
      rw [e2]
      simp [hn]
theorem sum_number (s : Bool) (m : Nat) (i : Int) (t : Bool) (n : Nat) (j : Int) : ∃ u k b, Datum.sum (.number s m i) (.number t n j) = some (.number u k b) ∧ rv u k b = rv s m i + rv t n j := by
  unfold Datum.sum
  dsimp only
  refine ⟨_, _, _, rfl, ?_⟩
  rw [total_rv]
  · push_cast
    rw [Rat.add_mul, signed_rv s m i _ (by omega), signed_rv t n j _ (by omega)]
  · intro h
    rw [if_neg h]
theorem add_ap {x y : Nat} {X Y a b : Rat} (K : Nat) (hK : K ≤ 900) (hx : Ap x X a) (hy : Ap y Y b) (hb1 : X + Y + (a + b) ≤ p2 K) (hb2 : -p2 K ≤ X + Y - (a + b)) : ∃ r, double.add x y = some r ∧ Ap r (X + Y) (a + b + p2 (K - 53)) := by
  obtain ⟨s, m, i, h1, h2, h3⟩ := hx
  obtain ⟨t, n, j, g1, g2, g3⟩ := hy
  obtain ⟨u, k, c, e1, e2⟩ := sum_number s m i t n j
  unfold Reads at h1 g1
  refine ⟨double.write (.number u k c), ?_, ?_⟩
  · unfold Format.add; rw [h1, g1, e1]; rfl
  · exact write_ap K hK (by rw [e2]; grind) (by rw [e2]; grind) hb1 hb2
theorem sub_ap {x y : Nat} {X Y a b : Rat} (K : Nat) (hK : K ≤ 900) (hx : Ap x X a) (hy : Ap y Y b) (hb1 : X - Y + (a + b) ≤ p2 K) (hb2 : -p2 K ≤ X - Y - (a + b)) : ∃ r, double.sub x y = some r ∧ Ap r (X - Y) (a + b + p2 (K - 53)) := by
  obtain ⟨s, m, i, h1, h2, h3⟩ := hx
  obtain ⟨t, n, j, g1, g2, g3⟩ := hy
  obtain ⟨u, k, c, e1, e2⟩ := sum_number s m i (!t) n j
  rw [rv_neg] at e2
  unfold Reads at h1 g1
  refine ⟨double.write (.number u k c), ?_, ?_⟩
  · unfold Format.sub; rw [h1, g1]; show Option.map _ (Datum.sum _ (.number (!t) n j)) = _; rw [e1]; rfl
  · exact write_ap K hK (by rw [e2]; grind) (by rw [e2]; grind) hb1 hb2
theorem rv_mul (s t : Bool) (m n : Nat) (i j : Int) : rv (s ^^ t) (m * n) (i + j) = rv s m i * rv t n j := by
  unfold rv
  rw [p2_add]
  cases s <;> cases t <;> simp <;> push_cast <;> grind
/-- The product of two numbers that are near to two others. -/
theorem prod_near {x y X Y a b A B : Rat} (h1 : x ≤ X + a) (h2 : X ≤ x + a) (g1 : y ≤ Y + b) (g2 : Y ≤ y + b) (hA1 : X ≤ A) (hA2 : -A ≤ X) (hB1 : Y ≤ B) (hB2 : -B ≤ Y) : x * y ≤ X * Y + (A * b + B * a + a * b) ∧ X * Y ≤ x * y + (A * b + B * a + a * b) := by
  have key : ∀ (u v c d : Rat), -c ≤ u → u ≤ c → -d ≤ v → v ≤ d → u * v ≤ c * d ∧ -(c * d) ≤ u * v := by
    intro u v c d u1 u2 v1 v2
    have p1 := Rat.mul_nonneg (show 0 ≤ c - u by grind) (show 0 ≤ d + v by grind)
    have p2 := Rat.mul_nonneg (show 0 ≤ c + u by grind) (show 0 ≤ d - v by grind)
    have p3 := Rat.mul_nonneg (show 0 ≤ c - u by grind) (show 0 ≤ d - v by grind)
    have p4 := Rat.mul_nonneg (show 0 ≤ c + u by grind) (show 0 ≤ d + v by grind)
    constructor <;> grind
  have k1 := key X (y - Y) A b hA2 hA1 (by grind) (by grind)
  have k2 := key (x - X) Y a B (by grind) (by grind) hB2 hB1
  have k3 := key (x - X) (y - Y) a b (by grind) (by grind) (by grind) (by grind)
  have e : x * y = X * Y + X * (y - Y) + (x - X) * Y + (x - X) * (y - Y) := by grind
  rw [e]
  constructor <;> grind
theorem mul_ap {x y : Nat} {X Y a b : Rat} (A B : Rat) (K : Nat) (hK : K ≤ 900) (hx : Ap x X a) (hy : Ap y Y b) (hA1 : X ≤ A) (hA2 : -A ≤ X) (hB1 : Y ≤ B) (hB2 : -B ≤ Y) (hb : A * B + (A * b + B * a + a * b) ≤ p2 K) : ∃ r, double.mul x y = some r ∧ Ap r (X * Y) (A * b + B * a + a * b + p2 (K - 53)) := by
  obtain ⟨s, m, i, h1, h2, h3⟩ := hx
  obtain ⟨t, n, j, g1, g2, g3⟩ := hy
  obtain ⟨k1, k2⟩ := prod_near h2 h3 g2 g3 hA1 hA2 hB1 hB2
  have e2 := rv_mul s t m n i j
  unfold Reads at h1 g1
  have z := prod_near (x := X) (y := Y) (X := 0) (Y := 0) (a := A) (b := B) (A := 0) (B := 0) (by grind) (by grind) (by grind) (by grind) (by grind) (by grind) (by grind) (by grind)
  refine ⟨double.write (.number (s ^^ t) (m * n) (i + j)), ?_, ?_⟩
  · unfold Format.mul; rw [h1, g1]; rfl
  · exact write_ap K hK (by rw [e2]; exact k1) (by rw [e2]; exact k2) (by grind) (by grind)
end Go.Proofs.YtffnmfcaoldlhaaDoor
