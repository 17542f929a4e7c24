/- The box of points, in plain Lean. -/
import Derived.Test.YtbcehnhiedbbbaaDoorPlainFc
set_option linter.unusedVariables false
set_option linter.unusedSimpArgs false
namespace Go.Proofs.YtbcehnhiedbbbaaDoor
def ltF (n d m e : Int) : Bool := decide (n * e < m * d)
def lowX (s p : Fp) : Fp := if ltF p.xn p.xd s.xn s.xd then ⟨p.xn, p.xd, s.yn, s.yd⟩ else s
def lowY (s p : Fp) : Fp := if ltF p.yn p.yd s.yn s.yd then ⟨s.xn, s.xd, p.yn, p.yd⟩ else s
def highX (s p : Fp) : Fp := if ltF s.xn s.xd p.xn p.xd then ⟨p.xn, p.xd, s.yn, s.yd⟩ else s
def highY (s p : Fp) : Fp := if ltF s.yn s.yd p.yn p.yd then ⟨s.xn, s.xd, p.yn, p.yd⟩ else s
def low (s p : Fp) : Fp := lowY (lowX s p) p
def high (s p : Fp) : Fp := highY (highX s p) p
def ptOk (p : Fp) : Prop := fcE p.xn p.xd = 0 ∧ fcE p.yn p.yd = 0
theorem lowX_ok {s p : Fp} (hs : ptOk s) (hp : ptOk p) : ptOk (lowX s p) := by unfold lowX; split; exact ⟨hp.1, hs.2⟩; exact hs
theorem lowY_ok {s p : Fp} (hs : ptOk s) (hp : ptOk p) : ptOk (lowY s p) := by unfold lowY; split; exact ⟨hs.1, hp.2⟩; exact hs
theorem highX_ok {s p : Fp} (hs : ptOk s) (hp : ptOk p) : ptOk (highX s p) := by unfold highX; split; exact ⟨hp.1, hs.2⟩; exact hs
theorem highY_ok {s p : Fp} (hs : ptOk s) (hp : ptOk p) : ptOk (highY s p) := by unfold highY; split; exact ⟨hs.1, hp.2⟩; exact hs
theorem low_ok {s p : Fp} (hs : ptOk s) (hp : ptOk p) : ptOk (low s p) := lowY_ok (lowX_ok hs hp) hp
theorem high_ok {s p : Fp} (hs : ptOk s) (hp : ptOk p) : ptOk (high s p) := highY_ok (highX_ok hs hp) hp
def lows (P : List Fp) : Fp := P.foldl low P.head!
def highs (P : List Fp) : Fp := P.foldl high P.head!
theorem fold_at {α β : Type} (f : β → α → β) (s : β) (l : List α) (k : Nat) (h : k < l.length) : (l.take (k + 1)).foldl f s = f ((l.take k).foldl f s) l[k] := by
  rw [List.take_succ_eq_append_getElem h, List.foldl_append]; rfl
theorem fold_ok (f : Fp → Fp → Fp) (hf : ∀ {s p}, ptOk s → ptOk p → ptOk (f s p)) : ∀ (l : List Fp) (s : Fp), ptOk s → (∀ p ∈ l, ptOk p) → ptOk (l.foldl f s)
  | [], _, hs, _ => hs
  | p :: l, s, hs, hl => fold_ok f hf l (f s p) (hf hs (hl p (by simp))) (fun q hq => hl q (by simp [hq]))
theorem low_eq (a b c d x y z u : Int) : low ⟨a, b, c, d⟩ ⟨x, y, z, u⟩ = ⟨bif decide (x * b < a * y) then x else a, bif decide (x * b < a * y) then y else b, bif decide (z * d < c * u) then z else c, bif decide (z * d < c * u) then u else d⟩ := by
  unfold low lowX lowY ltF
  by_cases h1 : x * b < a * y <;> by_cases h2 : z * d < c * u <;> simp [h1, h2]
theorem high_eq (a b c d x y z u : Int) : high ⟨a, b, c, d⟩ ⟨x, y, z, u⟩ = ⟨bif decide (a * y < x * b) then x else a, bif decide (a * y < x * b) then y else b, bif decide (c * u < z * d) then z else c, bif decide (c * u < z * d) then u else d⟩ := by
  unfold high highX highY ltF
  by_cases h1 : a * y < x * b <;> by_cases h2 : c * u < z * d <;> simp [h1, h2]
end Go.Proofs.YtbcehnhiedbbbaaDoor
