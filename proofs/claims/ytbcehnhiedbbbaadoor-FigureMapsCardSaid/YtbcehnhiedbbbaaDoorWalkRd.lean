/- The contract of figure.Read. -/
import Derived.Test.YtbcehnhiedbbbaaDoorWalkSpl
import Derived.Test.YtbcehnhiedbbbaaDoorWalkFg
import Derived.Deep.DeepCutAuto
set_option linter.unusedVariables false
set_option linter.unusedSimpArgs false
namespace Go.Proofs.YtbcehnhiedbbbaaDoor
open Go.RowKit
def fpc (p : Fp) : List Value := [.int .i64 p.xn, .int .i64 p.xd, .int .i64 p.yn, .int .i64 p.yd]
def fpcs (P : List Fp) : List Value := P.flatMap fpc
/-- A figure under way: its two fields in block q, its slices owned from B on. -/
structure FgAt (w : World) (q B : Nat) (v1 v2 : Value) (P : List Fp) (L : List (List Int)) : Prop where
  c0 : w.cell? ⟨q, 0, none⟩ = some v1
  c1 : w.cell? ⟨q, 1, none⟩ = some v2
  f0 : w.frozen? ⟨q, 0, none⟩ = false
  f1 : w.frozen? ⟨q, 1, none⟩ = false
  lt : q < w.heap.size
  pts : w.ownsRow B 63 4 v1 P.length (fpcs P)
  row : ∃ xs, w.ownsRow B 39 1 v2 L.length xs ∧ ∀ k (h : k < L.length), ∃ v, xs[k]? = some v ∧ w.ownsRow B 3 1 v L[k].length (icells L[k])
theorem FgAt.below {w w' : World} {q B : Nat} {v1 v2 : Value} {P : List Fp} {L : List (List Int)} (h : FgAt w q B v1 v2 P L) (hb : Below w.heap.size w w') : FgAt w' q B v1 v2 P L := by
  obtain ⟨c0, c1, f0, f1, lt, p, xs, h1, h2⟩ := h
  exact ⟨(hb.cell (p := ⟨q, 0, none⟩) lt).trans c0, (hb.cell (p := ⟨q, 1, none⟩) lt).trans c1, (hb.frozen (p := ⟨q, 0, none⟩) lt).trans f0, (hb.frozen (p := ⟨q, 1, none⟩) lt).trans f1, Nat.lt_of_lt_of_le lt hb.size, own_below p hb, xs, own_below h1 hb, fun k hk => by obtain ⟨v, a, b⟩ := h2 k hk; exact ⟨v, a, own_below b hb⟩⟩
theorem fpcs_len (P : List Fp) : (fpcs P).length = P.length * 4 := by
  induction P with
  | nil => rfl
  | cons p P ih => rw [show fpcs (p :: P) = fpc p ++ fpcs P by simp [fpcs], List.length_append, ih]; simp [fpc]; omega
theorem fpcs_at (P : List Fp) (k : Nat) (h : k < P.length) : ∀ j, j < 4 → (fpcs P)[k * 4 + j]? = (fpc P[k])[j]? := by
  induction P generalizing k with
  | nil => simp at h
  | cons p P ih =>
    intro j hj
    rw [show fpcs (p :: P) = fpc p ++ fpcs P by simp [fpcs]]
    cases k with
    | zero =>
      rw [List.getElem?_append_left (by simp [fpc]; omega)]
      simp
    | succ k =>
      rw [List.getElem?_append_right (by simp [fpc]; omega)]
      rw [show (k + 1) * 4 + j - (fpc p).length = k * 4 + j by simp [fpc]; omega]
      exact ih k (by simpa using h) j hj
theorem own_Fp {w : World} {B : Nat} {v : Value} {P : List Fp} (h : w.ownsRow B 63 4 v P.length (fpcs P)) : ∃ a cap, v = .slice a P.length cap ∧ P.length ≤ cap ∧ FpSlice w a P := by
  rcases own_form h with ⟨rfl, h0⟩ | ⟨g, cap, rfl, h1, _, _, h4, h5, _⟩
  · exact ⟨none, 0, by rw [h0], by omega, fun k hk => by omega⟩
  · refine ⟨_, cap, rfl, h1, fun k hk => ⟨g, 0, rfl, h4, ?_, ?_, ?_, ?_⟩⟩
    · rw [Nat.zero_add, h5 _ (by omega)]; exact fpcs_at P k hk 0 (by omega)
    · rw [Nat.zero_add, h5 _ (by omega)]; exact fpcs_at P k hk 1 (by omega)
    · rw [Nat.zero_add, h5 _ (by omega)]; exact fpcs_at P k hk 2 (by omega)
    · rw [Nat.zero_add, h5 _ (by omega)]; exact fpcs_at P k hk 3 (by omega)
theorem own_Row {w : World} {B : Nat} {v : Value} {r : List Int} (h : w.ownsRow B 3 1 v r.length (icells r)) : RowAt w v r := by
  rcases own_form h with ⟨rfl, h0⟩ | ⟨g, cap, rfl, h1, _, _, h4, h5, _⟩
  · exact ⟨none, 0, by rw [h0], by omega, fun k hk => by omega⟩
  · refine ⟨⟨_, cap, rfl, h1, fun k hk => ⟨g, 0, rfl, h4, ?_⟩⟩⟩
    rw [Nat.zero_add, h5 _ (by omega)]
    simp [icells, hk]
theorem own_Mat {w : World} {B : Nat} {v : Value} {L : List (List Int)} {xs : List Value} (h : w.ownsRow B 39 1 v L.length xs) (hr : ∀ k (h : k < L.length), ∃ v, xs[k]? = some v ∧ w.ownsRow B 3 1 v L[k].length (icells L[k])) : ∃ a cap, v = .slice a L.length cap ∧ L.length ≤ cap ∧ MatSlice w a L := by
  rcases own_form h with ⟨rfl, h0⟩ | ⟨g, cap, rfl, h1, _, _, h4, h5, _⟩
  · exact ⟨none, 0, by rw [h0], by omega, fun k hk => by omega⟩
  · refine ⟨_, cap, rfl, h1, fun k hk => ?_⟩
    obtain ⟨x, hx, hro⟩ := hr k hk
    refine ⟨g, 0, x, rfl, h4, ?_, own_Row hro⟩
    rw [Nat.zero_add, h5 _ (by omega)]
    exact hx
end Go.Proofs.YtbcehnhiedbbbaaDoor
