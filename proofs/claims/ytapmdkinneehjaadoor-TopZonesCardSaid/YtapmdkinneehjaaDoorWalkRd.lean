/- The contract of figure.Read. -/
import Derived.Test.YtapmdkinneehjaaDoorWalkSpl
import Derived.Test.YtapmdkinneehjaaDoorWalkFg
import Derived.Deep.DeepCutAuto
set_option linter.unusedVariables false
set_option linter.unusedSimpArgs false
namespace Go.Proofs.YtapmdkinneehjaaDoor
open Go.RowKit
def fpc (p : Fp) : List Value := [.int .i64 p.xn, .int .i64 p.xd, .int .i64 p.yn, .int .i64 p.yd]
def fpcs (P : List Fp) : List Value := P.flatMap fpc
theorem fpcs_len (P : List Fp) : (fpcs P).length = P.length * 4 := by
  induction P with
  | nil => rfl
  | cons p P ih => rw [show fpcs (p :: P) = fpc p ++ fpcs P by simp [fpcs], List.length_append, ih]; simp [fpc]; omega
theorem fpcs_at (P : List Fp) (k : Nat) (h : k < P.length) : ∀ j, j < 4 → (fpcs P)[k * 4 + j]? = (fpc P[k])[j]? := by
  induction P generalizing k with
  | nil => simp at h
  | cons p P ih =>
    intro j hj
    rw [show fpcs (p :: P) = fpc p ++ fpcs P by simp [fpcs]]
    cases k with
    | zero =>
      rw [List.getElem?_append_left (by simp [fpc]; omega)]
      simp
    | succ k =>
      rw [List.getElem?_append_right (by simp [fpc]; omega)]
      rw [show (k + 1) * 4 + j - (fpc p).length = k * 4 + j by simp [fpc]; omega]
      exact ih k (by simpa using h) j hj
theorem own_Row {w : World} {B : Nat} {v : Value} {r : List Int} (h : w.ownsRow B 3 1 v r.length (icells r)) : RowAt w v r := by
  rcases own_form h with ⟨rfl, h0⟩ | ⟨g, cap, rfl, h1, _, _, h4, h5, _⟩
  · exact ⟨none, 0, by rw [h0], by omega, fun k hk => by omega⟩
  · refine ⟨⟨_, cap, rfl, h1, fun k hk => ⟨g, 0, rfl, h4, ?_⟩⟩⟩
    rw [Nat.zero_add, h5 _ (by omega)]
    simp [icells, hk]
theorem own_Mat {w : World} {B : Nat} {v : Value} {L : List (List Int)} {xs : List Value} (h : w.ownsRow B 32 1 v L.length xs) (hr : ∀ k (h : k < L.length), ∃ v, xs[k]? = some v ∧ w.ownsRow B 3 1 v L[k].length (icells L[k])) : ∃ a cap, v = .slice a L.length cap ∧ L.length ≤ cap ∧ MatSlice w a L := by
  rcases own_form h with ⟨rfl, h0⟩ | ⟨g, cap, rfl, h1, _, _, h4, h5, _⟩
  · exact ⟨none, 0, by rw [h0], by omega, fun k hk => by omega⟩
  · refine ⟨_, cap, rfl, h1, fun k hk => ?_⟩
    obtain ⟨x, hx, hro⟩ := hr k hk
    refine ⟨g, 0, x, rfl, h4, ?_, own_Row hro⟩
    rw [Nat.zero_add, h5 _ (by omega)]
    exact hx
end Go.Proofs.YtapmdkinneehjaaDoor
