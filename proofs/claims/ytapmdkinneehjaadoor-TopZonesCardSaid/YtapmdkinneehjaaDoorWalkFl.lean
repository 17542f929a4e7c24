/- The contract of figure.polyline. -/
import Derived.Test.YtapmdkinneehjaaDoorWalkFp
import Derived.Test.YtapmdkinneehjaaDoorWalkOwn
set_option linter.unusedVariables false
set_option linter.unusedSimpArgs false
namespace Go.Proofs.YtapmdkinneehjaaDoor
open Go.RowKit
theorem lnR_snoc : ∀ (l : List (List UInt8)) (x : List UInt8) (q : List Int) (v : Int), lnR l = some q → inR x = some v → lnR (l ++ [x]) = some (q ++ [v])
  | [], x, q, v, h, hx => by injection h with h; subst h; simp [lnR, hx]
  | y :: l, x, q, v, h, hx => by
    unfold lnR at h
    split at h
    · rename_i u p hu hp
      injection h with h
      subst h
      rw [List.cons_append, lnR, hu, lnR_snoc l x p v hp hx]
      rfl
    · cases h
theorem lnR_bad : ∀ (l : List (List UInt8)) (k : Nat) (h : k < l.length), inR l[k] = none → lnR l = none
  | [], k, h, _ => by simp at h
  | y :: l, 0, h, hx => by
    have hx' : inR y = none := hx
    rw [lnR, hx']
  | y :: l, k + 1, h, hx => by
    have := lnR_bad l k (by simpa using h) hx
    rw [lnR, this]
    cases inR y <;> rfl
def icells (r : List Int) : List Value := r.map (Value.int .i64)
inductive Wd (x : List UInt8) : Prop where
  | ok (n : Int) (h : inR x = some n) (a : ∀ w, Calls Tryd.prog 39 #[.string (strB x)] w fun e w' => e = .returned (.tuple #[.int .i64 n, .nilIface]) ∧ Below w.heap.size w w')
      (i : ∀ w, NTab w → Calls Tryd.prog 14 #[.int .i64 n] w fun e w' => e = .returned (.string (strB x)) ∧ Below w.heap.size w w')
  | er (h : inR x = none) (a : ∀ w, NEr w → Calls Tryd.prog 39 #[.string (strB x)] w fun e w' => ∃ (v : Int) (tp : TypeId) (p : Value), e = .returned (.tuple #[.int .i64 v, .iface tp p]) ∧ Below w.heap.size w w')
  | ne (h : inR x = none) (n : Int) (y : ByteArray) (a : ∀ w, Calls Tryd.prog 39 #[.string (strB x)] w fun e w' => e = .returned (.tuple #[.int .i64 n, .nilIface]) ∧ Below w.heap.size w w')
      (i : ∀ w, NTab w → Calls Tryd.prog 14 #[.int .i64 n] w fun e w' => e = .returned (.string y) ∧ Below w.heap.size w w') (q : (y.toList == (strB x).toList) = false)
theorem wd_all (x : List UInt8) (hx : x.length ≤ 16000) : Wd x := by
  have hz : (strB x).size ≤ 281474976710656 := by rw [strB_size]; omega
  cases ha : Go.Lib.atoiAll x with
  | ok v =>
    have hb := Go.Lib.atoiAll_bounds ha
    have h1 := fun w => c_AtoiOk (strB x) w hz (v := v) (by rw [strB_l]; exact ha)
    have h2 := fun w hT => c_ItoaB v w hT hb.1 hb.2
    by_cases e : Go.Lib.itoa v = x
    · rw [e] at h2
      exact .ok v (by unfold inR; rw [ha]; simp [e]) h1 h2
    · exact .ne (by unfold inR; rw [ha]; simp [e]) v _ h1 h2 (by rw [ByteArray.toList_eq, ByteArray.toList_eq]; exact beq_eq_false_iff_ne.2 (fun r => e (strB_inj (Go.WideShapes.bytes_inj r))))
  | «syntax» => exact .er (by unfold inR; rw [ha]) (fun w h => c_AtoiErr (strB x) w h hz (by rw [strB_l, ha]; intro v q; cases q))
  | range => exact .er (by unfold inR; rw [ha]) (fun w h => c_AtoiErr (strB x) w h hz (by rw [strB_l, ha]; intro v q; cases q))
end Go.Proofs.YtapmdkinneehjaaDoor
