/- The contract of gauge.system: Gram's matrix and the right side, in memory of the call's own. -/
import Derived.Test.YtcnmjfngaahhmaaWalkDet
import Derived.Deep.Light
import Derived.StillTailTactics
import Derived.Deep.DeepCutAuto
set_option linter.unusedVariables false
set_option linter.unusedSimpArgs false
namespace Go.Proofs.Ytcnmjfngaahhmaa
open Go.RowKit
theorem rowIs_below {w w' : World} {b : Nat} {t : TypeId} {n : Nat} {f : Nat → Value} (h : w.rowIs b t n f) (hb : Below w.heap.size w w') : w'.rowIs b t n f :=
  h.of_block (hb.block b h.lt)
/-- The matrix and the right side while they are made. -/
structure Sys (w : World) (B bm br n t : Nat) (M : Nat → Nat → Int) (V : Nat → Int) : Prop where
  size : w.heap.size = B + 2 + t
  top : w.rowIs bm 23 n (fun i => if i < t then .slice (some ⟨B + 2 + i, 0, none⟩) n n else .slice none 0 0)
  row : ∀ i, i < t → w.rowIs (B + 2 + i) 3 n (fun j => .int .i64 (M i j))
  rt : w.rowIs br 3 n (fun i => .int .i64 (V i))
def BmBr (B bm br : Nat) : Prop := (bm = B ∧ br = B + 1) ∨ (bm = B + 1 ∧ br = B)
theorem Sys.congr {w : World} {B bm br n t : Nat} {M M' : Nat → Nat → Int} {V V' : Nat → Int} (h : Sys w B bm br n t M V) (e : ∀ i j, i < t → j < n → M i j = M' i j) (f : ∀ i, i < n → V i = V' i) : Sys w B bm br n t M' V' :=
  ⟨h.size, h.top, fun i hi => (h.row i hi).congr (fun j hj => by rw [e i j hi hj]), h.rt.congr (fun j hj => by rw [f j hj])⟩
theorem Sys.drew {w : World} {B bm br n t : Nat} {M : Nat → Nat → Int} {V : Nat → Int} (h : Sys w B bm br n t M V) : Sys w.drew B bm br n t M V := ⟨h.size, h.top.drew, fun i hi => (h.row i hi).drew, h.rt.drew⟩
theorem Sys.set {w : World} {B bm br n t : Nat} {M : Nat → Nat → Int} {V : Nat → Int} (h : Sys w B bm br n t M V) (hb : BmBr B bm br) (i j : Nat) (v : Int) : Sys (w.setCell ⟨B + 2 + i, j, none⟩ (.int .i64 v)) B bm br n t (fun x y => if x = i ∧ y = j then v else M x y) V := by
  have q1 : bm ≠ B + 2 + i := by rcases hb with ⟨a, b⟩ | ⟨a, b⟩ <;> omega
  have q2 : br ≠ B + 2 + i := by rcases hb with ⟨a, b⟩ | ⟨a, b⟩ <;> omega
  refine ⟨by simp [h.size], h.top.setOther q1 _, fun x hx => ?_, h.rt.setOther q2 _⟩
  by_cases e : x = i
  · subst e
    refine ((h.row x hx).set j _).congr (fun y hy => ?_)
    by_cases e2 : y = j
    · subst e2; rw [if_pos rfl, if_pos ⟨rfl, rfl⟩]
    · rw [if_neg e2, if_neg (fun q => e2 q.2)]
  · refine ((h.row x hx).setOther (by show B + 2 + x ≠ B + 2 + i; omega) _).congr (fun y hy => ?_)
    rw [if_neg (fun q => e q.1)]
theorem Sys.setV {w : World} {B bm br n t : Nat} {M : Nat → Nat → Int} {V : Nat → Int} (h : Sys w B bm br n t M V) (hb : BmBr B bm br) (i : Nat) (v : Int) : Sys (w.setCell ⟨br, i, none⟩ (.int .i64 v)) B bm br n t M (fun x => if x = i then v else V x) := by
  have q1 : bm ≠ br := by rcases hb with ⟨a, b⟩ | ⟨a, b⟩ <;> omega
  refine ⟨by simp [h.size], h.top.setOther q1 _, fun x hx => (h.row x hx).setOther (by show B + 2 + x ≠ br; rcases hb with ⟨a, b⟩ | ⟨a, b⟩ <;> omega) _, (h.rt.set i _).congr (fun y hy => ?_)⟩
  by_cases e : y = i
  · rw [if_pos e, if_pos e]
  · rw [if_neg e, if_neg e]
theorem sys_row {w : World} {B bm br n t : Nat} {M : Nat → Nat → Int} {V : Nat → Int} (h : Sys w B bm br n t M V) (hb : BmBr B bm br) (hz : ∀ j, M t j = 0) : Sys ((w.alloc (.cells (madeCells #[.int .i64 0] n) 3)).setCell ⟨bm, t, none⟩ (.slice (some ⟨B + 2 + t, 0, none⟩) n n)) B bm br n (t + 1) M V := by
  have hnew := World.rowIs_made w (.int .i64 0) n 3
  rw [h.size] at hnew
  refine ⟨by simp [h.size]; omega, ((h.top.alloc _).set t _).congr (fun j _ => ?_), fun j hj => ?_, ((h.rt.alloc _).setOther (by show br ≠ bm; rcases hb with ⟨a, b⟩ | ⟨a, b⟩ <;> omega) _)⟩
  · by_cases e : j = t
    · subst e; simp
    · rw [if_neg e]
      by_cases hlt : j < t
      · rw [if_pos hlt, if_pos (by omega)]
      · rw [if_neg hlt, if_neg (by omega)]
  · by_cases e : j = t
    · subst e
      exact (hnew.setOther (by show B + 2 + j ≠ bm; rcases hb with ⟨a, b⟩ | ⟨a, b⟩ <;> omega) _).congr (fun i _ => by rw [hz i])
    · exact ((h.row j (by omega)).alloc _).setOther (by show B + 2 + j ≠ bm; rcases hb with ⟨a, b⟩ | ⟨a, b⟩ <;> omega) _
theorem Sys.c0 {w : World} {B bm br n t : Nat} {M : Nat → Nat → Int} {V : Nat → Int} (h : Sys w B bm br n t M V) {i : Nat} (hi : i < n) (ht : i < t) : w.cell? ⟨bm, i, none⟩ = some (.slice (some ⟨B + 2 + i, 0, none⟩) n n) := by
  have := h.top.cell hi
  rw [if_pos ht] at this
  exact this
theorem Sys.c1 {w : World} {B bm br n t : Nat} {M : Nat → Nat → Int} {V : Nat → Int} (h : Sys w B bm br n t M V) {i j : Nat} (hi : i < t) (hj : j < n) : w.cell? ⟨B + 2 + i, j, none⟩ = some (.int .i64 (M i j)) := (h.row i hi).cell hj
theorem Sys.f1 {w : World} {B bm br n t : Nat} {M : Nat → Nat → Int} {V : Nat → Int} (h : Sys w B bm br n t M V) {i : Nat} (hi : i < t) (j : Nat) : w.frozen? ⟨B + 2 + i, j, none⟩ = false := (h.row i hi).frozen j
theorem Sys.mat {w : World} {B bm br n : Nat} {M : Nat → Nat → Int} {V : Nat → Int} (h : Sys w B bm br n n M V) : MatV w bm n M :=
  ⟨h.top.lt, fun i hi => ⟨B + 2 + i, n, h.c0 hi hi, Nat.le_refl _, (h.row i hi).lt, fun j hj => h.c1 hi hj⟩⟩
/-- A row of numbers of the call's own. -/
def VecV (w : World) (b n : Nat) (V : Nat → Int) : Prop := w.rowIs b 3 n (fun i => .int .i64 (V i))
def SysIs (w : World) (n : Nat) (M : Nat → Nat → Int) (V : Nat → Int) (e : Ending) (w' : World) : Prop :=
  ∃ bm br, e = .returned (.tuple #[.slice (some ⟨bm, 0, none⟩) n n, .slice (some ⟨br, 0, none⟩) n n]) ∧ w.heap.size ≤ bm ∧ w.heap.size ≤ br ∧ MatV w' bm n M ∧ VecV w' br n V ∧ Below w.heap.size w w'
theorem smN_bd {f : Nat → Int} {A : Int} : ∀ n, (∀ i, i < n → -A ≤ f i ∧ f i ≤ A) → -((n : Int) * A) ≤ smN n f ∧ smN n f ≤ (n : Int) * A
  | 0, _ => by simp [smN]
  | n + 1, h => by
    have a := smN_bd n (fun i hi => h i (by omega))
    have b := h n (by omega)
    have e : ((n + 1 : Nat) : Int) * A = (n : Int) * A + A := by rw [Int.natCast_add, Int.add_mul]; simp
    rw [e]
    unfold smN
    omega
def rowsB (n N : Nat) (R : Nat → Nat → Int) (H : Nat → Int) : Prop := (∀ i j, i < N → j < n → -10 ≤ R i j ∧ R i j ≤ 10) ∧ ∀ i, i < N → -1000 ≤ H i ∧ H i ≤ 1000
theorem gmM_bd {n N : Nat} {R : Nat → Nat → Int} {H : Nat → Int} (h : rowsB n N R H) (hN : N ≤ 8) {i j : Nat} (hi : i < n) (hj : j < n) : ∀ k, k ≤ N → -800 ≤ gmM R k i j ∧ gmM R k i j ≤ 800 := by
  intro k hk
  have := smN_bd (f := fun k => R k i * R k j) (A := 100) k (fun q hq => mul_bd (A := 10) (D := 10) (h.1 q i (by omega) hi) (h.1 q j (by omega) hj))
  unfold gmM
  omega
theorem gmR_bd {n N : Nat} {R : Nat → Nat → Int} {H : Nat → Int} (h : rowsB n N R H) (hN : N ≤ 8) {i : Nat} (hi : i < n) : ∀ k, k ≤ N → -80000 ≤ gmR R H k i ∧ gmR R H k i ≤ 80000 := by
  intro k hk
  have := smN_bd (f := fun k => R k i * H k) (A := 10000) k (fun q hq => mul_bd (A := 10) (D := 1000) (h.1 q i (by omega) hi) (h.2 q (by omega)))
  unfold gmR
  omega
end Go.Proofs.Ytcnmjfngaahhmaa
