/- The contracts of spread.Net's isNode, isAuthor and Held. -/
import Derived.Test.YtbcehnhiedbbbaaDoorWalkSpn
import Derived.Test.YtbcehnhiedbbbaaDoorSpA
import Derived.Test.YtbcehnhiedbbbaaDoorWalkFl
import Derived.Laws.OwnMore
set_option linter.unusedVariables false
set_option linter.unusedSimpArgs false
namespace Go.Proofs.YtbcehnhiedbbbaaDoor
open Go.RowKit
theorem c_isNode (nb : Nat) (ha : Option Addr) (n hc : Nat) (node : Int) (w : World) (h2 : w.cell? ⟨nb, 2, none⟩ = some (.slice ha n hc)) :
    Calls Tryd.prog 50 #[.pointer (some ⟨nb, 0, none⟩), .int .i64 node] w fun e w' => e = .returned (.bool (decide (0 ≤ node ∧ node < (n : Int)))) ∧ w = w' := by
  by_cases h0 : 0 ≤ node
  · have d0 := decide_eq_true h0
    by_cases h1 : node < (n : Int)
    · have d1 := decide_eq_true h1
      rw [decide_eq_true (show 0 ≤ node ∧ node < (n : Int) from ⟨h0, h1⟩)]
      have hgen := sgen; have hgen2 := sgen2; have hgen3 := sgen3; go_enter Tryd.func50, Tryd.ntmps50
      go_wp2_with fail
      go_ret
      exact ⟨rfl, rfl⟩
    · have d1 := decide_eq_false h1
      rw [decide_eq_false (show ¬ (0 ≤ node ∧ node < (n : Int)) from fun h => h1 h.2)]
      have hgen := sgen; have hgen2 := sgen2; have hgen3 := sgen3; go_enter Tryd.func50, Tryd.ntmps50
      go_wp2_with fail
      go_ret
      exact ⟨rfl, rfl⟩
  · have d0 := decide_eq_false h0
    rw [decide_eq_false (show ¬ (0 ≤ node ∧ node < (n : Int)) from fun h => h0 h.1)]
    have hgen := sgen; have hgen2 := sgen2; have hgen3 := sgen3; go_enter Tryd.func50, Tryd.ntmps50
    go_wp2_with fail
    go_ret
    exact ⟨rfl, rfl⟩
theorem c_isAuthor (nb : Nat) (ka : Option Addr) (n kc : Nat) (au : Int) (w : World) (h0 : w.cell? ⟨nb, 0, none⟩ = some (.slice ka n kc)) :
    Calls Tryd.prog 51 #[.pointer (some ⟨nb, 0, none⟩), .int .i64 au] w fun e w' => e = .returned (.bool (decide (0 ≤ au ∧ au < (n : Int)))) ∧ w = w' := by
  by_cases h0 : 0 ≤ au
  · have d0 := decide_eq_true h0
    by_cases h1 : au < (n : Int)
    · have d1 := decide_eq_true h1
      rw [decide_eq_true (show 0 ≤ au ∧ au < (n : Int) from ⟨h0, h1⟩)]
      have hgen := sgen; have hgen2 := sgen2; have hgen3 := sgen3; go_enter Tryd.func51, Tryd.ntmps51
      go_wp2_with fail
      go_ret
      exact ⟨rfl, rfl⟩
    · have d1 := decide_eq_false h1
      rw [decide_eq_false (show ¬ (0 ≤ au ∧ au < (n : Int)) from fun h => h1 h.2)]
      have hgen := sgen; have hgen2 := sgen2; have hgen3 := sgen3; go_enter Tryd.func51, Tryd.ntmps51
      go_wp2_with fail
      go_ret
      exact ⟨rfl, rfl⟩
  · have d0 := decide_eq_false h0
    rw [decide_eq_false (show ¬ (0 ≤ au ∧ au < (n : Int)) from fun h => h0 h.1)]
    have hgen := sgen; have hgen2 := sgen2; have hgen3 := sgen3; go_enter Tryd.func51, Tryd.ntmps51
    go_wp2_with fail
    go_ret
    exact ⟨rfl, rfl⟩
theorem ix_Hr {b off n cap i : Nat} (hi : i < n) : ∀ w, (Instr.indexAt 95 (.slice (some ⟨b, off, none⟩) n cap) (.int .i64 i)).run Tryd.prog w = .ok (.pointer (some ⟨b, off + i, none⟩)) w := by
  intro w
  have h1 : (i : Int) < (n : Int) := by omega
  go_simp
/-- Notice t lies at place a of the row in block g. -/
structure NtAt (w : World) (g a : Nat) (t : Nt) : Prop where
  c0 : w.cell? ⟨g, a * 4, none⟩ = some (.int .i64 t.au)
  c1 : w.cell? ⟨g, a * 4 + 1, none⟩ = some (.int .i64 t.no)
  c2 : w.cell? ⟨g, a * 4 + 2, none⟩ = some (.string t.tx)
  c3 : w.cell? ⟨g, a * 4 + 3, none⟩ = some (.int .i64 t.sm)
  lt : g < w.heap.size
theorem c_Held_node (nb : Nat) (ob n hc : Nat) (node au : Int) (w : World) (h2 : w.cell? ⟨nb, 2, none⟩ = some (.slice (some ⟨ob, 0, none⟩) n hc)) (hnb : nb < w.heap.size) (h : ¬ (0 ≤ node ∧ node < (n : Int))) :
    Calls Tryd.prog 25 #[.pointer (some ⟨nb, 0, none⟩), .int .i64 node, .int .i64 au] w fun e w' => e = .returned (.tuple #[.agg #[.int .i64 0, .int .i64 0, .string ⟨#[]⟩, .int .i64 0], .int .i64 3]) ∧ Below w.heap.size w w' := by
  have hd := decide_eq_false h
  have hne : ¬ nb = w.heap.size := by omega
  have hgen := sgen; have hgen2 := sgen2; have hgen3 := sgen3; go_enter Tryd.func25, Tryd.ntmps25
  go_wp2_with (go_at_call 50; (refine (c_isNode nb (some ⟨ob, 0, none⟩) n hc _ _ (by (first | assumption | go_simp))).mono ?_); rintro e w' ⟨rfl, rfl⟩)
  refine bodyPost_ret (v := .tuple #[.agg #[.int .i64 0, .int .i64 0, .string ⟨#[]⟩, .int .i64 0], .int .i64 3]) (by simp only [results, Tryd.results25]; go_simp) rfl ⟨rfl, ?_⟩
  exact belz
theorem c_Held_name (nb : Nat) (ob n hc : Nat) (ka : Option Addr) (k kc : Nat) (node au : Int) (w : World) (h0 : w.cell? ⟨nb, 0, none⟩ = some (.slice ka k kc)) (h2 : w.cell? ⟨nb, 2, none⟩ = some (.slice (some ⟨ob, 0, none⟩) n hc)) (hnb : nb < w.heap.size) (h : 0 ≤ node ∧ node < (n : Int)) (ha : ¬ (0 ≤ au ∧ au < (k : Int))) :
    Calls Tryd.prog 25 #[.pointer (some ⟨nb, 0, none⟩), .int .i64 node, .int .i64 au] w fun e w' => e = .returned (.tuple #[.agg #[.int .i64 0, .int .i64 0, .string ⟨#[]⟩, .int .i64 0], .int .i64 5]) ∧ Below w.heap.size w w' := by
  have hd := decide_eq_true h
  have hd2 := decide_eq_false ha
  have hne : ¬ nb = w.heap.size := by omega
  have hgen := sgen; have hgen2 := sgen2; have hgen3 := sgen3; go_enter Tryd.func25, Tryd.ntmps25
  go_wp2_with (first | (go_at_call 50; (refine (c_isNode nb (some ⟨ob, 0, none⟩) n hc _ _ (by (first | assumption | go_simp))).mono ?_); rintro e w' ⟨rfl, rfl⟩) | (go_at_call 51; (refine (c_isAuthor nb ka k kc _ _ (by (first | assumption | go_simp))).mono ?_); rintro e w' ⟨rfl, rfl⟩))
  refine bodyPost_ret (v := .tuple #[.agg #[.int .i64 0, .int .i64 0, .string ⟨#[]⟩, .int .i64 0], .int .i64 5]) (by simp only [results, Tryd.results25]; go_simp) rfl ⟨rfl, ?_⟩
  exact belz
theorem c_Held_at (nb : Nat) (ob n hc : Nat) (ka : Option Addr) (k kc : Nat) (i a g gc : Nat) (t : Nt) (w : World) (h0 : w.cell? ⟨nb, 0, none⟩ = some (.slice ka k kc)) (h2 : w.cell? ⟨nb, 2, none⟩ = some (.slice (some ⟨ob, 0, none⟩) n hc)) (hnb : nb < w.heap.size) (hi : i < n) (ha : a < k) (hob : ob < w.heap.size) (hr : w.cell? ⟨ob, i, none⟩ = some (.slice (some ⟨g, 0, none⟩) k gc)) (ht : NtAt w g a t) :
    Calls Tryd.prog 25 #[.pointer (some ⟨nb, 0, none⟩), .int .i64 (i : Int), .int .i64 (a : Int)] w fun e w' => e = .returned (if t.no = 0 then .tuple #[.agg #[.int .i64 0, .int .i64 0, .string ⟨#[]⟩, .int .i64 0], .int .i64 6] else .tuple #[.agg #[.int .i64 t.au, .int .i64 t.no, .string t.tx, .int .i64 t.sm], .int .i64 0]) ∧ Below w.heap.size w w' := by
  have hd := decide_eq_true (show 0 ≤ (i : Int) ∧ (i : Int) < (n : Int) from ⟨by omega, by omega⟩)
  have hd2 := decide_eq_true (show 0 ≤ (a : Int) ∧ (a : Int) < (k : Int) from ⟨by omega, by omega⟩)
  have hne : ¬ nb = w.heap.size := by omega
  have hne2 : ¬ ob = w.heap.size := by omega
  obtain ⟨q0, q1, q2, q3, hg⟩ := ht
  have hne3 : ¬ g = w.heap.size := by omega
  have ix1 := @ix_Hr ob 0 n hc i hi
  have ix2 := @ix_Nt (some ⟨g, 0, none⟩) g 0 k gc a rfl ha
  simp only [Nat.zero_add] at ix1 ix2
  obtain ⟨t0, t1, t2, t3⟩ := t
  dsimp only at q0 q1 q2 q3
  by_cases hz : t1 = 0
  · subst hz
    rw [if_pos rfl]
    have hgen := sgen; have hgen2 := sgen2; have hgen3 := sgen3; go_enter Tryd.func25, Tryd.ntmps25
    go_wp2_with (first | (go_at_call 50; (refine (c_isNode nb (some ⟨ob, 0, none⟩) n hc _ _ (by (first | assumption | go_simp))).mono ?_); rintro e w' ⟨rfl, rfl⟩) | (go_at_call 51; (refine (c_isAuthor nb ka k kc _ _ (by (first | assumption | go_simp))).mono ?_); rintro e w' ⟨rfl, rfl⟩))
    refine bodyPost_ret (v := .tuple #[.agg #[.int .i64 0, .int .i64 0, .string ⟨#[]⟩, .int .i64 0], .int .i64 6]) (by simp only [results, Tryd.results25]; go_simp) rfl ⟨rfl, ?_⟩
    exact belz
  · have e : (t1 == 0) = false := by simpa using hz
    rw [if_neg hz]
    have hgen := sgen; have hgen2 := sgen2; have hgen3 := sgen3; go_enter Tryd.func25, Tryd.ntmps25
    go_wp2_with (first | (go_at_call 50; (refine (c_isNode nb (some ⟨ob, 0, none⟩) n hc _ _ (by (first | assumption | go_simp))).mono ?_); rintro e w' ⟨rfl, rfl⟩) | (go_at_call 51; (refine (c_isAuthor nb ka k kc _ _ (by (first | assumption | go_simp))).mono ?_); rintro e w' ⟨rfl, rfl⟩))
    refine bodyPost_ret (v := .tuple #[.agg #[.int .i64 t0, .int .i64 t1, .string t2, .int .i64 t3], .int .i64 0]) (by simp only [results, Tryd.results25]; go_simp) rfl ⟨rfl, ?_⟩
    exact belz
end Go.Proofs.YtbcehnhiedbbbaaDoor
