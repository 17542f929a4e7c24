/- The walk through the law ContradictChangeds where all is sound. -/
import Derived.Test.YtdpddidfdifbhaaWalkChl
set_option linter.unusedVariables false
set_option linter.unusedSimpArgs false
namespace Go.Proofs.Ytdpddidfdifbhaa
open Go.RowKit
/-- Pairs in a slice. -/
def PrSlice (w : World) (a : Option Addr) (P : List (Nat × Nat)) : Prop := ∀ k (p : Nat × Nat), P[k]? = some p → ∃ b off, a = some ⟨b, off, none⟩ ∧ b < w.heap.size ∧ w.cell? ⟨b, off + k * 2, none⟩ = some (.int .i64 p.1) ∧ w.cell? ⟨b, off + k * 2 + 1, none⟩ = some (.int .i64 p.2)
theorem PrSlice.below {B : Nat} {w w' : World} {a : Option Addr} {P : List (Nat × Nat)} (h : PrSlice w a P) (hs : w.heap.size ≤ B) (hb : Below B w w') : PrSlice w' a P := by
  intro k p hk
  obtain ⟨b, off, h1, h2, c0, c1⟩ := h k p hk
  exact ⟨b, off, h1, Nat.lt_of_lt_of_le h2 hb.size, (hb.cell (p := ⟨b, _, none⟩) (Nat.lt_of_lt_of_le h2 hs)).trans c0, (hb.cell (p := ⟨b, _, none⟩) (Nat.lt_of_lt_of_le h2 hs)).trans c1⟩
theorem prCells_get : ∀ (P : List (Nat × Nat)) (k : Nat) (p : Nat × Nat), P[k]? = some p → (prCells P)[k * 2]? = some (.int .i64 p.1) ∧ (prCells P)[k * 2 + 1]? = some (.int .i64 p.2)
  | [], k, p, h => by simp at h
  | q :: P, 0, p, h => by simp at h; subst h; exact ⟨rfl, rfl⟩
  | q :: P, k + 1, p, h => by
    have e := prCells_get P k p (by simpa using h)
    rw [show (k + 1) * 2 = k * 2 + 1 + 1 by omega]
    exact e
theorem own_pr {w : World} {base : Nat} {v : Value} {P : List (Nat × Nat)} (h : w.ownsRow base 65 2 v P.length (prCells P)) : ∃ a cap, v = .slice a P.length cap ∧ P.length ≤ cap ∧ PrSlice w a P := by
  rcases own_form h with ⟨h1, h2⟩ | ⟨g, cap, h1, h2, h3, h4, h5, h6, h7⟩
  · refine ⟨none, 0, by rw [h1, h2], by omega, fun k p hk => ?_⟩
    have : P = [] := List.length_eq_zero_iff.1 h2
    rw [this] at hk; simp at hk
  · refine ⟨some ⟨g, 0, none⟩, cap, h1, h2, fun k p hk => ?_⟩
    have hl : k < P.length := (List.getElem?_eq_some_iff.1 hk).1
    obtain ⟨e1, e2⟩ := prCells_get P k p hk
    refine ⟨g, 0, rfl, h5, ?_, ?_⟩
    · rw [Nat.zero_add, h6 _ (by omega), e1]
    · rw [Nat.zero_add, h6 _ (by omega), e2]
/-- Two pairs are alike. -/
theorem eqPair (a b c d : Int) (w : World) : (Op.equalIn 10000 65 (.agg #[.int .i64 a, .int .i64 b]) (.agg #[.int .i64 c, .int .i64 d])).run Try.prog w = .ok (a == c && b == d) w := by
  have u3 := Try.underlying3
  have a3 := Try.isAgg3
  have z3 := Try.sizeOf3
  rw [show (10000 : Nat) = 9999 + 1 from rfl, Op.equalIn]
  simp only [Sem.run_bind, run_underlying Try.underlying65, Result.andThen_ok]
  simp only [Std.Legacy.Range.forIn_eq_forIn_range', Std.Legacy.Range.size, Nat.sub_zero, Nat.add_sub_cancel, Nat.div_one, List.range'_succ, List.range'_zero, List.forIn_cons, List.forIn_nil]
  go_simp
  by_cases h1 : a = c <;> by_cases h2 : b = d <;> simp [h1, h2]
theorem ix_Pr {a : Option Addr} {b off len cap k : Nat} (ha : a = some ⟨b, off, none⟩) (hk : k < len) : ∀ w, (Instr.indexAt 62 (.slice a len cap) (.int .i64 k)).run Try.prog w = .ok (.pointer (some ⟨b, off + k * 2, none⟩)) w := by
  intro w
  subst ha
  have h1 : (k : Int) < (len : Int) := by omega
  go_simp
set_option maxRecDepth 100000 in
set_option maxHeartbeats 8000000 in
theorem walk_chl_ok (n : Nat) (a : Option Addr) (cap : Nat) (l : List Bd) (m : Bd) (w : World) (hs : BdSlice w a l) (hr : (l.length + 1) * 32 ≤ 140737488355328) (hnil : a = none → cap = 0) (D E : Nat → Nat → Int) (n12 : n ≤ 12)
    (HG : Hid (∀ w1, BdSlice w1 a l → Calls Try.prog 37 #[.int .i64 n, .slice a l.length cap, .agg #[.int .i64 m.a, .int .i64 m.b, .int .i64 m.lo, .int .i64 m.hi]] w1 fun e w' => ∃ a7 c7, e = .returned (.tuple #[.slice a7 (ps (chg D E) n n).length c7, .int .i64 0]) ∧ (ps (chg D E) n n).length ≤ c7 ∧ PrSlice w' a7 (ps (chg D E) n n) ∧ Below w1.heap.size w1 w'))
    (HT : Hid (∀ w1, BdSlice w1 a l → Calls Try.prog 28 #[.int .i64 n, .slice a l.length cap] w1 fun e w' => ∃ a' cap', e = .returned (.tuple #[.slice a' n cap', .int .i64 0]) ∧ n ≤ cap' ∧ SpMat w' a' (tgt n D) ∧ Below w1.heap.size w1 w'))
    (HA : Hid (∀ w1 g c, l.length + 1 ≤ c → BdSlice w1 g (l ++ [m]) → Calls Try.prog 28 #[.int .i64 n, .slice g (l.length + 1) c] w1 fun e w' => ∃ a' cap', e = .returned (.tuple #[.slice a' n cap', .int .i64 0]) ∧ n ≤ cap' ∧ SpMat w' a' (tgt n E) ∧ Below w1.heap.size w1 w')) :
    Calls Try.prog 11 #[.int .i64 n, .slice a l.length cap, .agg #[.int .i64 m.a, .int .i64 m.b, .int .i64 m.lo, .int .i64 m.hi]] w fun e w' => e = .returned (.bool true) ∧ Below w.heap.size w w' := by
  obtain ⟨i0, hi0, iz0, iz1, iz2⟩ := info_parts info_Bd
  have HLC := Lib.hid (bdCells_length l)
  have HNIL := Lib.hid hnil
  obtain ⟨P, hP⟩ : ∃ P, ps (chg D E) n n = P := ⟨_, rfl⟩
  have hPl : P.length ≤ 144 := by
    have h1 := ps_len (chg D E) n n
    have h2 : n * n ≤ 12 * 12 := Nat.mul_le_mul n12 n12
    rw [hP] at h1
    omega
  rw [hP] at HG
  have HP := Lib.hid hP
  clear hnil hP
  have hgen := sgen; have hgen2 := sgen2; have hgen3 := sgen3; go_enter Try.func11, Try.ntmps11
  go_upto_region 5 with (first | (go_at_call 33; (with_reducible refine (c_contradictWorks _).mono ?_); rintro e w1 ⟨rfl, hb⟩; have hz := hb.size; (try simp only [World.size_alloc, World.size_setCell, World.size_drew, World.heap_drewN] at hz); (try have h_w_0 : w.heap.size < w1.heap.size := by omega); (try have e_w_0 : ¬ w.heap.size = w1.heap.size := by omega); (try have d_w_0 : ¬ w1.heap.size = w.heap.size := by omega); (try (refine bcUse (n := w.heap.size) hb ?_ ?_; (focus ((try simp only [World.size_alloc, World.size_setCell, World.size_drew, World.heap_drewN]); omega)); intro _ _))) | (go_at_call 37; (with_reducible refine (HG.out _ (hs.below (Nat.le_refl _) (by (repeat' (first | (with_reducible exact Below.refl _ _) | (with_reducible assumption) | (with_reducible refine Below.call ?_ ?_ (by with_reducible assumption)) | (with_reducible refine Below.alloc ?_ ?_ _) | (with_reducible refine Below.drew ?_) | (with_reducible refine below_drewN ?_ _) | (with_reducible refine Below.setCell ?_ ?_ _) | (with_reducible exact Nat.le_refl _) | omega | (simp only [World.size_alloc, World.size_setCell, World.size_drew, World.heap_drewN] at *; omega)))))).mono ?_); rintro e w2 ⟨a7, c7, rfl, hc7, hp7, hb⟩; have hz := hb.size; (try simp only [World.size_alloc, World.size_setCell, World.size_drew, World.heap_drewN] at hz); (try have h_w_0 : w.heap.size < w2.heap.size := by omega); (try have e_w_0 : ¬ w.heap.size = w2.heap.size := by omega); (try have d_w_0 : ¬ w2.heap.size = w.heap.size := by omega); (try (refine bcUse (n := w.heap.size) hb ?_ ?_; (focus ((try simp only [World.size_alloc, World.size_setCell, World.size_drew, World.heap_drewN]); omega)); intro _ _)); (try have h_w1_0 : w1.heap.size < w2.heap.size := by omega); (try have e_w1_0 : ¬ w1.heap.size = w2.heap.size := by omega); (try have d_w1_0 : ¬ w2.heap.size = w1.heap.size := by omega); (try (refine bcUse (n := w1.heap.size) hb ?_ ?_; (focus ((try simp only [World.size_alloc, World.size_setCell, World.size_drew, World.heap_drewN]); omega)); intro _ _))) | (go_at_call 28; (with_reducible refine (HT.out _ (hs.below (Nat.le_refl _) (by (repeat' (first | (with_reducible exact Below.refl _ _) | (with_reducible assumption) | (with_reducible refine Below.call ?_ ?_ (by with_reducible assumption)) | (with_reducible refine Below.alloc ?_ ?_ _) | (with_reducible refine Below.drew ?_) | (with_reducible refine below_drewN ?_ _) | (with_reducible refine Below.setCell ?_ ?_ _) | (with_reducible exact Nat.le_refl _) | omega | (simp only [World.size_alloc, World.size_setCell, World.size_drew, World.heap_drewN] at *; omega)))))).mono ?_); rintro e w3 ⟨a9, c9, rfl, hc9, hm9, hb⟩; have hz := hb.size; (try simp only [World.size_alloc, World.size_setCell, World.size_drew, World.heap_drewN] at hz); (try have h_w_0 : w.heap.size < w3.heap.size := by omega); (try have e_w_0 : ¬ w.heap.size = w3.heap.size := by omega); (try have d_w_0 : ¬ w3.heap.size = w.heap.size := by omega); (try (refine bcUse (n := w.heap.size) hb ?_ ?_; (focus ((try simp only [World.size_alloc, World.size_setCell, World.size_drew, World.heap_drewN]); omega)); intro _ _)); (try have h_w1_0 : w1.heap.size < w3.heap.size := by omega); (try have e_w1_0 : ¬ w1.heap.size = w3.heap.size := by omega); (try have d_w1_0 : ¬ w3.heap.size = w1.heap.size := by omega); (try (refine bcUse (n := w1.heap.size) hb ?_ ?_; (focus ((try simp only [World.size_alloc, World.size_setCell, World.size_drew, World.heap_drewN]); omega)); intro _ _)); (try have h_w2_0 : w2.heap.size < w3.heap.size := by omega); (try have e_w2_0 : ¬ w2.heap.size = w3.heap.size := by omega); (try have d_w2_0 : ¬ w3.heap.size = w2.heap.size := by omega); (try (refine bcUse (n := w2.heap.size) hb ?_ ?_; (focus ((try simp only [World.size_alloc, World.size_setCell, World.size_drew, World.heap_drewN]); omega)); intro _ _))))
  have hbw3 : Below w.heap.size w w3 := by (repeat' (first | (with_reducible exact Below.refl _ _) | (with_reducible assumption) | (with_reducible refine Below.call ?_ ?_ (by with_reducible assumption)) | (with_reducible refine Below.alloc ?_ ?_ _) | (with_reducible refine Below.drew ?_) | (with_reducible refine below_drewN ?_ _) | (with_reducible refine Below.setCell ?_ ?_ _) | (with_reducible exact Nat.le_refl _) | omega | (simp only [World.size_alloc, World.size_setCell, World.size_drew, World.heap_drewN] at *; omega)))
  have hz3 := hbw3.size
  have hz3' : w.heap.size < w3.heap.size := by omega
  have HS3 := Lib.hid (hs.below (Nat.le_refl _) hbw3)
  have HM9 := Lib.hid hm9
  have HP7 := Lib.hid (show PrSlice w3 a7 P from hp7.below (Nat.le_refl _) (by (repeat' (first | (with_reducible exact Below.refl _ _) | (with_reducible assumption) | (with_reducible refine Below.call ?_ ?_ (by with_reducible assumption)) | (with_reducible refine Below.alloc ?_ ?_ _) | (with_reducible refine Below.drew ?_) | (with_reducible refine below_drewN ?_ _) | (with_reducible refine Below.setCell ?_ ?_ _) | (with_reducible exact Nat.le_refl _) | omega | (simp only [World.size_alloc, World.size_setCell, World.size_drew, World.heap_drewN] at *; omega)))))
  clear hm9 hp7
  go_cut [11] (fun x11 wc => ∃ g c, x11 = .slice (some ⟨g, 0, none⟩) (l.length + 1) c ∧ l.length + 1 ≤ c ∧ BdOwn wc g (l ++ [m]) ∧ Below w3.heap.size w3 wc)
  case first =>
    go_wp2_with fail
    go_region_held3 (fun w' => w'.cell? ⟨w.heap.size, 0, none⟩ = some (.int .i64 m.a) ∧ w'.cell? ⟨w.heap.size, 1, none⟩ = some (.int .i64 m.b) ∧ w'.cell? ⟨w.heap.size, 2, none⟩ = some (.int .i64 m.lo) ∧ w'.cell? ⟨w.heap.size, 3, none⟩ = some (.int .i64 m.hi)) (refine ⟨?_, ?_, ?_, ?_⟩ <;> (first | (go_simp; done) | go_keep)) (first | (refine step_append_any (by rfl) _ _ _ (by rfl) w3.heap.size 47 i0 _ 4 32 Try.underlying41 hi0 iz0 iz1 iz2 rfl (by omega) _ 0 [] (by rfl) (World.ownsRow_made w3 #[] 0 (Nat.le_refl _) (Nat.zero_le _) rfl).drew (.slice a l.length cap) l.length (bdCells l) (by rfl) (srcOk_of (HS3.out.below (Nat.le_refl _) (by (repeat' (first | (with_reducible exact Below.refl _ _) | (with_reducible assumption) | (with_reducible refine Below.call ?_ ?_ (by with_reducible assumption)) | (with_reducible refine Below.alloc ?_ ?_ _) | (with_reducible refine Below.drew ?_) | (with_reducible refine below_drewN ?_ _) | (with_reducible refine Below.setCell ?_ ?_ _) | (with_reducible exact Nat.le_refl _) | omega | (simp only [World.size_alloc, World.size_setCell, World.size_drew, World.heap_drewN] at *; omega))))) HNIL.out) HLC.out (bdCells_one l) (by unfold maxLen; omega) (by omega) (by (try simp); (try omega)) ?_; intro v4 w4 ho4a hg4; have ho4 : w4.ownsRow w3.heap.size 47 4 v4 l.length (bdCells l) := (by simpa using ho4a); have hb4 : Below w3.heap.size w3 w4 := Below.grown (by (repeat' (first | (with_reducible exact Below.refl _ _) | (with_reducible assumption) | (with_reducible refine Below.call ?_ ?_ (by with_reducible assumption)) | (with_reducible refine Below.alloc ?_ ?_ _) | (with_reducible refine Below.drew ?_) | (with_reducible refine below_drewN ?_ _) | (with_reducible refine Below.setCell ?_ ?_ _) | (with_reducible exact Nat.le_refl _) | omega | (simp only [World.size_alloc, World.size_setCell, World.size_drew, World.heap_drewN] at *; omega)))) hg4 (by (try simp); (try omega)) (fun q hq => by simp [Value.ownBlock] at hq; omega); have hz4 := hb4.size; have hw4 : w.heap.size < w4.heap.size := (by omega); have kk4 := grown_cell hg4 (b := w.heap.size) (by (try simp); omega) (fun q hq => by simp [Value.ownBlock] at hq; omega)) | (refine step_append_any (by rfl) _ _ _ (by rfl) w3.heap.size 47 i0 _ 4 32 Try.underlying41 hi0 iz0 iz1 iz2 rfl (by omega) _ 0 [] (by rfl) ((World.ownsRow_made w3 #[] 0 (Nat.le_refl _) (Nat.zero_le _) rfl).alloc _).drew (.slice a l.length cap) l.length (bdCells l) (by rfl) (srcOk_of (HS3.out.below (Nat.le_refl _) (by (repeat' (first | (with_reducible exact Below.refl _ _) | (with_reducible assumption) | (with_reducible refine Below.call ?_ ?_ (by with_reducible assumption)) | (with_reducible refine Below.alloc ?_ ?_ _) | (with_reducible refine Below.drew ?_) | (with_reducible refine below_drewN ?_ _) | (with_reducible refine Below.setCell ?_ ?_ _) | (with_reducible exact Nat.le_refl _) | omega | (simp only [World.size_alloc, World.size_setCell, World.size_drew, World.heap_drewN] at *; omega))))) HNIL.out) HLC.out (bdCells_one l) (by unfold maxLen; omega) (by omega) (by (try simp); (try omega)) ?_; intro v4 w4 ho4a hg4; have ho4 : w4.ownsRow w3.heap.size 47 4 v4 l.length (bdCells l) := (by simpa using ho4a); have hb4 : Below w3.heap.size w3 w4 := Below.grown (by (repeat' (first | (with_reducible exact Below.refl _ _) | (with_reducible assumption) | (with_reducible refine Below.call ?_ ?_ (by with_reducible assumption)) | (with_reducible refine Below.alloc ?_ ?_ _) | (with_reducible refine Below.drew ?_) | (with_reducible refine below_drewN ?_ _) | (with_reducible refine Below.setCell ?_ ?_ _) | (with_reducible exact Nat.le_refl _) | omega | (simp only [World.size_alloc, World.size_setCell, World.size_drew, World.heap_drewN] at *; omega)))) hg4 (by (try simp); (try omega)) (fun q hq => by simp [Value.ownBlock] at hq; omega); have hz4 := hb4.size; have hw4 : w.heap.size < w4.heap.size := (by omega); have kk4 := grown_cell hg4 (b := w.heap.size) (by (try simp); omega) (fun q hq => by simp [Value.ownBlock] at hq; omega); have HNB : Hid (w4.heap[w3.heap.size + 1]? = some (.cells #[.int .i64 m.a, .int .i64 m.b, .int .i64 m.lo, .int .i64 m.hi] 47 (0, 0))) := Lib.hid ((hg4.block (w3.heap.size + 1) (by (try simp); (try omega)) (by simp [Value.ownBlock])).trans (by have e := heap_alloc_new (w3.alloc (.cells #[] 47 (0, 0))) (.cells #[.int .i64 m.a, .int .i64 m.b, .int .i64 m.lo, .int .i64 m.hi] 47 (0, 0)); rw [show (w3.alloc (.cells #[] 47 (0, 0))).heap.size = w3.heap.size + 1 from by simp] at e; exact e))) | (refine step_append_any (by rfl) _ _ _ (by rfl) w3.heap.size 47 i0 _ 4 32 Try.underlying41 hi0 iz0 iz1 iz2 rfl (by omega) (.slice (some ⟨w3.heap.size + 1, 0, none⟩) 0 0) 0 [] (by rfl) (by have o := World.ownsRow_made (base := w3.heap.size) (size := 4) (e := 47) (w3.alloc (.cells #[.int .i64 m.a, .int .i64 m.b, .int .i64 m.lo, .int .i64 m.hi] 47 (0, 0))) #[] 0 (by simp) (Nat.zero_le _) rfl; rw [show (w3.alloc (.cells #[.int .i64 m.a, .int .i64 m.b, .int .i64 m.lo, .int .i64 m.hi] 47 (0, 0))).heap.size = w3.heap.size + 1 from by simp] at o; exact o.drew) (.slice a l.length cap) l.length (bdCells l) (by rfl) (srcOk_of (HS3.out.below (Nat.le_refl _) (by (repeat' (first | (with_reducible exact Below.refl _ _) | (with_reducible assumption) | (with_reducible refine Below.call ?_ ?_ (by with_reducible assumption)) | (with_reducible refine Below.alloc ?_ ?_ _) | (with_reducible refine Below.drew ?_) | (with_reducible refine below_drewN ?_ _) | (with_reducible refine Below.setCell ?_ ?_ _) | (with_reducible exact Nat.le_refl _) | omega | (simp only [World.size_alloc, World.size_setCell, World.size_drew, World.heap_drewN] at *; omega))))) HNIL.out) HLC.out (bdCells_one l) (by unfold maxLen; omega) (by omega) (by (try simp); (try omega)) ?_; intro v4 w4 ho4a hg4; have ho4 : w4.ownsRow w3.heap.size 47 4 v4 l.length (bdCells l) := (by simpa using ho4a); have hb4 : Below w3.heap.size w3 w4 := Below.grown (by (repeat' (first | (with_reducible exact Below.refl _ _) | (with_reducible assumption) | (with_reducible refine Below.call ?_ ?_ (by with_reducible assumption)) | (with_reducible refine Below.alloc ?_ ?_ _) | (with_reducible refine Below.drew ?_) | (with_reducible refine below_drewN ?_ _) | (with_reducible refine Below.setCell ?_ ?_ _) | (with_reducible exact Nat.le_refl _) | omega | (simp only [World.size_alloc, World.size_setCell, World.size_drew, World.heap_drewN] at *; omega)))) hg4 (by (try simp); (try omega)) (fun q hq => by simp [Value.ownBlock] at hq; omega); have hz4 := hb4.size; have hw4 : w.heap.size < w4.heap.size := (by omega); have kk4 := grown_cell hg4 (b := w.heap.size) (by (try simp); omega) (fun q hq => by simp [Value.ownBlock] at hq; omega); have HNB : Hid (w4.heap[w3.heap.size]? = some (.cells #[.int .i64 m.a, .int .i64 m.b, .int .i64 m.lo, .int .i64 m.hi] 47 (0, 0))) := Lib.hid ((hg4.block w3.heap.size (by (try simp); (try omega)) (by simp [Value.ownBlock])).trans (by have e := (Below.heap_alloc (w3.alloc (.cells #[.int .i64 m.a, .int .i64 m.b, .int .i64 m.lo, .int .i64 m.hi] 47 (0, 0))) (.cells #[] 47 (0, 0)) w3.heap.size (by simp)).trans (heap_alloc_new w3 (.cells #[.int .i64 m.a, .int .i64 m.b, .int .i64 m.lo, .int .i64 m.hi] 47 (0, 0))); exact e))) | (refine step_append_lies _ (by rfl) _ _ _ (by rfl) w3.heap.size 47 i0 _ 4 32 Try.underlying41 hi0 iz0 iz1 iz2 rfl (by omega) v4 l.length _ (by rfl) (ho4.alloc _) ⟨w4.heap.size, 0, none⟩ 1 1 [.int .i64 m.a, .int .i64 m.b, .int .i64 m.lo, .int .i64 m.hi] (by rfl) (by rfl) (World.news_of_block (cs := #[.int .i64 m.a, .int .i64 m.b, .int .i64 m.lo, .int .i64 m.hi]) (t := 47) (fr := (0, 0)) (heap_alloc_new w4 _)) (by simp [Value.oneCell']) (by omega) (by unfold maxLen; omega) (by omega) (by (try simp); omega) (w4.heap.size + 1) (by simp) ?_; intro gg cap5 w5 hown5 hgrow5 _ hlt5; have hb5 : Below w3.heap.size w3 w5 := Below.grown (by (repeat' (first | (with_reducible exact Below.refl _ _) | (with_reducible assumption) | (with_reducible refine Below.call ?_ ?_ (by with_reducible assumption)) | (with_reducible refine Below.alloc ?_ ?_ _) | (with_reducible refine Below.drew ?_) | (with_reducible refine below_drewN ?_ _) | (with_reducible refine Below.setCell ?_ ?_ _) | (with_reducible exact Nat.le_refl _) | omega | (simp only [World.size_alloc, World.size_setCell, World.size_drew, World.heap_drewN] at *; omega)))) hgrow5 (by (try simp); omega) (fun q hq => (ho4.lt q hq).1); have hz5 := hb5.size; have hw5 : w.heap.size < w5.heap.size := (by omega); have kk5 := grown_cell hgrow5 (b := w.heap.size) (by (try simp); omega) (fun q hq => by have := (ho4.lt q hq).1; omega); have OM := Lib.hid (own_more hown5); clear hown5 hgrow5) | (refine step_append_lies _ (by rfl) _ _ _ (by rfl) w3.heap.size 47 i0 _ 4 32 Try.underlying41 hi0 iz0 iz1 iz2 rfl (by omega) v4 l.length _ (by rfl) ho4 ⟨w3.heap.size + 1, 0, none⟩ 1 1 [.int .i64 m.a, .int .i64 m.b, .int .i64 m.lo, .int .i64 m.hi] (by rfl) (by rfl) (World.news_of_block (cs := #[.int .i64 m.a, .int .i64 m.b, .int .i64 m.lo, .int .i64 m.hi]) (t := 47) (fr := (0, 0)) HNB.out) (by simp [Value.oneCell']) (by omega) (by unfold maxLen; omega) (by omega) (by (try simp); omega) (w4.heap.size) (by simp) ?_; intro gg cap5 w5 hown5 hgrow5 _ hlt5; have hb5 : Below w3.heap.size w3 w5 := Below.grown (by (repeat' (first | (with_reducible exact Below.refl _ _) | (with_reducible assumption) | (with_reducible refine Below.call ?_ ?_ (by with_reducible assumption)) | (with_reducible refine Below.alloc ?_ ?_ _) | (with_reducible refine Below.drew ?_) | (with_reducible refine below_drewN ?_ _) | (with_reducible refine Below.setCell ?_ ?_ _) | (with_reducible exact Nat.le_refl _) | omega | (simp only [World.size_alloc, World.size_setCell, World.size_drew, World.heap_drewN] at *; omega)))) hgrow5 (by (try simp); omega) (fun q hq => (ho4.lt q hq).1); have hz5 := hb5.size; have hw5 : w.heap.size < w5.heap.size := (by omega); have kk5 := grown_cell hgrow5 (b := w.heap.size) (by (try simp); omega) (fun q hq => by have := (ho4.lt q hq).1; omega); have OM := Lib.hid (own_more hown5); clear hown5 hgrow5) | (refine step_append_lies _ (by rfl) _ _ _ (by rfl) w3.heap.size 47 i0 _ 4 32 Try.underlying41 hi0 iz0 iz1 iz2 rfl (by omega) v4 l.length _ (by rfl) ho4 ⟨w3.heap.size, 0, none⟩ 1 1 [.int .i64 m.a, .int .i64 m.b, .int .i64 m.lo, .int .i64 m.hi] (by rfl) (by rfl) (World.news_of_block (cs := #[.int .i64 m.a, .int .i64 m.b, .int .i64 m.lo, .int .i64 m.hi]) (t := 47) (fr := (0, 0)) HNB.out) (by simp [Value.oneCell']) (by omega) (by unfold maxLen; omega) (by omega) (by (try simp); omega) (w4.heap.size) (by simp) ?_; intro gg cap5 w5 hown5 hgrow5 _ hlt5; have hb5 : Below w3.heap.size w3 w5 := Below.grown (by (repeat' (first | (with_reducible exact Below.refl _ _) | (with_reducible assumption) | (with_reducible refine Below.call ?_ ?_ (by with_reducible assumption)) | (with_reducible refine Below.alloc ?_ ?_ _) | (with_reducible refine Below.drew ?_) | (with_reducible refine below_drewN ?_ _) | (with_reducible refine Below.setCell ?_ ?_ _) | (with_reducible exact Nat.le_refl _) | omega | (simp only [World.size_alloc, World.size_setCell, World.size_drew, World.heap_drewN] at *; omega)))) hgrow5 (by (try simp); omega) (fun q hq => (ho4.lt q hq).1); have hz5 := hb5.size; have hw5 : w.heap.size < w5.heap.size := (by omega); have kk5 := grown_cell hgrow5 (b := w.heap.size) (by (try simp); omega) (fun q hq => by have := (ho4.lt q hq).1; omega); have OM := Lib.hid (own_more hown5); clear hown5 hgrow5))
    all_goals go_wp2_with fail
    all_goals go_meet
    all_goals exact ⟨_, _, rfl, OM.out.1, OM.out.2, by (repeat' (first | (with_reducible exact Below.refl _ _) | (with_reducible assumption) | (with_reducible refine Below.call ?_ ?_ (by with_reducible assumption)) | (with_reducible refine Below.alloc ?_ ?_ _) | (with_reducible refine Below.drew ?_) | (with_reducible refine below_drewN ?_ _) | (with_reducible refine Below.setCell ?_ ?_ _) | (with_reducible exact Nat.le_refl _) | omega | (simp only [World.size_alloc, World.size_setCell, World.size_drew, World.heap_drewN] at *; omega)))⟩
  case rest =>
    obtain ⟨g, c, rfl, hgc, hM, hbc⟩ := hcut
    obtain ⟨wd, rfl⟩ : ∃ wd : World, wd = wc := ⟨_, rfl⟩
    have hzc := hbc.size
    have n12z : (n : Int) ≤ 12 := by omega
    go_upto_region 11 with (go_at_call 28; (refine (HA.out _ _ _ hgc (hM.slice.below (Nat.le_refl _) (by (repeat' (first | (with_reducible exact Below.refl _ _) | (with_reducible assumption) | (with_reducible refine Below.call ?_ ?_ (by with_reducible assumption)) | (with_reducible refine Below.alloc ?_ ?_ _) | (with_reducible refine Below.drew ?_) | (with_reducible refine below_drewN ?_ _) | (with_reducible refine Below.setCell ?_ ?_ _) | (with_reducible exact Nat.le_refl _) | omega | (simp only [World.size_alloc, World.size_setCell, World.size_drew, World.heap_drewN] at *; omega)))))).mono ?_); rintro e w6 ⟨a12, c12, rfl, hc12, hm12, hb⟩; have hz := hb.size; (try simp only [World.size_alloc, World.size_setCell, World.size_drew, World.heap_drewN] at hz); (try have h_w_0 : w.heap.size < w6.heap.size := by omega); (try have e_w_0 : ¬ w.heap.size = w6.heap.size := by omega); (try have d_w_0 : ¬ w6.heap.size = w.heap.size := by omega); (try (refine bcUse (n := w.heap.size) hb ?_ ?_; (focus ((try simp only [World.size_alloc, World.size_setCell, World.size_drew, World.heap_drewN]); omega)); intro _ _)); (try have h_w3_0 : w3.heap.size < w6.heap.size := by omega); (try have e_w3_0 : ¬ w3.heap.size = w6.heap.size := by omega); (try have d_w3_0 : ¬ w6.heap.size = w3.heap.size := by omega); (try (refine bcUse (n := w3.heap.size) hb ?_ ?_; (focus ((try simp only [World.size_alloc, World.size_setCell, World.size_drew, World.heap_drewN]); omega)); intro _ _)); (try have h_wd_0 : wd.heap.size < w6.heap.size := by omega); (try have e_wd_0 : ¬ wd.heap.size = w6.heap.size := by omega); (try have d_wd_0 : ¬ w6.heap.size = wd.heap.size := by omega); (try (refine bcUse (n := wd.heap.size) hb ?_ ?_; (focus ((try simp only [World.size_alloc, World.size_setCell, World.size_drew, World.heap_drewN]); omega)); intro _ _)))
    have hbw6 : Below w.heap.size w w6 := by (repeat' (first | (with_reducible exact Below.refl _ _) | (with_reducible assumption) | (with_reducible refine Below.call ?_ ?_ (by with_reducible assumption)) | (with_reducible refine Below.alloc ?_ ?_ _) | (with_reducible refine Below.drew ?_) | (with_reducible refine below_drewN ?_ _) | (with_reducible refine Below.setCell ?_ ?_ _) | (with_reducible exact Nat.le_refl _) | omega | (simp only [World.size_alloc, World.size_setCell, World.size_drew, World.heap_drewN] at *; omega)))
    have hb36 : Below w3.heap.size w3 w6 := hbc.trans ((show Below wd.heap.size wd w6 from by assumption).mono hzc)
    have hz6 := hbw6.size
    have HMA := Lib.hid (HM9.out.below (Nat.le_refl _) hb36)
    have HMB := Lib.hid hm12
    have HPA := Lib.hid (HP7.out.below (Nat.le_refl _) hb36)
    clear hm12 HM9 HP7 HG HT HA HS3
    go_wp2_with fail
    go_loopg [14, 70] n (fun gk x14 j wr => ∃ i : Nat, i ≤ n ∧ gk = n - i ∧ j = .int .i64 i ∧ x14 = .int .i64 (ps (chg D E) n i).length ∧ Below w6.heap.size w6 wr)
    case atStart => exact ⟨0, Nat.zero_le _, rfl, rfl, rfl, Below.refl _ _⟩
    case round =>
      obtain ⟨i, hi, rfl, rfl, rfl, hbel⟩ := hrel
      have hsz := hbel.size
      by_cases hin : i < n
      · have hiz : (i : Int) < (n : Int) := by omega
        have r1 : IntKind.i64.wrap ((i : Int) + 1) = (i : Int) + 1 := IntWalk.i64_in _ (by omega)
        go_wp2_with fail
        go_loopg [14, 16] (n - (i + 1)) (fun gk x14 j wr => ∃ j' : Nat, i + 1 ≤ j' ∧ j' ≤ n ∧ gk = n - j' ∧ j = .int .i64 j' ∧ x14 = .int .i64 (ps (chg D E) n i ++ rp (chg D E) i j').length ∧ Below w6.heap.size w6 wr)
        case atStart => exact ⟨i + 1, Nat.le_refl _, by omega, rfl, by go_num, by rw [rp_nil _ _ _ (Nat.le_refl _), List.append_nil], hbel⟩
        case round =>
          clear hbel hsz
          obtain ⟨j, hij, hjn, rfl, rfl, rfl, hbel⟩ := hrel
          have hsz := hbel.size
          by_cases hjl : j < n
          · have hjz : (j : Int) < (n : Int) := by omega
            have r2 : IntKind.i64.wrap ((j : Int) + 1) = (j : Int) + 1 := IntWalk.i64_in _ (by omega)
            obtain ⟨bk, ok, rk, ck, hak, hbk2, hck, hrk, hsk⟩ := (HMA.out.below (Nat.le_refl _) (hbel.mono (by omega))) i (by simpa [tgt] using hin)
            have hrowk : (tgt n D)[i]'(by simpa [tgt] using hin) = rowT n D i := by simp [tgt]
            rw [hrowk, rowT_length] at hck hrk
            rw [hrowk] at hsk
            obtain ⟨be, oe, re, ce, hae, hbe2, hce, hre, hse⟩ := (HMB.out.below (Nat.le_refl _) hbel) i (by simpa [tgt] using hin)
            have hrowe : (tgt n E)[i]'(by simpa [tgt] using hin) = rowT n E i := by simp [tgt]
            rw [hrowe, rowT_length] at hce hre
            rw [hrowe] at hse
            have ixK := @ix_Row a9 bk ok n c9 i hak hin
            have ixE := @ix_Row a12 be oe n c12 i hae hin
            obtain ⟨b1, o1, h1, hb1, d1, d2⟩ := hsk j (by rw [rowT_length]; exact hjl)
            have ix1 := @ix_SpE rk b1 o1 n ck j h1 hjl
            obtain ⟨b2, o2, h2, hb2, d3, d4⟩ := hse j (by rw [rowT_length]; exact hjl)
            have ix2 := @ix_SpE re b2 o2 n ce j h2 hjl
            rw [rowT_get] at d1 d2 d3 d4
            simp only at d1 d2 d3 d4
            clear hak hae h1 h2 hsk hse hrowk hrowe
            have nn : ((n : Int) != (n : Int)) = false := by simp
            go_upto_region 20 with fail
            go_cut [110] (fun x110 wq => x110 = .bool (chg D E i j) ∧ Below wr.heap.size wr wq)
            case first =>
              have HCH := Lib.hid (show chg D E i j = ((-(D j i) != -(E j i)) || (D i j != E i j)) from rfl)
              have hx1 : ((-(D j i) != -(E j i)) = true ∧ (-(D j i) == -(E j i)) = false ∧ (D j i != E j i) = true ∧ (D j i == E j i) = false) ∨ ((-(D j i) != -(E j i)) = false ∧ (-(D j i) == -(E j i)) = true ∧ (D j i != E j i) = false ∧ (D j i == E j i) = true) := by
                by_cases q : D j i = E j i
                · right; rw [q]; simp
                · left; simp [q]
              have hx2 : ((D i j != E i j) = true ∧ (D i j == E i j) = false) ∨ ((D i j != E i j) = false ∧ (D i j == E i j) = true) := by
                by_cases q : D i j = E i j
                · right; rw [q]; simp
                · left; simp [q]
              rcases hx1 with ⟨t1, t3, t4, t5⟩ | ⟨t1, t3, t4, t5⟩ <;> rcases hx2 with ⟨t2, t6⟩ | ⟨t2, t6⟩ <;> rw [t1, t2] at HCH
              all_goals
                go_wp2_with fail
                go_quiet (fail)
                go_wp2_with fail
                go_meet
                exact ⟨by rw [HCH.out]; rfl, below_drewN (Below.refl _ _) _⟩
            case rest =>
              obtain ⟨rfl, hbq⟩ := hcut
              have hzq := hbq.size
              have hbwq : Below w6.heap.size w6 wc := hbel.trans (hbq.mono hsz)
              clear ixK ixE ix1 ix2 d1 d2 d3 d4 hck hce
              obtain ⟨r, hrr⟩ : ∃ r, chg D E i j = r := ⟨_, rfl⟩
              rw [hrr]
              cases r
              · have HEe := Lib.hid (rp_no (c := chg D E) (i := i) (j := j) hrr)
                clear hrr
                go_wp2_with fail
                go_roundg (n - (j + 1))
                case measure => go_light; omega
                case rel => exact ⟨j + 1, by omega, by omega, rfl, by go_num, by rw [HEe.out], hbwq⟩
              · obtain ⟨hq1, hq2⟩ := ps_at (c := chg D E) hin (by omega) hjl hrr
                have HEe := Lib.hid (rp_yes (c := chg D E) (i := i) (j := j) (by omega) hrr)
                rw [HP.out] at hq1 hq2
                obtain ⟨K, hK⟩ : ∃ K, (ps (chg D E) n i ++ rp (chg D E) i j).length = K := ⟨_, rfl⟩
                rw [hK] at hq1 hq2
                rw [hK]
                obtain ⟨bp, op, hap, hbp, p1, p2⟩ := (HPA.out.below (Nat.le_refl _) hbwq) _ _ hq2
                simp only at p1 p2
                have ixP := @ix_Pr a7 bp op P.length c7 K hap hq1
                have HK := Lib.hid hK
                have hKz : (K : Int) < (P.length : Int) := by omega
                have hKn : ¬ ((P.length : Int) ≤ (K : Int)) := by omega
                have r3 : IntKind.i64.wrap ((K : Int) + 1) = (K : Int) + 1 := IntWalk.i64_in _ (by omega)
                have q1 : ((i : Int) != (i : Int)) = false := by simp
                have q2 : ((j : Int) != (j : Int)) = false := by simp
                have q3 : ((i : Int) == (i : Int)) = true := by simp
                have q4 : ((j : Int) == (j : Int)) = true := by simp
                have eqP : ∀ w0, (Op.equalIn 10000 65 (.agg #[.int .i64 (i : Int), .int .i64 (j : Int)]) (.agg #[.int .i64 (i : Int), .int .i64 (j : Int)])).run Try.prog w0 = .ok true w0 := fun w0 => by rw [eqPair]; simp
                clear hrr hap hq2 hK
                go_wp2_with fail
                go_roundg (n - (j + 1))
                case measure => go_light; omega
                case rel => exact ⟨j + 1, by omega, by omega, rfl, by go_num, by rw [HEe.out, ← List.append_assoc, List.length_append, HK.out]; simp, hbwq⟩
          · obtain rfl : j = n := by omega
            go_wp2_with fail
            go_roundg (j - (i + 1))
            case measure => go_light; omega
            case rel => exact ⟨i + 1, by omega, rfl, by go_num, rfl, hbel⟩
      · obtain rfl : i = n := by omega
        have hPn : ps (chg D E) i i = P := HP.out
        rw [hPn]
        go_wp2_with fail
        go_ret
        refine ⟨rfl, ?_⟩
        exact hbw6.trans (hbel.mono (by omega))
end Go.Proofs.Ytdpddidfdifbhaa
