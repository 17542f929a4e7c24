/- The table of the stars: contracts of star.At, star.Names and of the reference's Star. -/
import Derived.Test.YtaaiamcpdicnhaaDoorWalkSva
import Derived.Test.YtaaiamcpdicnhaaDoorWalkArgX
import Derived.Laws.Rows
import Derived.Deep.QuietTactic
import Derived.BigQuiet
set_option linter.unusedVariables false
set_option linter.unusedSimpArgs false
set_option maxRecDepth 100000
namespace Go.Proofs.YtaaiamcpdicnhaaDoor
open Go.RowKit
def stCells : Array Value := #[.string ⟨#[112, 111, 108, 97, 114, 105, 115]⟩, .int .i64 105428000, .int .i64 247955800, .string ⟨#[97, 108, 100, 101, 98, 97, 114, 97, 110]⟩, .int .i64 191609000, .int .i64 45859200, .string ⟨#[114, 105, 103, 101, 108]⟩, .int .i64 218426000, .int .i64 (-22782200), .string ⟨#[115, 105, 114, 105, 117, 115]⟩, .int .i64 281354000, .int .i64 (-46433600), .string ⟨#[114, 101, 103, 117, 108, 117, 115]⟩, .int .i64 422477000, .int .i64 33242200, .string ⟨#[115, 112, 105, 99, 97]⟩, .int .i64 559167000, .int .i64 (-31003900), .string ⟨#[97, 110, 116, 97, 114, 101, 115]⟩, .int .i64 687083000, .int .i64 (-73422200), .string ⟨#[118, 101, 103, 97]⟩, .int .i64 775650000, .int .i64 107732500]
/-- The names, the right ascensions, the declinations. -/
def stNm : Nat → List UInt8
  | 0 => [112, 111, 108, 97, 114, 105, 115]
  | 1 => [97, 108, 100, 101, 98, 97, 114, 97, 110]
  | 2 => [114, 105, 103, 101, 108]
  | 3 => [115, 105, 114, 105, 117, 115]
  | 4 => [114, 101, 103, 117, 108, 117, 115]
  | 5 => [115, 112, 105, 99, 97]
  | 6 => [97, 110, 116, 97, 114, 101, 115]
  | _ => [118, 101, 103, 97]
def stRa : Nat → Int
  | 0 => 105428000
  | 1 => 191609000
  | 2 => 218426000
  | 3 => 281354000
  | 4 => 422477000
  | 5 => 559167000
  | 6 => 687083000
  | _ => 775650000
def stDec : Nat → Int
  | 0 => 247955800
  | 1 => 45859200
  | 2 => -22782200
  | 3 => -46433600
  | 4 => 33242200
  | 5 => -31003900
  | 6 => -73422200
  | _ => 107732500
theorem st_rng : ∀ k < 8, 0 ≤ stRa k ∧ stRa k < 1000000000 ∧ -249000000 ≤ stDec k ∧ stDec k ≤ 249000000 := by decide
theorem st_sum : ∀ k < 8, sumE (stRa k) 97300000 [] 100 = 0 := by decide +kernel
/-- The first row with the name. -/
def IsSt (k : Nat) (s : ByteArray) : Prop := (∀ j, j < k → (stNm j == s.toList) = false) ∧ (k < 8 → (stNm k == s.toList) = true)
theorem isSt_ex (s : ByteArray) : ∃ k, k ≤ 8 ∧ IsSt k s := by
  have key : ∀ n, n ≤ 8 → (∃ k, k < n ∧ IsSt k s) ∨ ∀ j, j < n → (stNm j == s.toList) = false := by
    intro n
    induction n with
    | zero => intro _; right; intro j hj; omega
    | succ n ih =>
      intro hn
      rcases ih (by omega) with ⟨k, hk, h⟩ | h
      · exact .inl ⟨k, by omega, h⟩
      · cases q : (stNm n == s.toList) with
        | true => exact .inl ⟨n, by omega, h, fun _ => q⟩
        | false =>
          right
          intro j hj
          rcases (show j < n ∨ j = n by omega) with g | rfl
          · exact h j g
          · exact q
  rcases key 8 (Nat.le_refl _) with ⟨k, hk, h⟩ | h
  · exact ⟨k, by omega, h⟩
  · exact ⟨8, Nat.le_refl _, h, fun q => absurd q (by omega)⟩
theorem stIx (w : World) (j : Nat) (hj : j < 8) : Sem.run Tryd.prog (Instr.index 82 (.agg stCells) (.int .i64 (j : Int))) w = .ok (.agg #[.string ⟨(stNm j).toArray⟩, .int .i64 (stRa j), .int .i64 (stDec j)]) w := by
  rcases (show j = 0 ∨ j = 1 ∨ j = 2 ∨ j = 3 ∨ j = 4 ∨ j = 5 ∨ j = 6 ∨ j = 7 by omega) with rfl | rfl | rfl | rfl | rfl | rfl | rfl | rfl <;> rfl
structure STab (w : World) : Prop where
  cells : ∃ (t : TypeId) (fr : Nat × Nat), w.heap[(0 : Nat)]? = some (.cells stCells t fr)
theorem STab.lt {w : World} (h : STab w) : 0 < w.heap.size := by
  obtain ⟨t, fr, h⟩ := h.cells
  by_cases q : 0 < w.heap.size
  · exact q
  · rw [Array.getElem?_eq_none (Nat.not_lt.1 q)] at h; cases h
theorem STab.below {w w' : World} (h : STab w) (hb : Below w.heap.size w w') : STab w' := by
  have hl := h.lt
  obtain ⟨t, fr, h⟩ := h.cells
  exact ⟨t, fr, (hb.block _ hl).trans h⟩
structure StAt (w : World) (b : Nat) : Prop where
  lt : b + 1 < w.heap.size
  c0 : w.cell? ⟨b, 0, none⟩ = some (.int .i64 0)
  c1 : w.cell? ⟨b, 1, none⟩ = some (.int .i64 0)
  c2 : w.cell? ⟨b + 1, 0, none⟩ = some (.int .i64 0)
  c3 : w.cell? ⟨b + 1, 1, none⟩ = some (.int .i64 0)
  f0 : w.frozen? ⟨b, 0, none⟩ = false
  f1 : w.frozen? ⟨b, 1, none⟩ = false
  f2 : w.frozen? ⟨b + 1, 0, none⟩ = false
  f3 : w.frozen? ⟨b + 1, 1, none⟩ = false
theorem c_starAt (s : ByteArray) (t : Int) (K : Nat) (w : World) (hP : STab w) (hT : Tab w) (hK : IsSt K s) (hK8 : K < 8) (ht : instB t = true) :
    Calls Tryd.prog 30 #[.string s, .int .i64 t] w fun e w' => e = .returned (.tuple #[.agg #[.int .i64 (angLo (stRa K) 97300000 [] 100 t), .int .i64 (angHi (stRa K) 97300000 [] 100 t)], .agg #[.int .i64 (stDec K - 100), .int .i64 (stDec K + 100)], .int .i64 0]) ∧ Below w.heap.size w w' := by
  have hl := hP.lt
  obtain ⟨tt, fr, hg⟩ := hP.cells
  have HG1 : Hid (∀ o o', ((w.alloc o).alloc o').heap[(0 : Nat)]? = some (.cells stCells tt fr)) := Lib.hid (fun o o' => ((((Below.refl w.heap.size w).alloc (Nat.le_refl _) o).alloc (by simp) o').block _ hl).trans hg)
  have HT := Lib.hid hT
  have HK := Lib.hid hK
  have HA : Hid (∀ w1, Tab w1 → Calls Tryd.prog 51 #[.agg #[.int .i64 (stRa K), .int .i64 97300000, .slice none 0 0, .int .i64 100], .int .i64 t] w1 fun e w' => e = .returned (.tuple #[.agg #[.int .i64 (angLo (stRa K) 97300000 [] 100 t), .int .i64 (angHi (stRa K) 97300000 [] 100 t)], .int .i64 0]) ∧ Below w1.heap.size w1 w') := Lib.hid (fun w1 h => c_Angle_ok (stRa K) 97300000 100 t none 0 [] w1 h (Nat.le_refl _) (tm_nil w1 none) (st_sum K hK8) ht)
  obtain ⟨g1, g2, g3, g4⟩ := st_rng K hK8
  generalize angLo (stRa K) 97300000 [] 100 t = lo at *
  generalize angHi (stRa K) 97300000 [] 100 t = hi at *
  generalize hra : stRa K = ra at *
  generalize hdec : stDec K = dec at *
  have HRA := Lib.hid hra
  have HDE := Lib.hid hdec
  clear hP hg hT hK ht hra hdec
  have hgen := sgen; have hgen2 := sgen2; have hgen3 := sgen3; go_enter Tryd.func30, Tryd.ntmps30
  iterate 12 (first | go_step | go_skip | go_back | go_upon | go_guarded)
  (first | (refine wp_load_row 82 (.global 0) rfl 0 ?_ tt stCells fr _ (HG1.out _ _) Tryd.underlying82 ?_ ?_ ?_) | ((first | go_step | go_skip | go_back | go_upon | go_guarded); first | (refine wp_load_row 82 (.global 0) rfl 0 ?_ tt stCells fr _ (HG1.out _ _) Tryd.underlying82 ?_ ?_ ?_) | ((first | go_step | go_skip | go_back | go_upon | go_guarded); first | (refine wp_load_row 82 (.global 0) rfl 0 ?_ tt stCells fr _ (HG1.out _ _) Tryd.underlying82 ?_ ?_ ?_) | ((first | go_step | go_skip | go_back | go_upon | go_guarded); first | (refine wp_load_row 82 (.global 0) rfl 0 ?_ tt stCells fr _ (HG1.out _ _) Tryd.underlying82 ?_ ?_ ?_) | ((first | go_step | go_skip | go_back | go_upon | go_guarded); first | (refine wp_load_row 82 (.global 0) rfl 0 ?_ tt stCells fr _ (HG1.out _ _) Tryd.underlying82 ?_ ?_ ?_) | ((first | go_step | go_skip | go_back | go_upon | go_guarded); first | (refine wp_load_row 82 (.global 0) rfl 0 ?_ tt stCells fr _ (HG1.out _ _) Tryd.underlying82 ?_ ?_ ?_) | ((first | go_step | go_skip | go_back | go_upon | go_guarded); first | (refine wp_load_row 82 (.global 0) rfl 0 ?_ tt stCells fr _ (HG1.out _ _) Tryd.underlying82 ?_ ?_ ?_) | ((first | go_step | go_skip | go_back | go_upon | go_guarded); first | (refine wp_load_row 82 (.global 0) rfl 0 ?_ tt stCells fr _ (HG1.out _ _) Tryd.underlying82 ?_ ?_ ?_) | ((first | go_step | go_skip | go_back | go_upon | go_guarded); first | (refine wp_load_row 82 (.global 0) rfl 0 ?_ tt stCells fr _ (HG1.out _ _) Tryd.underlying82 ?_ ?_ ?_) | ((first | go_step | go_skip | go_back | go_upon | go_guarded); (refine wp_load_row 82 (.global 0) rfl 0 ?_ tt stCells fr _ (HG1.out _ _) Tryd.underlying82 ?_ ?_ ?_)))))))))))
  focus rfl
  focus rfl
  focus kernel_rfl
  go_wp2_with fail
  go_loopg [12] 8 (fun gk i wr => ∃ k : Nat, k ≤ K ∧ gk + k = 8 ∧ i = .int .i64 k ∧ Below w.heap.size w wr ∧ StAt wr w.heap.size)
  case atStart => exact ⟨0, by omega, by omega, rfl, by (repeat' (first | (with_reducible exact Below.refl _ _) | (with_reducible assumption) | (with_reducible refine Below.call ?_ ?_ (by with_reducible assumption)) | (with_reducible refine Below.alloc ?_ ?_ _) | (with_reducible refine Below.drew ?_) | (with_reducible refine below_drewN ?_ _) | (with_reducible refine Below.setCell ?_ ?_ _) | (with_reducible exact Nat.le_refl _) | omega | (simp only [World.size_alloc, World.size_setCell, World.size_drew, World.heap_drewN] at *; omega))), by constructor <;> go_simp⟩
  case round =>
    obtain ⟨k, hkK, hk, rfl, hbel, hR⟩ := hrel
    have hsz := hbel.size
    obtain ⟨r0, r1, r2, r3, r4, r5, r6, r7, r8⟩ := hR
    have HBL := Lib.hid hbel
    have n1 : ¬ w.heap.size = wr.heap.size := by omega
    have n2 : ¬ w.heap.size + 1 = wr.heap.size := by omega
    have n3 : w.heap.size < wr.heap.size := by omega
    have n4 : ¬ wr.heap.size = w.heap.size := by omega
    have n5 : ¬ wr.heap.size = w.heap.size + 1 := by omega
    by_cases hlt : k < K
    · have hix := fun w => stIx w k (by omega)
      have hq : (stNm k == s.toList) = false := HK.out.1 k hlt
      have hk8 : decide ((k : Int) < 8) = true := decide_eq_true (by omega)
      generalize stNm k = nm at *
      generalize stRa k = ra at *
      generalize stDec k = dec at *
      go_wp2
      go_roundg (gk - 1)
      case measure => omega
      case rel =>
        have hbl := HBL.out
        exact ⟨k + 1, by omega, by omega, by go_num, by (repeat' (first | (with_reducible exact Below.refl _ _) | (with_reducible assumption) | (with_reducible refine Below.call ?_ ?_ (by with_reducible assumption)) | (with_reducible refine Below.alloc ?_ ?_ _) | (with_reducible refine Below.drew ?_) | (with_reducible refine below_drewN ?_ _) | (with_reducible refine Below.setCell ?_ ?_ _) | (with_reducible exact Nat.le_refl _) | omega | (simp only [World.size_alloc, World.size_setCell, World.size_drew, World.heap_drewN] at *; omega))), by constructor <;> (first | omega | go_simp)⟩
    · obtain rfl : k = K := by omega
      have hix := fun w => stIx w k (by omega)
      have hq : (stNm k == s.toList) = true := HK.out.2 hK8
      have hk8 : decide ((k : Int) < 8) = true := decide_eq_true (by omega)
      rw [HRA.out, HDE.out] at hix
      generalize stNm k = nm at *
      go_wp2_with (go_at_call 51; (refine (HA.out _ (HT.out.below (by have hbl := HBL.out; (repeat' (first | (with_reducible exact Below.refl _ _) | (with_reducible assumption) | (with_reducible refine Below.call ?_ ?_ (by with_reducible assumption)) | (with_reducible refine Below.alloc ?_ ?_ _) | (with_reducible refine Below.drew ?_) | (with_reducible refine below_drewN ?_ _) | (with_reducible refine Below.setCell ?_ ?_ _) | (with_reducible exact Nat.le_refl _) | omega | (simp only [World.size_alloc, World.size_setCell, World.size_drew, World.heap_drewN] at *; omega)))))).mono ?_); rintro e w1 ⟨rfl, hb⟩; have hz := hb.size; (try simp only [World.size_alloc, World.size_setCell, World.size_drew, World.heap_drewN] at hz); (try have h_w_0 : w.heap.size < w1.heap.size := by omega); (try have e_w_0 : ¬ w.heap.size = w1.heap.size := by omega); (try have d_w_0 : ¬ w1.heap.size = w.heap.size := by omega); (try (refine bcUse (n := w.heap.size) hb ?_ ?_; (focus ((try simp only [World.size_alloc, World.size_setCell, World.size_drew, World.heap_drewN]); omega)); intro _ _)); (try have h_w_1 : w.heap.size + 1 < w1.heap.size := by omega); (try have e_w_1 : ¬ w.heap.size + 1 = w1.heap.size := by omega); (try have d_w_1 : ¬ w1.heap.size = w.heap.size + 1 := by omega); (try (refine bcUse (n := w.heap.size + 1) hb ?_ ?_; (focus ((try simp only [World.size_alloc, World.size_setCell, World.size_drew, World.heap_drewN]); omega)); intro _ _)); (try have h_wr_0 : wr.heap.size < w1.heap.size := by omega); (try have e_wr_0 : ¬ wr.heap.size = w1.heap.size := by omega); (try have d_wr_0 : ¬ w1.heap.size = wr.heap.size := by omega); (try (refine bcUse (n := wr.heap.size) hb ?_ ?_; (focus ((try simp only [World.size_alloc, World.size_setCell, World.size_drew, World.heap_drewN]); omega)); intro _ _)))
      go_region
      all_goals go_wp2
      all_goals refine bodyPost_ret (v := .tuple #[.agg #[.int .i64 lo, .int .i64 hi], .agg #[.int .i64 (dec - 100), .int .i64 (dec + 100)], .int .i64 0]) (by simp only [results, Tryd.results30]; go_simp) rfl ⟨rfl, ?_⟩
      all_goals have hbl := HBL.out
      all_goals (repeat' (first | (with_reducible exact Below.refl _ _) | (with_reducible assumption) | (with_reducible refine Below.call ?_ ?_ (by with_reducible assumption)) | (with_reducible refine Below.alloc ?_ ?_ _) | (with_reducible refine Below.drew ?_) | (with_reducible refine below_drewN ?_ _) | (with_reducible refine Below.setCell ?_ ?_ _) | (with_reducible exact Nat.le_refl _) | omega | (simp only [World.size_alloc, World.size_setCell, World.size_drew, World.heap_drewN] at *; omega)))
theorem c_starAtT (s : ByteArray) (t : Int) (K : Nat) (w : World) (hP : STab w) (hK : IsSt K s) (hK8 : K < 8) (ht : instB t = false) (t1 : -9223372036854775808 ≤ t) (t2 : t ≤ 9223372036854775807) :
    Calls Tryd.prog 30 #[.string s, .int .i64 t] w fun e w' => e = .returned (.tuple #[.agg #[.int .i64 0, .int .i64 0], .agg #[.int .i64 0, .int .i64 0], .int .i64 3]) ∧ Below w.heap.size w w' := by
  have hl := hP.lt
  obtain ⟨tt, fr, hg⟩ := hP.cells
  have HG1 : Hid (∀ o o', ((w.alloc o).alloc o').heap[(0 : Nat)]? = some (.cells stCells tt fr)) := Lib.hid (fun o o' => ((((Below.refl w.heap.size w).alloc (Nat.le_refl _) o).alloc (by simp) o').block _ hl).trans hg)
  have HK := Lib.hid hK
  clear hP hg hK
  have hgen := sgen; have hgen2 := sgen2; have hgen3 := sgen3; go_enter Tryd.func30, Tryd.ntmps30
  iterate 12 (first | go_step | go_skip | go_back | go_upon | go_guarded)
  (first | (refine wp_load_row 82 (.global 0) rfl 0 ?_ tt stCells fr _ (HG1.out _ _) Tryd.underlying82 ?_ ?_ ?_) | ((first | go_step | go_skip | go_back | go_upon | go_guarded); first | (refine wp_load_row 82 (.global 0) rfl 0 ?_ tt stCells fr _ (HG1.out _ _) Tryd.underlying82 ?_ ?_ ?_) | ((first | go_step | go_skip | go_back | go_upon | go_guarded); first | (refine wp_load_row 82 (.global 0) rfl 0 ?_ tt stCells fr _ (HG1.out _ _) Tryd.underlying82 ?_ ?_ ?_) | ((first | go_step | go_skip | go_back | go_upon | go_guarded); first | (refine wp_load_row 82 (.global 0) rfl 0 ?_ tt stCells fr _ (HG1.out _ _) Tryd.underlying82 ?_ ?_ ?_) | ((first | go_step | go_skip | go_back | go_upon | go_guarded); first | (refine wp_load_row 82 (.global 0) rfl 0 ?_ tt stCells fr _ (HG1.out _ _) Tryd.underlying82 ?_ ?_ ?_) | ((first | go_step | go_skip | go_back | go_upon | go_guarded); first | (refine wp_load_row 82 (.global 0) rfl 0 ?_ tt stCells fr _ (HG1.out _ _) Tryd.underlying82 ?_ ?_ ?_) | ((first | go_step | go_skip | go_back | go_upon | go_guarded); first | (refine wp_load_row 82 (.global 0) rfl 0 ?_ tt stCells fr _ (HG1.out _ _) Tryd.underlying82 ?_ ?_ ?_) | ((first | go_step | go_skip | go_back | go_upon | go_guarded); first | (refine wp_load_row 82 (.global 0) rfl 0 ?_ tt stCells fr _ (HG1.out _ _) Tryd.underlying82 ?_ ?_ ?_) | ((first | go_step | go_skip | go_back | go_upon | go_guarded); first | (refine wp_load_row 82 (.global 0) rfl 0 ?_ tt stCells fr _ (HG1.out _ _) Tryd.underlying82 ?_ ?_ ?_) | ((first | go_step | go_skip | go_back | go_upon | go_guarded); (refine wp_load_row 82 (.global 0) rfl 0 ?_ tt stCells fr _ (HG1.out _ _) Tryd.underlying82 ?_ ?_ ?_)))))))))))
  focus rfl
  focus rfl
  focus kernel_rfl
  go_wp2_with fail
  go_loopg [12] 8 (fun gk i wr => ∃ k : Nat, k ≤ K ∧ gk + k = 8 ∧ i = .int .i64 k ∧ Below w.heap.size w wr ∧ StAt wr w.heap.size)
  case atStart => exact ⟨0, by omega, by omega, rfl, by (repeat' (first | (with_reducible exact Below.refl _ _) | (with_reducible assumption) | (with_reducible refine Below.call ?_ ?_ (by with_reducible assumption)) | (with_reducible refine Below.alloc ?_ ?_ _) | (with_reducible refine Below.drew ?_) | (with_reducible refine below_drewN ?_ _) | (with_reducible refine Below.setCell ?_ ?_ _) | (with_reducible exact Nat.le_refl _) | omega | (simp only [World.size_alloc, World.size_setCell, World.size_drew, World.heap_drewN] at *; omega))), by constructor <;> go_simp⟩
  case round =>
    obtain ⟨k, hkK, hk, rfl, hbel, hR⟩ := hrel
    have hsz := hbel.size
    obtain ⟨r0, r1, r2, r3, r4, r5, r6, r7, r8⟩ := hR
    have HBL := Lib.hid hbel
    have n1 : ¬ w.heap.size = wr.heap.size := by omega
    have n2 : ¬ w.heap.size + 1 = wr.heap.size := by omega
    have n3 : w.heap.size < wr.heap.size := by omega
    have n4 : ¬ wr.heap.size = w.heap.size := by omega
    have n5 : ¬ wr.heap.size = w.heap.size + 1 := by omega
    by_cases hlt : k < K
    · have hix := fun w => stIx w k (by omega)
      have hq : (stNm k == s.toList) = false := HK.out.1 k hlt
      have hk8 : decide ((k : Int) < 8) = true := decide_eq_true (by omega)
      generalize stNm k = nm at *
      generalize stRa k = ra at *
      generalize stDec k = dec at *
      go_wp2
      go_roundg (gk - 1)
      case measure => omega
      case rel =>
        have hbl := HBL.out
        exact ⟨k + 1, by omega, by omega, by go_num, by (repeat' (first | (with_reducible exact Below.refl _ _) | (with_reducible assumption) | (with_reducible refine Below.call ?_ ?_ (by with_reducible assumption)) | (with_reducible refine Below.alloc ?_ ?_ _) | (with_reducible refine Below.drew ?_) | (with_reducible refine below_drewN ?_ _) | (with_reducible refine Below.setCell ?_ ?_ _) | (with_reducible exact Nat.le_refl _) | omega | (simp only [World.size_alloc, World.size_setCell, World.size_drew, World.heap_drewN] at *; omega))), by constructor <;> (first | omega | go_simp)⟩
    · obtain rfl : k = K := by omega
      have hix := fun w => stIx w k (by omega)
      have hq : (stNm k == s.toList) = true := HK.out.2 hK8
      have hk8 : decide ((k : Int) < 8) = true := decide_eq_true (by omega)
      have HA : Hid (∀ w1, Calls Tryd.prog 51 #[.agg #[.int .i64 (stRa k), .int .i64 97300000, .slice none 0 0, .int .i64 100], .int .i64 t] w1 fun e w' => e = .returned (.tuple #[.agg #[.int .i64 0, .int .i64 0], .int .i64 3]) ∧ Below w1.heap.size w1 w') := Lib.hid (fun w1 => c_Angle_time (stRa k) 97300000 100 t none 0 [] w1 (Nat.le_refl _) (tm_nil w1 none) (st_sum k hK8) ht t1 t2)
      generalize stNm k = nm at *
      generalize stRa k = ra at *
      generalize stDec k = dec at *
      clear ht
      go_wp2_with (go_at_call 51; (refine (HA.out _).mono ?_); rintro e w1 ⟨rfl, hb⟩; have hz := hb.size; (try simp only [World.size_alloc, World.size_setCell, World.size_drew, World.heap_drewN] at hz); (try have h_w_0 : w.heap.size < w1.heap.size := by omega); (try have e_w_0 : ¬ w.heap.size = w1.heap.size := by omega); (try have d_w_0 : ¬ w1.heap.size = w.heap.size := by omega); (try (refine bcUse (n := w.heap.size) hb ?_ ?_; (focus ((try simp only [World.size_alloc, World.size_setCell, World.size_drew, World.heap_drewN]); omega)); intro _ _)); (try have h_w_1 : w.heap.size + 1 < w1.heap.size := by omega); (try have e_w_1 : ¬ w.heap.size + 1 = w1.heap.size := by omega); (try have d_w_1 : ¬ w1.heap.size = w.heap.size + 1 := by omega); (try (refine bcUse (n := w.heap.size + 1) hb ?_ ?_; (focus ((try simp only [World.size_alloc, World.size_setCell, World.size_drew, World.heap_drewN]); omega)); intro _ _)); (try have h_wr_0 : wr.heap.size < w1.heap.size := by omega); (try have e_wr_0 : ¬ wr.heap.size = w1.heap.size := by omega); (try have d_wr_0 : ¬ w1.heap.size = wr.heap.size := by omega); (try (refine bcUse (n := wr.heap.size) hb ?_ ?_; (focus ((try simp only [World.size_alloc, World.size_setCell, World.size_drew, World.heap_drewN]); omega)); intro _ _)))
      refine bodyPost_ret (v := .tuple #[.agg #[.int .i64 0, .int .i64 0], .agg #[.int .i64 0, .int .i64 0], .int .i64 3]) (by simp only [results, Tryd.results30]; go_simp) rfl ⟨rfl, ?_⟩
      have hbl := HBL.out
      (repeat' (first | (with_reducible exact Below.refl _ _) | (with_reducible assumption) | (with_reducible refine Below.call ?_ ?_ (by with_reducible assumption)) | (with_reducible refine Below.alloc ?_ ?_ _) | (with_reducible refine Below.drew ?_) | (with_reducible refine below_drewN ?_ _) | (with_reducible refine Below.setCell ?_ ?_ _) | (with_reducible exact Nat.le_refl _) | omega | (simp only [World.size_alloc, World.size_setCell, World.size_drew, World.heap_drewN] at *; omega)))
theorem c_starAtN (s : ByteArray) (t : Int) (K : Nat) (w : World) (hP : STab w) (hK : IsSt K s) (hK8 : K = 8) :
    Calls Tryd.prog 30 #[.string s, .int .i64 t] w fun e w' => e = .returned (.tuple #[.agg #[.int .i64 0, .int .i64 0], .agg #[.int .i64 0, .int .i64 0], .int .i64 5]) ∧ Below w.heap.size w w' := by
  have hl := hP.lt
  obtain ⟨tt, fr, hg⟩ := hP.cells
  have HG1 : Hid (∀ o o', ((w.alloc o).alloc o').heap[(0 : Nat)]? = some (.cells stCells tt fr)) := Lib.hid (fun o o' => ((((Below.refl w.heap.size w).alloc (Nat.le_refl _) o).alloc (by simp) o').block _ hl).trans hg)
  have HK := Lib.hid hK
  clear hP hg hK
  have hgen := sgen; have hgen2 := sgen2; have hgen3 := sgen3; go_enter Tryd.func30, Tryd.ntmps30
  iterate 12 (first | go_step | go_skip | go_back | go_upon | go_guarded)
  (first | (refine wp_load_row 82 (.global 0) rfl 0 ?_ tt stCells fr _ (HG1.out _ _) Tryd.underlying82 ?_ ?_ ?_) | ((first | go_step | go_skip | go_back | go_upon | go_guarded); first | (refine wp_load_row 82 (.global 0) rfl 0 ?_ tt stCells fr _ (HG1.out _ _) Tryd.underlying82 ?_ ?_ ?_) | ((first | go_step | go_skip | go_back | go_upon | go_guarded); first | (refine wp_load_row 82 (.global 0) rfl 0 ?_ tt stCells fr _ (HG1.out _ _) Tryd.underlying82 ?_ ?_ ?_) | ((first | go_step | go_skip | go_back | go_upon | go_guarded); first | (refine wp_load_row 82 (.global 0) rfl 0 ?_ tt stCells fr _ (HG1.out _ _) Tryd.underlying82 ?_ ?_ ?_) | ((first | go_step | go_skip | go_back | go_upon | go_guarded); first | (refine wp_load_row 82 (.global 0) rfl 0 ?_ tt stCells fr _ (HG1.out _ _) Tryd.underlying82 ?_ ?_ ?_) | ((first | go_step | go_skip | go_back | go_upon | go_guarded); first | (refine wp_load_row 82 (.global 0) rfl 0 ?_ tt stCells fr _ (HG1.out _ _) Tryd.underlying82 ?_ ?_ ?_) | ((first | go_step | go_skip | go_back | go_upon | go_guarded); first | (refine wp_load_row 82 (.global 0) rfl 0 ?_ tt stCells fr _ (HG1.out _ _) Tryd.underlying82 ?_ ?_ ?_) | ((first | go_step | go_skip | go_back | go_upon | go_guarded); first | (refine wp_load_row 82 (.global 0) rfl 0 ?_ tt stCells fr _ (HG1.out _ _) Tryd.underlying82 ?_ ?_ ?_) | ((first | go_step | go_skip | go_back | go_upon | go_guarded); first | (refine wp_load_row 82 (.global 0) rfl 0 ?_ tt stCells fr _ (HG1.out _ _) Tryd.underlying82 ?_ ?_ ?_) | ((first | go_step | go_skip | go_back | go_upon | go_guarded); (refine wp_load_row 82 (.global 0) rfl 0 ?_ tt stCells fr _ (HG1.out _ _) Tryd.underlying82 ?_ ?_ ?_)))))))))))
  focus rfl
  focus rfl
  focus kernel_rfl
  go_wp2_with fail
  go_loopg [12] 8 (fun gk i wr => ∃ k : Nat, k ≤ K ∧ gk + k = 8 ∧ i = .int .i64 k ∧ Below w.heap.size w wr ∧ StAt wr w.heap.size)
  case atStart => exact ⟨0, by omega, by omega, rfl, by (repeat' (first | (with_reducible exact Below.refl _ _) | (with_reducible assumption) | (with_reducible refine Below.call ?_ ?_ (by with_reducible assumption)) | (with_reducible refine Below.alloc ?_ ?_ _) | (with_reducible refine Below.drew ?_) | (with_reducible refine below_drewN ?_ _) | (with_reducible refine Below.setCell ?_ ?_ _) | (with_reducible exact Nat.le_refl _) | omega | (simp only [World.size_alloc, World.size_setCell, World.size_drew, World.heap_drewN] at *; omega))), by constructor <;> go_simp⟩
  case round =>
    obtain ⟨k, hkK, hk, rfl, hbel, hR⟩ := hrel
    have hsz := hbel.size
    obtain ⟨r0, r1, r2, r3, r4, r5, r6, r7, r8⟩ := hR
    have HBL := Lib.hid hbel
    have n1 : ¬ w.heap.size = wr.heap.size := by omega
    have n2 : ¬ w.heap.size + 1 = wr.heap.size := by omega
    have n3 : w.heap.size < wr.heap.size := by omega
    have n4 : ¬ wr.heap.size = w.heap.size := by omega
    have n5 : ¬ wr.heap.size = w.heap.size + 1 := by omega
    by_cases hlt : k < K
    · have hix := fun w => stIx w k (by omega)
      have hq : (stNm k == s.toList) = false := HK.out.1 k hlt
      have hk8 : decide ((k : Int) < 8) = true := decide_eq_true (by omega)
      generalize stNm k = nm at *
      generalize stRa k = ra at *
      generalize stDec k = dec at *
      go_wp2
      go_roundg (gk - 1)
      case measure => omega
      case rel =>
        have hbl := HBL.out
        exact ⟨k + 1, by omega, by omega, by go_num, by (repeat' (first | (with_reducible exact Below.refl _ _) | (with_reducible assumption) | (with_reducible refine Below.call ?_ ?_ (by with_reducible assumption)) | (with_reducible refine Below.alloc ?_ ?_ _) | (with_reducible refine Below.drew ?_) | (with_reducible refine below_drewN ?_ _) | (with_reducible refine Below.setCell ?_ ?_ _) | (with_reducible exact Nat.le_refl _) | omega | (simp only [World.size_alloc, World.size_setCell, World.size_drew, World.heap_drewN] at *; omega))), by constructor <;> (first | omega | go_simp)⟩
    · obtain rfl : k = 8 := by omega
      go_wp2
      refine bodyPost_ret (v := .tuple #[.agg #[.int .i64 0, .int .i64 0], .agg #[.int .i64 0, .int .i64 0], .int .i64 5]) (by simp only [results, Tryd.results30]; go_simp) rfl ⟨rfl, ?_⟩
      have hbl := HBL.out
      (repeat' (first | (with_reducible exact Below.refl _ _) | (with_reducible assumption) | (with_reducible refine Below.call ?_ ?_ (by with_reducible assumption)) | (with_reducible refine Below.alloc ?_ ?_ _) | (with_reducible refine Below.drew ?_) | (with_reducible refine below_drewN ?_ _) | (with_reducible refine Below.setCell ?_ ?_ _) | (with_reducible exact Nat.le_refl _) | omega | (simp only [World.size_alloc, World.size_setCell, World.size_drew, World.heap_drewN] at *; omega)))
end Go.Proofs.YtaaiamcpdicnhaaDoor
