/- Contracts of planet.find: each row of the table, and a name that stands in none. -/
import Derived.Test.YtjkhoepohiafeaaDoorWalkSva
import Derived.Laws.Rows
set_option linter.unusedVariables false
set_option linter.unusedSimpArgs false
set_option maxRecDepth 100000
namespace Go.Proofs.YtjkhoepohiafeaaDoor
open Go.RowKit
def plCells : Array Value := #[.string ⟨#[109, 101, 114, 99, 117, 114, 121]⟩, .int .i64 387, .int .i64 986042219, .int .i64 11367595694444, .string ⟨#[118, 101, 110, 117, 115]⟩, .int .i64 723, .int .i64 204930817, .int .i64 4450362055556, .string ⟨#[109, 97, 114, 115]⟩, .int .i64 1524, .int .i64 214414189, .int .i64 1455613000000, .string ⟨#[106, 117, 112, 105, 116, 101, 114]⟩, .int .i64 5203, .int .i64 589101452, .int .i64 230792472222, .string ⟨#[115, 97, 116, 117, 114, 110]⟩, .int .i64 9537, .int .i64 310632725, .int .i64 92900388889]
/-- The names, as the walk compares them. -/
def plNm : Nat → List UInt8
  | 0 => [109, 101, 114, 99, 117, 114, 121]
  | 1 => [118, 101, 110, 117, 115]
  | 2 => [109, 97, 114, 115]
  | 3 => [106, 117, 112, 105, 116, 101, 114]
  | _ => [115, 97, 116, 117, 114, 110]
/-- Whether a name is that of a row. -/
def isPl (k : Nat) (s : ByteArray) : Bool := plNm k == s.toList
theorem plIx0 (w : World) : Sem.run Tryd.prog (Instr.index 93 (.agg plCells) (.int .i64 0)) w = .ok (.agg #[.string ⟨#[109, 101, 114, 99, 117, 114, 121]⟩, .int .i64 387, .int .i64 986042219, .int .i64 11367595694444]) w := rfl
theorem plIx1 (w : World) : Sem.run Tryd.prog (Instr.index 93 (.agg plCells) (.int .i64 1)) w = .ok (.agg #[.string ⟨#[118, 101, 110, 117, 115]⟩, .int .i64 723, .int .i64 204930817, .int .i64 4450362055556]) w := rfl
theorem plIx2 (w : World) : Sem.run Tryd.prog (Instr.index 93 (.agg plCells) (.int .i64 2)) w = .ok (.agg #[.string ⟨#[109, 97, 114, 115]⟩, .int .i64 1524, .int .i64 214414189, .int .i64 1455613000000]) w := rfl
theorem plIx3 (w : World) : Sem.run Tryd.prog (Instr.index 93 (.agg plCells) (.int .i64 3)) w = .ok (.agg #[.string ⟨#[106, 117, 112, 105, 116, 101, 114]⟩, .int .i64 5203, .int .i64 589101452, .int .i64 230792472222]) w := rfl
theorem plIx4 (w : World) : Sem.run Tryd.prog (Instr.index 93 (.agg plCells) (.int .i64 4)) w = .ok (.agg #[.string ⟨#[115, 97, 116, 117, 114, 110]⟩, .int .i64 9537, .int .i64 310632725, .int .i64 92900388889]) w := rfl
structure PTab (w : World) : Prop where
  cells : ∃ (t : TypeId) (fr : Nat × Nat), w.heap[(0 : Nat)]? = some (.cells plCells t fr)
theorem PTab.lt {w : World} (h : PTab w) : 0 < w.heap.size := by
  obtain ⟨t, fr, h⟩ := h.cells
  by_cases q : 0 < w.heap.size
  · exact q
  · rw [Array.getElem?_eq_none (Nat.not_lt.1 q)] at h; cases h
theorem PTab.below {w w' : World} (h : PTab w) (hb : Below w.heap.size w w') : PTab w' := by
  have hl := h.lt
  obtain ⟨t, fr, h⟩ := h.cells
  exact ⟨t, fr, (hb.block _ hl).trans h⟩
structure RowAt (w : World) (b : Nat) : Prop where
  lt : b < w.heap.size
  c0 : w.cell? ⟨b, 0, none⟩ = some (.string ⟨#[]⟩)
  c1 : w.cell? ⟨b, 1, none⟩ = some (.int .i64 0)
  c2 : w.cell? ⟨b, 2, none⟩ = some (.int .i64 0)
  c3 : w.cell? ⟨b, 3, none⟩ = some (.int .i64 0)
  f0 : w.frozen? ⟨b, 0, none⟩ = false
  f1 : w.frozen? ⟨b, 1, none⟩ = false
  f2 : w.frozen? ⟨b, 2, none⟩ = false
  f3 : w.frozen? ⟨b, 3, none⟩ = false
theorem c_find0 (s : ByteArray) (w : World) (hP : PTab w)  (q0 : isPl 0 s = true) :
    Calls Tryd.prog 48 #[.string s] w fun e w' => e = .returned (.tuple #[.agg #[.string ⟨#[109, 101, 114, 99, 117, 114, 121]⟩, .int .i64 387, .int .i64 986042219, .int .i64 11367595694444], .int .i64 0]) ∧ Below w.heap.size w w' := by
  have hl := hP.lt
  obtain ⟨tt, fr, hg⟩ := hP.cells
  have HG1 : Hid (∀ o, (w.alloc o).heap[(0 : Nat)]? = some (.cells plCells tt fr)) := Lib.hid (fun o => (((Below.refl w.heap.size w).alloc (Nat.le_refl _) o).block _ hl).trans hg)
  clear hP hg
  unfold isPl plNm at q0
  have hgen := sgen; have hgen2 := sgen2; have hgen3 := sgen3; go_enter Tryd.func48, Tryd.ntmps48
  iterate 16 (first | go_step | go_skip | go_back | go_upon | go_guarded)
  refine wp_load_row 93 (.global 0) rfl 0 ?_ tt plCells fr _ (HG1.out _) Tryd.underlying93 ?_ ?_ ?_
  focus rfl
  focus rfl
  focus kernel_rfl
  go_wp2_with fail
  clear HG1
  go_loopg [7] 5 (fun gk i wr => ∃ k : Nat, k ≤ 0 ∧ gk + k = 5 ∧ i = .int .i64 k ∧ Below w.heap.size w wr ∧ RowAt wr w.heap.size)
  case atStart => exact ⟨0, by omega, by omega, rfl, (Below.refl _ _).alloc (Nat.le_refl _) _, by constructor <;> go_simp⟩
  case round =>
    obtain ⟨k, hkK, hk, rfl, hbel, hR⟩ := hrel
    have hsz := hbel.size
    obtain ⟨r1, r2, r3, r4, r5, r6, r7, r8, r9⟩ := hR
    rcases (show k = 0 by omega) with rfl
    · have hix := plIx0
      have hq : ([109, 101, 114, 99, 117, 114, 121] == s.toList) = true := q0
      go_wp2
      refine bodyPost_ret (v := .tuple #[.agg #[.string ⟨#[109, 101, 114, 99, 117, 114, 121]⟩, .int .i64 387, .int .i64 986042219, .int .i64 11367595694444], .int .i64 0]) (by simp only [results, Tryd.results48]; go_simp) rfl ⟨rfl, ?_⟩
      exact belz
theorem c_find1 (s : ByteArray) (w : World) (hP : PTab w) (q0 : isPl 0 s = false) (q1 : isPl 1 s = true) :
    Calls Tryd.prog 48 #[.string s] w fun e w' => e = .returned (.tuple #[.agg #[.string ⟨#[118, 101, 110, 117, 115]⟩, .int .i64 723, .int .i64 204930817, .int .i64 4450362055556], .int .i64 0]) ∧ Below w.heap.size w w' := by
  have hl := hP.lt
  obtain ⟨tt, fr, hg⟩ := hP.cells
  have HG1 : Hid (∀ o, (w.alloc o).heap[(0 : Nat)]? = some (.cells plCells tt fr)) := Lib.hid (fun o => (((Below.refl w.heap.size w).alloc (Nat.le_refl _) o).block _ hl).trans hg)
  clear hP hg
  unfold isPl plNm at q0
  unfold isPl plNm at q1
  have hgen := sgen; have hgen2 := sgen2; have hgen3 := sgen3; go_enter Tryd.func48, Tryd.ntmps48
  iterate 16 (first | go_step | go_skip | go_back | go_upon | go_guarded)
  refine wp_load_row 93 (.global 0) rfl 0 ?_ tt plCells fr _ (HG1.out _) Tryd.underlying93 ?_ ?_ ?_
  focus rfl
  focus rfl
  focus kernel_rfl
  go_wp2_with fail
  clear HG1
  go_loopg [7] 5 (fun gk i wr => ∃ k : Nat, k ≤ 1 ∧ gk + k = 5 ∧ i = .int .i64 k ∧ Below w.heap.size w wr ∧ RowAt wr w.heap.size)
  case atStart => exact ⟨0, by omega, by omega, rfl, (Below.refl _ _).alloc (Nat.le_refl _) _, by constructor <;> go_simp⟩
  case round =>
    obtain ⟨k, hkK, hk, rfl, hbel, hR⟩ := hrel
    have hsz := hbel.size
    obtain ⟨r1, r2, r3, r4, r5, r6, r7, r8, r9⟩ := hR
    rcases (show k = 0 ∨ k = 1 by omega) with rfl | rfl
    · have hix := plIx0
      have hq : ([109, 101, 114, 99, 117, 114, 121] == s.toList) = false := q0
      go_wp2
      go_roundg (5 - 1)
      case measure => omega
      case rel => exact ⟨1, by omega, by omega, by go_num, by exact belz, by constructor <;> go_simp⟩
    · have hix := plIx1
      have hq : ([118, 101, 110, 117, 115] == s.toList) = true := q1
      go_wp2
      refine bodyPost_ret (v := .tuple #[.agg #[.string ⟨#[118, 101, 110, 117, 115]⟩, .int .i64 723, .int .i64 204930817, .int .i64 4450362055556], .int .i64 0]) (by simp only [results, Tryd.results48]; go_simp) rfl ⟨rfl, ?_⟩
      exact belz
theorem c_find2 (s : ByteArray) (w : World) (hP : PTab w) (q0 : isPl 0 s = false) (q1 : isPl 1 s = false) (q2 : isPl 2 s = true) :
    Calls Tryd.prog 48 #[.string s] w fun e w' => e = .returned (.tuple #[.agg #[.string ⟨#[109, 97, 114, 115]⟩, .int .i64 1524, .int .i64 214414189, .int .i64 1455613000000], .int .i64 0]) ∧ Below w.heap.size w w' := by
  have hl := hP.lt
  obtain ⟨tt, fr, hg⟩ := hP.cells
  have HG1 : Hid (∀ o, (w.alloc o).heap[(0 : Nat)]? = some (.cells plCells tt fr)) := Lib.hid (fun o => (((Below.refl w.heap.size w).alloc (Nat.le_refl _) o).block _ hl).trans hg)
  clear hP hg
  unfold isPl plNm at q0
  unfold isPl plNm at q1
  unfold isPl plNm at q2
  have hgen := sgen; have hgen2 := sgen2; have hgen3 := sgen3; go_enter Tryd.func48, Tryd.ntmps48
  iterate 16 (first | go_step | go_skip | go_back | go_upon | go_guarded)
  refine wp_load_row 93 (.global 0) rfl 0 ?_ tt plCells fr _ (HG1.out _) Tryd.underlying93 ?_ ?_ ?_
  focus rfl
  focus rfl
  focus kernel_rfl
  go_wp2_with fail
  clear HG1
  go_loopg [7] 5 (fun gk i wr => ∃ k : Nat, k ≤ 2 ∧ gk + k = 5 ∧ i = .int .i64 k ∧ Below w.heap.size w wr ∧ RowAt wr w.heap.size)
  case atStart => exact ⟨0, by omega, by omega, rfl, (Below.refl _ _).alloc (Nat.le_refl _) _, by constructor <;> go_simp⟩
  case round =>
    obtain ⟨k, hkK, hk, rfl, hbel, hR⟩ := hrel
    have hsz := hbel.size
    obtain ⟨r1, r2, r3, r4, r5, r6, r7, r8, r9⟩ := hR
    rcases (show k = 0 ∨ k = 1 ∨ k = 2 by omega) with rfl | rfl | rfl
    · have hix := plIx0
      have hq : ([109, 101, 114, 99, 117, 114, 121] == s.toList) = false := q0
      go_wp2
      go_roundg (5 - 1)
      case measure => omega
      case rel => exact ⟨1, by omega, by omega, by go_num, by exact belz, by constructor <;> go_simp⟩
    · have hix := plIx1
      have hq : ([118, 101, 110, 117, 115] == s.toList) = false := q1
      go_wp2
      go_roundg (5 - 2)
      case measure => omega
      case rel => exact ⟨2, by omega, by omega, by go_num, by exact belz, by constructor <;> go_simp⟩
    · have hix := plIx2
      have hq : ([109, 97, 114, 115] == s.toList) = true := q2
      go_wp2
      refine bodyPost_ret (v := .tuple #[.agg #[.string ⟨#[109, 97, 114, 115]⟩, .int .i64 1524, .int .i64 214414189, .int .i64 1455613000000], .int .i64 0]) (by simp only [results, Tryd.results48]; go_simp) rfl ⟨rfl, ?_⟩
      exact belz
theorem c_find3 (s : ByteArray) (w : World) (hP : PTab w) (q0 : isPl 0 s = false) (q1 : isPl 1 s = false) (q2 : isPl 2 s = false) (q3 : isPl 3 s = true) :
    Calls Tryd.prog 48 #[.string s] w fun e w' => e = .returned (.tuple #[.agg #[.string ⟨#[106, 117, 112, 105, 116, 101, 114]⟩, .int .i64 5203, .int .i64 589101452, .int .i64 230792472222], .int .i64 0]) ∧ Below w.heap.size w w' := by
  have hl := hP.lt
  obtain ⟨tt, fr, hg⟩ := hP.cells
  have HG1 : Hid (∀ o, (w.alloc o).heap[(0 : Nat)]? = some (.cells plCells tt fr)) := Lib.hid (fun o => (((Below.refl w.heap.size w).alloc (Nat.le_refl _) o).block _ hl).trans hg)
  clear hP hg
  unfold isPl plNm at q0
  unfold isPl plNm at q1
  unfold isPl plNm at q2
  unfold isPl plNm at q3
  have hgen := sgen; have hgen2 := sgen2; have hgen3 := sgen3; go_enter Tryd.func48, Tryd.ntmps48
  iterate 16 (first | go_step | go_skip | go_back | go_upon | go_guarded)
  refine wp_load_row 93 (.global 0) rfl 0 ?_ tt plCells fr _ (HG1.out _) Tryd.underlying93 ?_ ?_ ?_
  focus rfl
  focus rfl
  focus kernel_rfl
  go_wp2_with fail
  clear HG1
  go_loopg [7] 5 (fun gk i wr => ∃ k : Nat, k ≤ 3 ∧ gk + k = 5 ∧ i = .int .i64 k ∧ Below w.heap.size w wr ∧ RowAt wr w.heap.size)
  case atStart => exact ⟨0, by omega, by omega, rfl, (Below.refl _ _).alloc (Nat.le_refl _) _, by constructor <;> go_simp⟩
  case round =>
    obtain ⟨k, hkK, hk, rfl, hbel, hR⟩ := hrel
    have hsz := hbel.size
    obtain ⟨r1, r2, r3, r4, r5, r6, r7, r8, r9⟩ := hR
    rcases (show k = 0 ∨ k = 1 ∨ k = 2 ∨ k = 3 by omega) with rfl | rfl | rfl | rfl
    · have hix := plIx0
      have hq : ([109, 101, 114, 99, 117, 114, 121] == s.toList) = false := q0
      go_wp2
      go_roundg (5 - 1)
      case measure => omega
      case rel => exact ⟨1, by omega, by omega, by go_num, by exact belz, by constructor <;> go_simp⟩
    · have hix := plIx1
      have hq : ([118, 101, 110, 117, 115] == s.toList) = false := q1
      go_wp2
      go_roundg (5 - 2)
      case measure => omega
      case rel => exact ⟨2, by omega, by omega, by go_num, by exact belz, by constructor <;> go_simp⟩
    · have hix := plIx2
      have hq : ([109, 97, 114, 115] == s.toList) = false := q2
      go_wp2
      go_roundg (5 - 3)
      case measure => omega
      case rel => exact ⟨3, by omega, by omega, by go_num, by exact belz, by constructor <;> go_simp⟩
    · have hix := plIx3
      have hq : ([106, 117, 112, 105, 116, 101, 114] == s.toList) = true := q3
      go_wp2
      refine bodyPost_ret (v := .tuple #[.agg #[.string ⟨#[106, 117, 112, 105, 116, 101, 114]⟩, .int .i64 5203, .int .i64 589101452, .int .i64 230792472222], .int .i64 0]) (by simp only [results, Tryd.results48]; go_simp) rfl ⟨rfl, ?_⟩
      exact belz
theorem c_find4 (s : ByteArray) (w : World) (hP : PTab w) (q0 : isPl 0 s = false) (q1 : isPl 1 s = false) (q2 : isPl 2 s = false) (q3 : isPl 3 s = false) (q4 : isPl 4 s = true) :
    Calls Tryd.prog 48 #[.string s] w fun e w' => e = .returned (.tuple #[.agg #[.string ⟨#[115, 97, 116, 117, 114, 110]⟩, .int .i64 9537, .int .i64 310632725, .int .i64 92900388889], .int .i64 0]) ∧ Below w.heap.size w w' := by
  have hl := hP.lt
  obtain ⟨tt, fr, hg⟩ := hP.cells
  have HG1 : Hid (∀ o, (w.alloc o).heap[(0 : Nat)]? = some (.cells plCells tt fr)) := Lib.hid (fun o => (((Below.refl w.heap.size w).alloc (Nat.le_refl _) o).block _ hl).trans hg)
  clear hP hg
  unfold isPl plNm at q0
  unfold isPl plNm at q1
  unfold isPl plNm at q2
  unfold isPl plNm at q3
  unfold isPl plNm at q4
  have hgen := sgen; have hgen2 := sgen2; have hgen3 := sgen3; go_enter Tryd.func48, Tryd.ntmps48
  iterate 16 (first | go_step | go_skip | go_back | go_upon | go_guarded)
  refine wp_load_row 93 (.global 0) rfl 0 ?_ tt plCells fr _ (HG1.out _) Tryd.underlying93 ?_ ?_ ?_
  focus rfl
  focus rfl
  focus kernel_rfl
  go_wp2_with fail
  clear HG1
  go_loopg [7] 5 (fun gk i wr => ∃ k : Nat, k ≤ 4 ∧ gk + k = 5 ∧ i = .int .i64 k ∧ Below w.heap.size w wr ∧ RowAt wr w.heap.size)
  case atStart => exact ⟨0, by omega, by omega, rfl, (Below.refl _ _).alloc (Nat.le_refl _) _, by constructor <;> go_simp⟩
  case round =>
    obtain ⟨k, hkK, hk, rfl, hbel, hR⟩ := hrel
    have hsz := hbel.size
    obtain ⟨r1, r2, r3, r4, r5, r6, r7, r8, r9⟩ := hR
    rcases (show k = 0 ∨ k = 1 ∨ k = 2 ∨ k = 3 ∨ k = 4 by omega) with rfl | rfl | rfl | rfl | rfl
    · have hix := plIx0
      have hq : ([109, 101, 114, 99, 117, 114, 121] == s.toList) = false := q0
      go_wp2
      go_roundg (5 - 1)
      case measure => omega
      case rel => exact ⟨1, by omega, by omega, by go_num, by exact belz, by constructor <;> go_simp⟩
    · have hix := plIx1
      have hq : ([118, 101, 110, 117, 115] == s.toList) = false := q1
      go_wp2
      go_roundg (5 - 2)
      case measure => omega
      case rel => exact ⟨2, by omega, by omega, by go_num, by exact belz, by constructor <;> go_simp⟩
    · have hix := plIx2
      have hq : ([109, 97, 114, 115] == s.toList) = false := q2
      go_wp2
      go_roundg (5 - 3)
      case measure => omega
      case rel => exact ⟨3, by omega, by omega, by go_num, by exact belz, by constructor <;> go_simp⟩
    · have hix := plIx3
      have hq : ([106, 117, 112, 105, 116, 101, 114] == s.toList) = false := q3
      go_wp2
      go_roundg (5 - 4)
      case measure => omega
      case rel => exact ⟨4, by omega, by omega, by go_num, by exact belz, by constructor <;> go_simp⟩
    · have hix := plIx4
      have hq : ([115, 97, 116, 117, 114, 110] == s.toList) = true := q4
      go_wp2
      refine bodyPost_ret (v := .tuple #[.agg #[.string ⟨#[115, 97, 116, 117, 114, 110]⟩, .int .i64 9537, .int .i64 310632725, .int .i64 92900388889], .int .i64 0]) (by simp only [results, Tryd.results48]; go_simp) rfl ⟨rfl, ?_⟩
      exact belz
theorem c_find5 (s : ByteArray) (w : World) (hP : PTab w) (q0 : isPl 0 s = false) (q1 : isPl 1 s = false) (q2 : isPl 2 s = false) (q3 : isPl 3 s = false) (q4 : isPl 4 s = false) :
    Calls Tryd.prog 48 #[.string s] w fun e w' => e = .returned (.tuple #[.agg #[.string ⟨#[]⟩, .int .i64 0, .int .i64 0, .int .i64 0], .int .i64 5]) ∧ Below w.heap.size w w' := by
  have hl := hP.lt
  obtain ⟨tt, fr, hg⟩ := hP.cells
  have HG1 : Hid (∀ o, (w.alloc o).heap[(0 : Nat)]? = some (.cells plCells tt fr)) := Lib.hid (fun o => (((Below.refl w.heap.size w).alloc (Nat.le_refl _) o).block _ hl).trans hg)
  clear hP hg
  unfold isPl plNm at q0
  unfold isPl plNm at q1
  unfold isPl plNm at q2
  unfold isPl plNm at q3
  unfold isPl plNm at q4
  have hgen := sgen; have hgen2 := sgen2; have hgen3 := sgen3; go_enter Tryd.func48, Tryd.ntmps48
  iterate 16 (first | go_step | go_skip | go_back | go_upon | go_guarded)
  refine wp_load_row 93 (.global 0) rfl 0 ?_ tt plCells fr _ (HG1.out _) Tryd.underlying93 ?_ ?_ ?_
  focus rfl
  focus rfl
  focus kernel_rfl
  go_wp2_with fail
  clear HG1
  go_loopg [7] 5 (fun gk i wr => ∃ k : Nat, k ≤ 5 ∧ gk + k = 5 ∧ i = .int .i64 k ∧ Below w.heap.size w wr ∧ RowAt wr w.heap.size)
  case atStart => exact ⟨0, by omega, by omega, rfl, (Below.refl _ _).alloc (Nat.le_refl _) _, by constructor <;> go_simp⟩
  case round =>
    obtain ⟨k, hkK, hk, rfl, hbel, hR⟩ := hrel
    have hsz := hbel.size
    obtain ⟨r1, r2, r3, r4, r5, r6, r7, r8, r9⟩ := hR
    rcases (show k = 0 ∨ k = 1 ∨ k = 2 ∨ k = 3 ∨ k = 4 ∨ k = 5 by omega) with rfl | rfl | rfl | rfl | rfl | rfl
    · have hix := plIx0
      have hq : ([109, 101, 114, 99, 117, 114, 121] == s.toList) = false := q0
      go_wp2
      go_roundg (5 - 1)
      case measure => omega
      case rel => exact ⟨1, by omega, by omega, by go_num, by exact belz, by constructor <;> go_simp⟩
    · have hix := plIx1
      have hq : ([118, 101, 110, 117, 115] == s.toList) = false := q1
      go_wp2
      go_roundg (5 - 2)
      case measure => omega
      case rel => exact ⟨2, by omega, by omega, by go_num, by exact belz, by constructor <;> go_simp⟩
    · have hix := plIx2
      have hq : ([109, 97, 114, 115] == s.toList) = false := q2
      go_wp2
      go_roundg (5 - 3)
      case measure => omega
      case rel => exact ⟨3, by omega, by omega, by go_num, by exact belz, by constructor <;> go_simp⟩
    · have hix := plIx3
      have hq : ([106, 117, 112, 105, 116, 101, 114] == s.toList) = false := q3
      go_wp2
      go_roundg (5 - 4)
      case measure => omega
      case rel => exact ⟨4, by omega, by omega, by go_num, by exact belz, by constructor <;> go_simp⟩
    · have hix := plIx4
      have hq : ([115, 97, 116, 117, 114, 110] == s.toList) = false := q4
      go_wp2
      go_roundg (5 - 5)
      case measure => omega
      case rel => exact ⟨5, by omega, by omega, by go_num, by exact belz, by constructor <;> go_simp⟩
    · go_wp2
      refine bodyPost_ret (v := .tuple #[.agg #[.string ⟨#[]⟩, .int .i64 0, .int .i64 0, .int .i64 0], .int .i64 5]) (by simp only [results, Tryd.results48]; go_simp) rfl ⟨rfl, ?_⟩
      exact belz
end Go.Proofs.YtjkhoepohiafeaaDoor
