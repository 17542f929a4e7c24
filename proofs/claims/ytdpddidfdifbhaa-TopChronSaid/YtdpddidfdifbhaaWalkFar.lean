/- The contract of chron.farthest. -/
import Derived.Test.YtdpddidfdifbhaaWalkChr
import Derived.Test.YtdpddidfdifbhaaPlainMix
import Derived.Deep.OwnRows
import Derived.Deep.Light
import Derived.StillTailTactics
import Derived.BigRegion
import Derived.Deep.DeepCutAuto
set_option linter.unusedVariables false
set_option linter.unusedSimpArgs false
namespace Go.Proofs.Ytdpddidfdifbhaa
open Go.RowKit
theorem info_int' : (Try.prog.info? 3).map (fun i => (i.zero, i.size, i.bytes)) = some (some (.int .i64 0), 1, 8) := by kernel_rfl
theorem info_ints : (Try.prog.info? 38).map (fun i => (i.zero, i.size, i.bytes)) = some (some (.slice none 0 0), 1, 24) := by kernel_rfl
/-- The head of the matrix, r rows made. -/
def topF (B n r : Nat) : Nat → Value := fun i => if i < r then .slice (some ⟨B + 1 + i, 0, none⟩) n n else .slice none 0 0
/-- A matrix that the call has made: the rows lie behind the head. -/
structure Mat (w : World) (B n : Nat) (D : Nat → Nat → Int) : Prop where
  top : w.rowIs B 38 n (fun i => .slice (some ⟨B + 1 + i, 0, none⟩) n n)
  row : ∀ i, i < n → w.rowIs (B + 1 + i) 3 n (fun j => .int .i64 (D i j))
theorem rowIs_below {w w' : World} {b : Nat} {t : TypeId} {n : Nat} {f : Nat → Value} (h : w.rowIs b t n f) (hb : Below w.heap.size w w') : w'.rowIs b t n f :=
  h.of_block (hb.block b h.lt)
theorem Mat.below {w w' : World} {B n : Nat} {D : Nat → Nat → Int} (h : Mat w B n D) (hb : Below w.heap.size w w') : Mat w' B n D :=
  ⟨rowIs_below h.top hb, fun i hi => rowIs_below (h.row i hi) hb⟩
theorem Mat.congr {w : World} {B n : Nat} {D D' : Nat → Nat → Int} (h : Mat w B n D) (e : ∀ i j, i < n → j < n → D i j = D' i j) : Mat w B n D' :=
  ⟨h.top, fun i hi => (h.row i hi).congr (fun j hj => by rw [e i j hi hj])⟩
theorem Mat.drew {w : World} {B n : Nat} {D : Nat → Nat → Int} (h : Mat w B n D) : Mat w.drew B n D := ⟨h.top.drew, fun i hi => (h.row i hi).drew⟩
theorem Mat.set {w : World} {B n : Nat} {D : Nat → Nat → Int} (h : Mat w B n D) (i j : Nat) (v : Int) : Mat (w.setCell ⟨B + 1 + i, j, none⟩ (.int .i64 v)) B n (stM D i j v) := by
  refine ⟨h.top.setOther (by show B ≠ B + 1 + i; omega) _, fun x hx => ?_⟩
  by_cases e : x = i
  · subst e
    refine ((h.row x hx).set j _).congr (fun y hy => ?_)
    unfold stM
    by_cases e2 : y = j
    · subst e2; rw [if_pos rfl, if_pos ⟨rfl, rfl⟩]
    · rw [if_neg e2, if_neg (fun q => e2 q.2)]
  · refine ((h.row x hx).setOther (by show B + 1 + x ≠ B + 1 + i; omega) _).congr (fun y hy => ?_)
    unfold stM
    rw [if_neg (fun q => e q.1)]
theorem Mat.lt {w : World} {B n : Nat} {D : Nat → Nat → Int} (h : Mat w B n D) {i : Nat} (hi : i < n) : B + 1 + i < w.heap.size := (h.row i hi).lt
theorem Mat.c0 {w : World} {B n : Nat} {D : Nat → Nat → Int} (h : Mat w B n D) {i : Nat} (hi : i < n) : w.cell? ⟨B, i, none⟩ = some (.slice (some ⟨B + 1 + i, 0, none⟩) n n) := h.top.cell hi
theorem Mat.c1 {w : World} {B n : Nat} {D : Nat → Nat → Int} (h : Mat w B n D) {i j : Nat} (hi : i < n) (hj : j < n) : w.cell? ⟨B + 1 + i, j, none⟩ = some (.int .i64 (D i j)) := (h.row i hi).cell hj
theorem Mat.f1 {w : World} {B n : Nat} {D : Nat → Nat → Int} (h : Mat w B n D) {i : Nat} (hi : i < n) (j : Nat) : w.frozen? ⟨B + 1 + i, j, none⟩ = false := (h.row i hi).frozen j
/-- While the rows are made. -/
structure MatR (w : World) (B n r : Nat) : Prop where
  size : w.heap.size = B + 1 + r
  top : w.rowIs B 38 n (topF B n r)
  row : ∀ i, i < r → w.rowIs (B + 1 + i) 3 n (fun j => .int .i64 (m0 i j))
structure MatC (w : World) (B n r c : Nat) : Prop where
  size : w.heap.size = B + 1 + r + 1
  top : w.rowIs B 38 n (topF B n (r + 1))
  row : ∀ i, i < r → w.rowIs (B + 1 + i) 3 n (fun j => .int .i64 (m0 i j))
  cur : w.rowIs (B + 1 + r) 3 n (fun j => if j < c then .int .i64 (m0 r j) else .int .i64 0)
theorem matR_start (w : World) (n : Nat) : MatR (w.alloc (.cells (madeCells #[.slice none 0 0] n) 38)) w.heap.size n 0 :=
  ⟨by simp, (World.rowIs_made w _ n _).congr (fun j _ => by simp [topF]), fun i hi => absurd hi (Nat.not_lt_zero _)⟩
theorem matC_start {w : World} {B n r : Nat} (h : MatR w B n r) : MatC ((w.alloc (.cells (madeCells #[.int .i64 0] n) 3)).setCell ⟨B, r, none⟩ (.slice (some ⟨B + 1 + r, 0, none⟩) n n)) B n r 0 := by
  have hnew := World.rowIs_made w (.int .i64 0) n 3
  rw [h.size] at hnew
  refine ⟨by simp [h.size], ((h.top.alloc _).set r _).congr (fun j _ => ?_), fun j hj => ((h.row j hj).alloc _).setOther (by show B + 1 + j ≠ B; omega) _, (hnew.setOther (by show B + 1 + r ≠ B; omega) _).congr (fun i _ => by simp)⟩
  simp only [topF]
  by_cases e : j = r
  · subst e; simp
  · rw [if_neg e]
    by_cases hlt : j < r
    · rw [if_pos hlt, if_pos (by omega)]
    · rw [if_neg hlt, if_neg (by omega)]
theorem matC_step {w : World} {B n r c : Nat} (h : MatC w B n r c) (hne : r ≠ c) : MatC (w.setCell ⟨B + 1 + r, c, none⟩ (.int .i64 1000000000)) B n r (c + 1) := by
  refine ⟨by simp [h.size], h.top.setOther (by show B ≠ B + 1 + r; omega) _, fun j hj => (h.row j hj).setOther (by show B + 1 + j ≠ B + 1 + r; omega) _, (h.cur.set c _).congr (fun i _ => ?_)⟩
  by_cases e : i = c
  · subst e
    rw [if_pos rfl, if_pos (by omega)]
    unfold m0; rw [if_neg hne]; rfl
  · rw [if_neg e]
    by_cases hlt : i < c
    · rw [if_pos hlt, if_pos (by omega)]
    · rw [if_neg hlt, if_neg (by omega)]
theorem matC_stay {w : World} {B n r : Nat} (h : MatC w B n r r) : MatC w B n r (r + 1) := by
  refine ⟨h.size, h.top, h.row, h.cur.congr (fun i _ => ?_)⟩
  by_cases hlt : i < r
  · rw [if_pos hlt, if_pos (by omega)]
  · by_cases e : i = r
    · subst e; rw [if_neg (by omega), if_pos (by omega)]; unfold m0; rw [if_pos rfl]
    · rw [if_neg hlt, if_neg (by omega)]
theorem matC_done {w : World} {B n r : Nat} (h : MatC w B n r n) : MatR w B n (r + 1) :=
  ⟨by rw [h.size]; omega, h.top, fun j hj => by
    by_cases e : j = r
    · subst e; exact h.cur.congr (fun i hi => by rw [if_pos hi])
    · exact h.row j (by omega)⟩
theorem matR_done {w : World} {B n : Nat} (h : MatR w B n n) : Mat w B n m0 :=
  ⟨h.top.congr (fun j hj => by simp [topF, hj]), h.row⟩
def FarPost (w : World) (n : Nat) (l : List Bd) (e : Ending) (w' : World) : Prop :=
  Below w.heap.size w w' ∧ ((FwOk n l ∧ e = .returned (.tuple #[.slice (some ⟨w.heap.size, 0, none⟩) n n, .bool true]) ∧ Mat w' w.heap.size n (fw l n)) ∨ (¬ FwOk n l ∧ e = .returned (.tuple #[.slice none 0 0, .bool false])))
set_option maxRecDepth 1000000 in
set_option maxHeartbeats 6400000 in
theorem c_farthest (n : Nat) (a : Option Addr) (cap : Nat) (l : List Bd) (w : World) (hc : l.length ≤ cap) (hv : BdOk n l) (hs : BdSlice w a l) :
    Calls Try.prog 53 #[.int .i64 n, .slice a l.length cap] w (FarPost w n l) := by
  have n1 := hv.n1
  have n12 := hv.n12
  have h40 := hv.len
  have hmk1 := run_make_row' (P := Try.prog) 87 38 (.slice none 0 0) 24 Try.underlying87 info_ints rfl .i64 .i64 n (by omega) (by omega)
  have hmk2 := run_make_row' (P := Try.prog) 38 3 (.int .i64 0) 8 Try.underlying38 info_int' rfl .i64 .i64 n (by omega) (by omega)
  have HV := Lib.hid hv
  clear hv
  have hgen := sgen; have hgen2 := sgen2; have hgen3 := sgen3; go_enter Try.func53, Try.ntmps53
  go_wp2
  clear hmk1
  go_loopg [19] n (fun gk i wr => ∃ r : Nat, r ≤ n ∧ gk = n - r ∧ i = .int .i64 r ∧ Below w.heap.size w wr ∧ MatR wr w.heap.size n r)
  case atStart =>
    refine ⟨0, Nat.zero_le _, rfl, rfl, ?_, matR_start w n⟩
    (repeat' (first | (with_reducible exact Below.refl _ _) | (with_reducible assumption) | (with_reducible refine Below.call ?_ ?_ (by with_reducible assumption)) | (with_reducible refine Below.alloc ?_ ?_ _) | (with_reducible refine Below.drew ?_) | (with_reducible refine below_drewN ?_ _) | (with_reducible refine Below.setCell ?_ ?_ _) | (with_reducible exact Nat.le_refl _) | omega | (simp only [World.size_alloc, World.size_setCell, World.size_drew, World.heap_drewN] at *; omega)))
  case round =>
    obtain ⟨r, hr, rfl, rfl, hbel, hM⟩ := hrel
    by_cases hrn : r < n
    · have hrz : (r : Int) < (n : Int) := by omega
      have hsize := hM.size
      have hst1 : ∀ o, (wr.alloc o).cell? ⟨w.heap.size, r, none⟩ = some (topF w.heap.size n r r) := fun o => (hM.top.alloc o).cell hrn
      have hst2 : ∀ o, (wr.alloc o).frozen? ⟨w.heap.size, r, none⟩ = false := fun o => (hM.top.alloc o).frozen r
      go_wp2
      have hC0 := matC_start hM
      have hbC : Below w.heap.size w ((wr.alloc (.cells (madeCells #[.int .i64 0] n) 3)).setCell ⟨w.heap.size, r, none⟩ (.slice (some ⟨w.heap.size + 1 + r, 0, none⟩) n n)) := by (repeat' (first | (with_reducible exact Below.refl _ _) | (with_reducible assumption) | (with_reducible refine Below.call ?_ ?_ (by with_reducible assumption)) | (with_reducible refine Below.alloc ?_ ?_ _) | (with_reducible refine Below.drew ?_) | (with_reducible refine below_drewN ?_ _) | (with_reducible refine Below.setCell ?_ ?_ _) | (with_reducible exact Nat.le_refl _) | omega | (simp only [World.size_alloc, World.size_setCell, World.size_drew, World.heap_drewN] at *; omega)))
      clear hmk2 hst1 hst2 hsize hM
      go_loopg [32] n (fun gk i wi => ∃ c : Nat, c ≤ n ∧ gk = n - c ∧ i = .int .i64 c ∧ Below w.heap.size w wi ∧ MatC wi w.heap.size n r c)
      case atStart => exact ⟨0, Nat.zero_le _, rfl, rfl, hbC, hC0⟩
      case round =>
        obtain ⟨c, hcn, rfl, rfl, hbel2, hC⟩ := hrel
        clear hC0 hbC
        by_cases hcl : c < n
        · have hcz : (c : Int) < (n : Int) := by omega
          by_cases hrc : r = c
          · subst hrc
            have t1 : ((r : Int) != (r : Int)) = false := by simp
            go_wp2
            go_roundg (n - (r + 1))
            case measure => go_light; omega
            case rel => go_light; exact ⟨r + 1, by omega, rfl, by go_num, hbel2, matC_stay hC⟩
          · have t1 : ((r : Int) != (c : Int)) = true := by simp; omega
            have u1 : wr.cell? ⟨w.heap.size, r, none⟩ = some (.slice (some ⟨w.heap.size + 1 + r, 0, none⟩) n n) := by simpa [topF] using hC.top.cell hrn
            have u2 : wr.cell? ⟨w.heap.size + 1 + r, c, none⟩ = some (.int .i64 0) := by simpa using hC.cur.cell hcl
            have u3 : wr.frozen? ⟨w.heap.size + 1 + r, c, none⟩ = false := hC.cur.frozen c
            go_wp2
            go_roundg (n - (c + 1))
            case measure => go_light; omega
            case rel => go_light; exact ⟨c + 1, by omega, rfl, by go_num, by (repeat' (first | (with_reducible exact Below.refl _ _) | (with_reducible assumption) | (with_reducible refine Below.call ?_ ?_ (by with_reducible assumption)) | (with_reducible refine Below.alloc ?_ ?_ _) | (with_reducible refine Below.drew ?_) | (with_reducible refine below_drewN ?_ _) | (with_reducible refine Below.setCell ?_ ?_ _) | (with_reducible exact Nat.le_refl _) | omega | (simp only [World.size_alloc, World.size_setCell, World.size_drew, World.heap_drewN] at *; omega))), matC_step hC hrc⟩
        · obtain rfl : c = n := by omega
          go_wp2
          go_roundg (c - (r + 1))
          case measure => go_light; omega
          case rel => go_light; exact ⟨r + 1, by omega, rfl, by go_num, hbel2, matC_done hC⟩
    · obtain rfl : r = n := by omega
      have hM0 := matR_done hM
      clear hmk2 hM
      go_wp2
      obtain ⟨wo, rfl⟩ : ∃ wo : World, wo = wr := ⟨_, rfl⟩
      -- the constraints
      go_loopg [48] l.length (fun gk i wr => ∃ k : Nat, gk + k = l.length ∧ i = .int .i64 k ∧ Below w.heap.size w wr ∧ Mat wr w.heap.size r (mInit (l.take k)))
      case atStart => exact ⟨0, by omega, rfl, hbel, hM0⟩
      case round =>
        clear hbel hM0
        obtain ⟨k, hk, rfl, hbel, hM⟩ := hrel
        by_cases hlt : k < l.length
        · obtain ⟨b, off, ha, hb1, c0, c1, c2, c3⟩ := (hs.below (Nat.le_refl _) hbel) k hlt
          have ix1 := @ix_Bd a b off l.length cap k ha hlt
          have hsz := hbel.size
          have hsn := mInit_snoc l k hlt
          have hmem : l[k] ∈ l := List.getElem_mem hlt
          have v1 := HV.out.a0 _ hmem
          have v2 := HV.out.an _ hmem
          have v3 := HV.out.b0 _ hmem
          have v4 := HV.out.bn _ hmem
          have v5 := HV.out.ne _ hmem
          have v6 := HV.out.lo _ hmem
          have v7 := HV.out.le _ hmem
          have v8 := HV.out.hi _ hmem
          clear ha hmem
          generalize l[k] = x at *
          obtain ⟨xa, xb, xlo, xhi⟩ := x
          simp only at c0 c1 c2 c3 v1 v2 v3 v4 v5 v6 v7 v8
          obtain ⟨p, rfl⟩ : ∃ p : Nat, xa = p := ⟨xa.toNat, by omega⟩
          obtain ⟨q, rfl⟩ : ∃ q : Nat, xb = q := ⟨xb.toNat, by omega⟩
          have HN := Lib.hid hsn
          have HM := Lib.hid hM
          have hp : p < r := by omega
          have hq : q < r := by omega
          have hpq : p ≠ q := by omega
          have hMo : ∀ o, Mat (wr.alloc o) w.heap.size r (mInit (l.take k)) := fun o => hM.below ((Below.refl _ _).alloc (Nat.le_refl _) _)
          have g1 := fun o => (hMo o).c0 hp
          have g2 := fun o => (hMo o).c0 hq
          have g3 := fun o => (hMo o).c1 hp hq
          have g4 := fun o => (hMo o).c1 hq hp
          have g5 := fun o => (hMo o).f1 hp q
          have g6 := fun o => (hMo o).f1 hq p
          have g7 := hM.lt hp
          have g8 := hM.lt hq
          clear hsn hM
          generalize mInit (l.take k) = M at *
          go_upto_region 16 with fail
          go_cut [71] (fun x71 wc => Below w.heap.size w wc ∧ Mat wc w.heap.size r (addE M p q xhi) ∧ wr.heap.size < wc.heap.size ∧ wc.cell? ⟨wr.heap.size, 0, none⟩ = some (.int .i64 p) ∧ wc.cell? ⟨wr.heap.size, 1, none⟩ = some (.int .i64 q) ∧ wc.cell? ⟨wr.heap.size, 2, none⟩ = some (.int .i64 xlo))
          case first =>
            rcases (show (M p q ≤ xhi) ∨ (xhi < M p q ∧ xhi ≤ M p q) by omega) with e1 | ⟨e1, e1'⟩
            all_goals
              go_wp2_with fail
              (refine Go.wp_region_still_tail 20 (by kernel_rfl) (by kernel_rfl) ?_; simp only [List.take_succ_cons, List.take_zero, List.drop_succ_cons, List.drop_zero]; change Go.wpStill _ _ (World.drew _) (fun a' => wpList _ _ _ _ a' (World.drew _)) _ _; (repeat still_step); refine Go.wpStill_nil ?_)
              go_wp2_with fail
              go_meet
              refine ⟨?_, ?_, by simp, by go_simp, by go_simp, by go_simp⟩
              · (repeat' (first | (with_reducible exact Below.refl _ _) | (with_reducible assumption) | (with_reducible refine Below.call ?_ ?_ (by with_reducible assumption)) | (with_reducible refine Below.alloc ?_ ?_ _) | (with_reducible refine Below.drew ?_) | (with_reducible refine below_drewN ?_ _) | (with_reducible refine Below.setCell ?_ ?_ _) | (with_reducible exact Nat.le_refl _) | omega | (simp only [World.size_alloc, World.size_setCell, World.size_drew, World.heap_drewN] at *; omega)))
              · refine (((HM.out.set p q _).below ((Below.refl _ _).alloc (Nat.le_refl _) _)).drew).congr (fun i j _ _ => ?_)
                unfold addE
                congr 1
                omega
          case rest =>
            obtain ⟨hbel', hM', hlt', d0, d1, d2⟩ := hcut
            have g1' := hM'.c0 hq
            have g2' := hM'.c1 hq hp
            have g3' := hM'.f1 hq p
            have hsz' := hbel'.size
            clear g1 g2 g3 g4 g5 g6 hMo c0 c1 c2 c3 ix1
            have ew : IntKind.i64.wrap (-xlo) = -xlo := IntWalk.i64_in _ (by omega)
            rcases (show (addE M p q xhi q p ≤ -xlo) ∨ (-xlo < addE M p q xhi q p ∧ -xlo ≤ addE M p q xhi q p) by omega) with e1 | ⟨e1, e1'⟩
            all_goals
              go_wp2_with fail
              (refine Go.wp_region_still_tail 21 (by kernel_rfl) (by kernel_rfl) ?_; simp only [List.take_succ_cons, List.take_zero, List.drop_succ_cons, List.drop_zero]; change Go.wpStill _ _ (World.drew _) (fun a' => wpList _ _ _ _ a' (World.drew _)) _ _; (repeat still_step); refine Go.wpStill_nil ?_)
              clear ew
              go_wp2_with fail
              go_roundg (l.length - (k + 1))
              case measure => go_light; omega
              case rel =>
                go_light
                refine ⟨k + 1, by omega, by go_num, ?_, ?_⟩
                · (repeat' (first | (with_reducible exact Below.refl _ _) | (with_reducible assumption) | (with_reducible refine Below.call ?_ ?_ (by with_reducible assumption)) | (with_reducible refine Below.alloc ?_ ?_ _) | (with_reducible refine Below.drew ?_) | (with_reducible refine below_drewN ?_ _) | (with_reducible refine Below.setCell ?_ ?_ _) | (with_reducible exact Nat.le_refl _) | omega | (simp only [World.size_alloc, World.size_setCell, World.size_drew, World.heap_drewN] at *; omega)))
                · refine ((hM'.set q p _).drew).congr (fun i j _ _ => ?_)
                  rw [HN.out]
                  show stM (addE M p q xhi) q p _ i j = stM (addE M p q xhi) q p (min (addE M p q xhi q p) (-xlo)) i j
                  congr 1
                  clear hM' HN HM
                  generalize addE M p q xhi q p = v at *
                  omega
        · have hkl : k = l.length := by omega
          rw [hkl, List.take_of_length_le (Nat.le_refl _)] at hM
          clear hkl
          obtain ⟨wq, rfl⟩ : ∃ wq : World, wq = wr := ⟨_, rfl⟩
          go_wp2_with fail
          -- the three loops
          go_loopg [95] r (fun gk i wr => ∃ k : Nat, k ≤ r ∧ gk = r - k ∧ i = .int .i64 k ∧ Below w.heap.size w wr ∧ Mat wr w.heap.size r (fw l k) ∧ ∀ m, m < k → ∀ i, i < r → 0 ≤ fw l (m + 1) i i)
          case atStart => exact ⟨0, Nat.zero_le _, rfl, rfl, hbel, hM, fun m hm => by omega⟩
          case round =>
            clear hbel hM
            obtain ⟨k, hkr, rfl, rfl, hbel, hM, hpos⟩ := hrel
            by_cases hk : k < r
            · have hkz : (k : Int) < (r : Int) := by omega
              have G := Lib.hid (good_fw HV.out k hkr hpos)
              have LOW := Lib.hid (fun i j => fw_low12 HV.out (show k ≤ 12 by omega) i j)
              have HP := Lib.hid hpos
              have HF : Hid (fw l (k + 1) = nw (fw l k) k) := Lib.hid rfl
              clear hpos
              generalize fw l k = D at *
              obtain ⟨wp, rfl⟩ : ∃ wp : World, wp = wr := ⟨_, rfl⟩
              go_wp2_with fail
              go_loopg [99] r (fun gk i wr => ∃ i' : Nat, i' ≤ r ∧ gk = r - i' ∧ i = .int .i64 i' ∧ Below w.heap.size w wr ∧ Mat wr w.heap.size r (mix D k i' 0))
              case atStart => exact ⟨0, Nat.zero_le _, rfl, rfl, hbel, hM.congr (fun i j _ _ => (mix_zero D k i j).symm)⟩
              case round =>
                clear hbel hM
                obtain ⟨i, hir, rfl, rfl, hbel, hM⟩ := hrel
                by_cases hi : i < r
                · have hiz : (i : Int) < (r : Int) := by omega
                  obtain ⟨wt, rfl⟩ : ∃ wt : World, wt = wr := ⟨_, rfl⟩
                  go_wp2_with fail
                  go_loopg [103] r (fun gk j wr => ∃ j' : Nat, j' ≤ r ∧ gk = r - j' ∧ j = .int .i64 j' ∧ Below w.heap.size w wr ∧ Mat wr w.heap.size r (mix D k i j'))
                  case atStart => exact ⟨0, Nat.zero_le _, rfl, rfl, hbel, hM⟩
                  case round =>
                    clear hbel hM
                    obtain ⟨j, hjr, rfl, rfl, hbel, hM⟩ := hrel
                    by_cases hj : j < r
                    · have hjz : (j : Int) < (r : Int) := by omega
                      have hsz := hbel.size
                      have g1 := hM.c0 hi
                      have g2 := hM.c0 hk
                      have g3 : wr.cell? ⟨w.heap.size + 1 + i, k, none⟩ = some (.int .i64 (D i k)) := by rw [hM.c1 hi hk, mix_col G.out hk]
                      have g4 : wr.cell? ⟨w.heap.size + 1 + k, j, none⟩ = some (.int .i64 (D k j)) := by rw [hM.c1 hk hj, mix_row G.out hk]
                      have g5 : wr.cell? ⟨w.heap.size + 1 + i, j, none⟩ = some (.int .i64 (D i j)) := by rw [hM.c1 hi hj, mix_cell]
                      have g6 := hM.f1 hi j
                      have hset := mix_set D k i j
                      have hstay := mix_stay D k i j
                      have HS := Lib.hid hset
                      have HT := Lib.hid hstay
                      have HM := Lib.hid hM
                      clear hset hstay hM
                      by_cases q1 : D i k < FAR
                      · have q1' : D i k < 1000000000 := q1
                        by_cases q2 : D k j < FAR
                        · have q2' : D k j < 1000000000 := q2
                          have l1 := LOW.out i k
                          have l2 := LOW.out k j
                          have hnw : nw D k i j = min (D i j) (D i k + D k j) := by unfold nw; rw [if_pos ⟨q1, q2⟩]
                          have HNW := Lib.hid hnw
                          clear hnw q1 q2
                          generalize D i k = dik at *
                          generalize D k j = dkj at *
                          generalize D i j = dij at *
                          have ew : IntKind.i64.wrap (dik + dkj) = dik + dkj := IntWalk.i64_in _ (by omega)
                          rcases (show (dij ≤ dik + dkj) ∨ (dik + dkj < dij ∧ dik + dkj ≤ dij) by omega) with e1 | ⟨e1, e1'⟩
                          all_goals
                            go_wp2_with fail
                            (refine Go.wp_region_still_tail 29 (by kernel_rfl) (by kernel_rfl) ?_; simp only [List.take_succ_cons, List.take_zero, List.drop_succ_cons, List.drop_zero]; change Go.wpStill _ _ (World.drew _) (fun a' => wpList _ _ _ _ a' (World.drew _)) _ _; (repeat still_step); refine Go.wpStill_nil ?_)
                            clear ew
                            go_wp2_with fail
                            go_roundg (r - (j + 1))
                            case measure => go_light; omega
                            case rel =>
                              go_light
                              refine ⟨j + 1, by omega, rfl, by go_num, ?_, ?_⟩
                              · (repeat' (first | (with_reducible exact Below.refl _ _) | (with_reducible assumption) | (with_reducible refine Below.call ?_ ?_ (by with_reducible assumption)) | (with_reducible refine Below.alloc ?_ ?_ _) | (with_reducible refine Below.drew ?_) | (with_reducible refine below_drewN ?_ _) | (with_reducible refine Below.setCell ?_ ?_ _) | (with_reducible exact Nat.le_refl _) | omega | (simp only [World.size_alloc, World.size_setCell, World.size_drew, World.heap_drewN] at *; omega)))
                              · refine ((HM.out.set i j _).drew).congr (fun x y _ _ => ?_)
                                rw [HS.out, HNW.out]
                                congr 1
                                omega
                        · have q2' : ¬ D k j < 1000000000 := q2
                          have HE := Lib.hid (show nw D k i j = D i j by unfold nw; rw [if_neg (fun h => q2 h.2)])
                          clear q1 q2
                          go_wp2_with fail
                          go_roundg (r - (j + 1))
                          case measure => go_light; omega
                          case rel =>
                            go_light
                            refine ⟨j + 1, by omega, rfl, by go_num, hbel, HM.out.congr (fun x y _ _ => ?_)⟩
                            exact (HT.out x y HE.out).symm
                      · have q1' : ¬ D i k < 1000000000 := q1
                        have HE := Lib.hid (show nw D k i j = D i j by unfold nw; rw [if_neg (fun h => q1 h.1)])
                        clear q1
                        go_wp2_with fail
                        go_roundg (r - (j + 1))
                        case measure => go_light; omega
                        case rel =>
                          go_light
                          refine ⟨j + 1, by omega, rfl, by go_num, hbel, HM.out.congr (fun x y _ _ => ?_)⟩
                          exact (HT.out x y HE.out).symm
                    · obtain rfl : j = r := by omega
                      go_wp2_with fail
                      go_roundg (j - (i + 1))
                      case measure => go_light; omega
                      case rel =>
                        go_light
                        exact ⟨i + 1, by omega, rfl, by go_num, hbel, hM.congr (fun x y _ hy => mix_next D k i x y hy)⟩
                · obtain rfl : i = r := by omega
                  have hM' := hM.congr (fun x y hx _ => mix_end (n := i) D k x y hx)
                  have HM := Lib.hid hM'
                  clear hM hM'
                  obtain ⟨wt, rfl⟩ : ∃ wt : World, wt = wr := ⟨_, rfl⟩
                  go_wp2_with fail
                  go_loopg [156] i (fun gk j wr => ∃ j' : Nat, j' ≤ i ∧ gk = i - j' ∧ j = .int .i64 j' ∧ wt = wr ∧ ∀ x, x < j' → 0 ≤ nw D k x x)
                  case atStart => exact ⟨0, Nat.zero_le _, rfl, rfl, rfl, fun x hx => by omega⟩
                  case round =>
                    obtain ⟨j, hjr, rfl, rfl, rfl, hpos⟩ := hrel
                    by_cases hj : j < i
                    · have hjz : (j : Int) < (i : Int) := by omega
                      have g1 := HM.out.c0 hj
                      have g2 := HM.out.c1 hj hj
                      have HPP := Lib.hid hpos
                      clear hpos
                      by_cases q1 : nw D k j j < 0
                      · go_wp2_with fail
                        go_ret2
                        refine ⟨hbel, .inr ⟨fun hok => ?_, rfl⟩⟩
                        have := hok k hk j hj
                        rw [HF.out] at this
                        omega
                      · have q1' : 0 ≤ nw D k j j := by omega
                        have HQ := Lib.hid q1'
                        go_wp2_with fail
                        go_roundg (i - (j + 1))
                        case measure => go_light; omega
                        case rel =>
                          go_light
                          refine ⟨j + 1, by omega, rfl, by go_num, rfl, fun x hx => ?_⟩
                          by_cases e : x = j
                          · subst e; exact HQ.out
                          · exact HPP.out x (by omega)
                    · obtain rfl : j = i := by omega
                      have HPP := Lib.hid hpos
                      clear hpos
                      go_wp2_with fail
                      go_roundg (j - (k + 1))
                      case measure => go_light; omega
                      case rel =>
                        go_light
                        refine ⟨k + 1, by omega, rfl, by go_num, hbel, by rw [HF.out]; exact HM.out, fun m hm x hx => ?_⟩
                        by_cases e : m = k
                        · subst e; rw [HF.out]; exact HPP.out x hx
                        · exact HP.out m (by omega) x hx
            · obtain rfl : k = r := by omega
              have HP := Lib.hid hpos
              clear hpos
              go_wp2_with fail
              go_ret2
              exact ⟨hbel, .inl ⟨fun m hm x hx => HP.out m hm x hx, rfl, hM⟩⟩
end Go.Proofs.Ytdpddidfdifbhaa
