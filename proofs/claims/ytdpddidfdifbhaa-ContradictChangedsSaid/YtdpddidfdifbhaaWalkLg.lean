/- The contract of the reference's Longest. -/
import Derived.Test.YtdpddidfdifbhaaWalkChr
import Derived.Test.YtdpddidfdifbhaaPlainLow
import Derived.Deep.OwnRows
import Derived.Deep.Light
import Derived.StillTailTactics
import Derived.BigRegion
import Derived.Deep.DeepCutAuto
set_option linter.unusedVariables false
set_option linter.unusedSimpArgs false
namespace Go.Proofs.Ytdpddidfdifbhaa
open Go.RowKit
theorem info_intL : (Try.prog.info? 3).map (fun i => (i.zero, i.size, i.bytes)) = some (some (.int .i64 0), 1, 8) := by kernel_rfl
/-- A row of numbers that the call has made. -/
def Vec (w : World) (B n : Nat) (d : Nat → Int) : Prop := w.rowIs B 3 n (fun x => .int .i64 (d x))
theorem Vec.below {w w' : World} {B n : Nat} {d : Nat → Int} (h : Vec w B n d) (hb : Below w.heap.size w w') : Vec w' B n d :=
  World.rowIs.of_block h (hb.block B (World.rowIs.lt h))
theorem Vec.congr {w : World} {B n : Nat} {d d' : Nat → Int} (h : Vec w B n d) (e : ∀ i, i < n → d i = d' i) : Vec w B n d' := World.rowIs.congr h (fun i hi => by rw [e i hi])
theorem Vec.drew {w : World} {B n : Nat} {d : Nat → Int} (h : Vec w B n d) : Vec w.drew B n d := World.rowIs.drew h
theorem Vec.set {w : World} {B n : Nat} {d : Nat → Int} (h : Vec w B n d) (i : Nat) (v : Int) : Vec (w.setCell ⟨B, i, none⟩ (.int .i64 v)) B n (stV d i v) := by
  refine World.rowIs.congr (World.rowIs.set h i _) (fun x hx => ?_)
  unfold stV
  split <;> rfl
theorem Vec.cell {w : World} {B n : Nat} {d : Nat → Int} (h : Vec w B n d) {i : Nat} (hi : i < n) : w.cell? ⟨B, i, none⟩ = some (.int .i64 (d i)) := World.rowIs.cell h hi
theorem Vec.frozen {w : World} {B n : Nat} {d : Nat → Int} (h : Vec w B n d) (i : Nat) : w.frozen? ⟨B, i, none⟩ = false := World.rowIs.frozen h i
theorem Vec.lt {w : World} {B n : Nat} {d : Nat → Int} (h : Vec w B n d) : B < w.heap.size := World.rowIs.lt h
def LgPost (w : World) (n : Nat) (l : List Bd) (i : Nat) (e : Ending) (w' : World) : Prop :=
  Below w.heap.size w w' ∧ ((∃ r, r ≤ 2 * n + 1 ∧ dch l i r = false ∧ e = .returned (.tuple #[.slice (some ⟨w.heap.size, 0, none⟩) n n, .bool true]) ∧ Vec w' w.heap.size n (it l i r)) ∨
    ((∀ r, r ≤ 2 * n + 1 → dch l i r = true) ∧ e = .returned (.tuple #[.slice none 0 0, .bool false])))
/-- A constraint that lies in a block of the call's own. -/
structure Cst (w : World) (b : Nat) (p q : Nat) (lo hi : Int) : Prop where
  lt : b < w.heap.size
  c0 : w.cell? ⟨b, 0, none⟩ = some (.int .i64 p)
  c1 : w.cell? ⟨b, 1, none⟩ = some (.int .i64 q)
  c2 : w.cell? ⟨b, 2, none⟩ = some (.int .i64 lo)
  c3 : w.cell? ⟨b, 3, none⟩ = some (.int .i64 hi)
theorem rle_yes {d : Nat → Int} {ch : Bool} {a b : Nat} {w : Int} (h1 : d a < FAR) (h2 : d a + w < d b) : rle (d, ch) a b w = (stV d b (d a + w), true) := by unfold rle; rw [if_pos ⟨h1, h2⟩]
theorem rle_no {d : Nat → Int} {ch : Bool} {a b : Nat} {w : Int} (h : ¬ (d a < FAR ∧ d a + w < d b)) : rle (d, ch) a b w = (d, ch) := by unfold rle; rw [if_neg h]
set_option maxRecDepth 1000000 in
set_option maxHeartbeats 6400000 in
theorem c_longest (n i : Nat) (a : Option Addr) (cap : Nat) (l : List Bd) (w : World) (hc : l.length ≤ cap) (hv : BdOk n l) (hi : i < n) (hs : BdSlice w a l) :
    Calls Try.prog 31 #[.int .i64 n, .slice a l.length cap, .int .i64 i] w (LgPost w n l i) := by
  have n1 := hv.n1
  have n12 := hv.n12
  have h40 := hv.len
  have hmk2 := run_make_row' (P := Try.prog) 38 3 (.int .i64 0) 8 Try.underlying38 info_intL rfl .i64 .i64 n (by omega) (by omega)
  have HV := Lib.hid hv
  clear hv
  have hiz : (i : Int) < (n : Int) := by omega
  have hgen := sgen; have hgen2 := sgen2; have hgen3 := sgen3; go_enter Try.func31, Try.ntmps31
  go_wp2
  clear hmk2
  go_loopg [18] n (fun gk j wr => ∃ r : Nat, r ≤ n ∧ gk = n - r ∧ j = .int .i64 r ∧ Below w.heap.size w wr ∧ Vec wr w.heap.size n (fun x => if x < r then FAR else 0))
  case atStart =>
    refine ⟨0, Nat.zero_le _, rfl, rfl, ?_, (World.rowIs_made w _ n _).congr (fun j _ => by simp)⟩
    (repeat' (first | (with_reducible exact Below.refl _ _) | (with_reducible assumption) | (with_reducible refine Below.call ?_ ?_ (by with_reducible assumption)) | (with_reducible refine Below.alloc ?_ ?_ _) | (with_reducible refine Below.drew ?_) | (with_reducible refine below_drewN ?_ _) | (with_reducible refine Below.setCell ?_ ?_ _) | (with_reducible exact Nat.le_refl _) | omega | (simp only [World.size_alloc, World.size_setCell, World.size_drew, World.heap_drewN] at *; omega)))
  case round =>
    obtain ⟨r, hr, rfl, rfl, hbel, hM⟩ := hrel
    by_cases hrn : r < n
    · have hrz : (r : Int) < (n : Int) := by omega
      have g1 := hM.cell hrn
      have g2 := hM.frozen r
      have HM := Lib.hid hM
      clear hM
      go_wp2
      go_roundg (n - (r + 1))
      case measure => go_light; omega
      case rel =>
        go_light
        refine ⟨r + 1, by omega, rfl, by go_num, by (repeat' (first | (with_reducible exact Below.refl _ _) | (with_reducible assumption) | (with_reducible refine Below.call ?_ ?_ (by with_reducible assumption)) | (with_reducible refine Below.alloc ?_ ?_ _) | (with_reducible refine Below.drew ?_) | (with_reducible refine below_drewN ?_ _) | (with_reducible refine Below.setCell ?_ ?_ _) | (with_reducible exact Nat.le_refl _) | omega | (simp only [World.size_alloc, World.size_setCell, World.size_drew, World.heap_drewN] at *; omega))), (HM.out.set r 1000000000).congr (fun x _ => ?_)⟩
        unfold stV
        by_cases e : x = r
        · subst e; rw [if_pos rfl, if_pos (by omega)]; rfl
        · rw [if_neg e]
          show (if x < r then FAR else 0) = _
          by_cases q : x < r
          · rw [if_pos q, if_pos (by omega)]
          · rw [if_neg q, if_neg (by omega)]
    · obtain rfl : r = n := by omega
      have g1 := hM.cell hi
      have g2 := hM.frozen i
      have hM0 : Vec (wr.setCell ⟨w.heap.size, i, none⟩ (.int .i64 0)) w.heap.size r (it l i 0) := (hM.set i 0).congr (fun x hx => by
        show stV _ i 0 x = if x = i then 0 else FAR
        unfold stV
        split
        · rfl
        · show (if x < r then FAR else 0) = _
          rw [if_pos hx])
      have hb0 : Below w.heap.size w (wr.setCell ⟨w.heap.size, i, none⟩ (.int .i64 0)) := by (repeat' (first | (with_reducible exact Below.refl _ _) | (with_reducible assumption) | (with_reducible refine Below.call ?_ ?_ (by with_reducible assumption)) | (with_reducible refine Below.alloc ?_ ?_ _) | (with_reducible refine Below.drew ?_) | (with_reducible refine below_drewN ?_ _) | (with_reducible refine Below.setCell ?_ ?_ _) | (with_reducible exact Nat.le_refl _) | omega | (simp only [World.size_alloc, World.size_setCell, World.size_drew, World.heap_drewN] at *; omega)))
      clear hM
      obtain ⟨wo, rfl⟩ : ∃ wo : World, wo = wr := ⟨_, rfl⟩
      go_wp2
      clear g1 g2
      go_loopg [10] (2 * r + 2) (fun gk j wr => ∃ k : Nat, k ≤ 2 * r + 1 ∧ gk = 2 * r + 2 - k ∧ j = .int .i64 k ∧ Below w.heap.size w wr ∧ Vec wr w.heap.size r (it l i k) ∧ ∀ q, q < k → dch l i q = true)
      case atStart => exact ⟨0, Nat.zero_le _, rfl, rfl, hb0, hM0, fun q hq => by omega⟩
      case round =>
        clear hb0 hM0
        obtain ⟨k, hk, rfl, rfl, hbel, hM, hch⟩ := hrel
        have HC := Lib.hid hch
        clear hch
        obtain ⟨wq, rfl⟩ : ∃ wq : World, wq = wr := ⟨_, rfl⟩
        go_wp2_with fail
        go_loopg [11, 32] l.length (fun gk x11 j wr => ∃ t : Nat, ∃ d : Nat → Int, ∃ ch : Bool, gk + t = l.length ∧ j = .int .i64 t ∧ x11 = .bool ch ∧ Below w.heap.size w wr ∧ Vec wr w.heap.size r d ∧ prt l i k t = (d, ch))
        case atStart => exact ⟨0, it l i k, false, by omega, rfl, rfl, hbel, hM, rfl⟩
        case round =>
          clear hbel hM
          obtain ⟨t, d, ch, ht, rfl, rfl, hbel, hM, hd⟩ := hrel
          by_cases hlt : t < l.length
          · obtain ⟨b, off, ha, hb1, c0, c1, c2, c3⟩ := (hs.below (Nat.le_refl _) hbel) t hlt
            have ix1 := @ix_Bd a b off l.length cap t ha hlt
            have hsz := hbel.size
            have hsn := prt_snoc l i k t hlt
            obtain ⟨bd1, bd2⟩ := prt_bd HV.out hi k t (by omega) (by omega)
            have hmem : l[t] ∈ l := List.getElem_mem hlt
            have v1 := HV.out.a0 _ hmem
            have v2 := HV.out.an _ hmem
            have v3 := HV.out.b0 _ hmem
            have v4 := HV.out.bn _ hmem
            have v5 := HV.out.ne _ hmem
            have v6 := HV.out.lo _ hmem
            have v7 := HV.out.le _ hmem
            have v8 := HV.out.hi _ hmem
            clear ha hmem
            generalize l[t] = x at *
            obtain ⟨xa, xb, xlo, xhi⟩ := x
            simp only at c0 c1 c2 c3 v1 v2 v3 v4 v5 v6 v7 v8
            obtain ⟨p, rfl⟩ : ∃ p : Nat, xa = p := ⟨xa.toNat, by omega⟩
            obtain ⟨q, rfl⟩ : ∃ q : Nat, xb = q := ⟨xb.toNat, by omega⟩
            have hsn' : prt l i k (t + 1) = rle (rle (prt l i k t) p q xhi) q p (-xlo) := hsn
            have HN := Lib.hid hsn'
            clear hsn hsn'
            rw [hd] at bd1 bd2 HN
            have HM := Lib.hid hM
            have hp : p < r := by omega
            have hq : q < r := by omega
            have hpq : p ≠ q := by omega
            have e1 : d p ≤ FAR := bd1 p hp
            have e2 : d q ≤ FAR := bd1 q hq
            have e3 : -30000000000 ≤ d p := bd2 p
            have e4 : -30000000000 ≤ d q := bd2 q
            have hF : FAR = 1000000000 := rfl
            have hMo : ∀ o, Vec (wr.alloc o) w.heap.size r d := fun o => hM.below ((Below.refl _ _).alloc (Nat.le_refl _) _)
            have g1 := fun o => (hMo o).cell hp
            have g2 := fun o => (hMo o).cell hq
            have g3 := fun o => (hMo o).frozen q
            have hBl := hM.lt
            have HD := Lib.hid hd
            clear hM bd1 bd2 hd hMo
            have nb1 : ¬ w.heap.size = wr.heap.size := by omega
            have nb2 : ¬ wr.heap.size = w.heap.size := by omega
            have hcs : wr.heap.size < (wr.alloc (.cells #[.int .i64 p, .int .i64 q, .int .i64 xlo, .int .i64 xhi] 47)).heap.size := by simp
            go_upto_region 14 with fail
            go_cut [57] (fun x57 wc => x57 = .bool (decide (d p < 1000000000) && decide (d p + xhi < d q)) ∧ Below w.heap.size w wc ∧ Vec wc w.heap.size r d ∧ Cst wc wr.heap.size p q xlo xhi)
            case first =>
              have ew : IntKind.i64.wrap (d p + xhi) = d p + xhi := IntWalk.i64_in _ (by omega)
              by_cases q1 : d p < 1000000000
              · go_wp2_with fail
                go_quiet (fail)
                go_wp2_with fail
                go_meet
                refine ⟨by simp [q1], by (repeat' (first | (with_reducible exact Below.refl _ _) | (with_reducible assumption) | (with_reducible refine Below.call ?_ ?_ (by with_reducible assumption)) | (with_reducible refine Below.alloc ?_ ?_ _) | (with_reducible refine Below.drew ?_) | (with_reducible refine below_drewN ?_ _) | (with_reducible refine Below.setCell ?_ ?_ _) | (with_reducible exact Nat.le_refl _) | omega | (simp only [World.size_alloc, World.size_setCell, World.size_drew, World.heap_drewN] at *; omega))), HM.out.below (below_drewN ((Below.refl _ _).alloc (Nat.le_refl _) _) _), ?_⟩
                constructor <;> go_simp
              · have hd0 : decide (d p < 1000000000) = false := decide_eq_false q1
                go_wp2_with fail
                go_quiet (fail)
                go_wp2_with fail
                go_meet
                refine ⟨by simp; omega, by (repeat' (first | (with_reducible exact Below.refl _ _) | (with_reducible assumption) | (with_reducible refine Below.call ?_ ?_ (by with_reducible assumption)) | (with_reducible refine Below.alloc ?_ ?_ _) | (with_reducible refine Below.drew ?_) | (with_reducible refine below_drewN ?_ _) | (with_reducible refine Below.setCell ?_ ?_ _) | (with_reducible exact Nat.le_refl _) | omega | (simp only [World.size_alloc, World.size_setCell, World.size_drew, World.heap_drewN] at *; omega))), HM.out.below (below_drewN ((Below.refl _ _).alloc (Nat.le_refl _) _) _), ?_⟩
                constructor <;> go_simp
            case rest =>
              obtain ⟨rfl, hbel1, hM1, hC1⟩ := hcut
              clear g1 g2 g3 c0 c1 c2 c3 ix1 HM
              have hz1 := hbel1.size
              go_upto_if 57 with fail
              go_cut [11] (fun x11 wd => ∃ d1 ch1, x11 = .bool ch1 ∧ Below w.heap.size w wd ∧ Vec wd w.heap.size r d1 ∧ Cst wd wr.heap.size p q xlo xhi ∧ rle (d, ch) p q xhi = (d1, ch1) ∧ d1 p = d p ∧ d1 q ≤ FAR ∧ -31000000000 ≤ d1 q)
              case first =>
                have HM1 := Lib.hid hM1
                have HC1 := Lib.hid hC1
                have hlt1 := hM1.lt
                have hlt2 := hC1.lt
                have g1 := hM1.cell hp
                have g2 := hM1.cell hq
                have g3 := hM1.frozen q
                obtain ⟨_, c0, c1, c2, c3⟩ := hC1
                clear hM1
                cases hbb : (decide (d p < 1000000000) && decide (d p + xhi < d q)) with
                | true =>
                  have hbb' : d p < FAR ∧ d p + xhi < d q := by simpa [hF] using hbb
                  have HR := Lib.hid (rle_yes (ch := ch) hbb'.1 hbb'.2)
                  have ew : IntKind.i64.wrap (d p + xhi) = d p + xhi := IntWalk.i64_in _ (by omega)
                  have hne : ¬ p = q := hpq
                  have f1 : stV d q (d p + xhi) p = d p := by unfold stV; rw [if_neg hpq]
                  have f2 : stV d q (d p + xhi) q = d p + xhi := by unfold stV; rw [if_pos rfl]
                  have F1 := Lib.hid f1
                  have F2 := Lib.hid f2
                  clear f1 f2
                  go_wp2_with fail
                  (refine Go.wp_region_still_tail 12 (by kernel_rfl) (by kernel_rfl) ?_; simp only [List.take_succ_cons, List.take_zero, List.drop_succ_cons, List.drop_zero]; change Go.wpStill _ _ (World.drew _) (fun a' => wpList _ _ _ _ a' (World.drew _)) _ _; (repeat still_step); refine Go.wpStill_nil ?_)
                  clear ew
                  go_wp2_with fail
                  go_meet
                  refine ⟨_, true, rfl, by (repeat' (first | (with_reducible exact Below.refl _ _) | (with_reducible assumption) | (with_reducible refine Below.call ?_ ?_ (by with_reducible assumption)) | (with_reducible refine Below.alloc ?_ ?_ _) | (with_reducible refine Below.drew ?_) | (with_reducible refine below_drewN ?_ _) | (with_reducible refine Below.setCell ?_ ?_ _) | (with_reducible exact Nat.le_refl _) | omega | (simp only [World.size_alloc, World.size_setCell, World.size_drew, World.heap_drewN] at *; omega))), (HM1.out.set q _).drew, ?_, HR.out, F1.out, by rw [F2.out]; omega, by rw [F2.out]; omega⟩
                  constructor <;> go_simp
                | false =>
                  have hbb' : ¬ (d p < FAR ∧ d p + xhi < d q) := by simp at hbb; rw [hF]; intro h; have := hbb h.1; omega
                  have HR := Lib.hid (rle_no (ch := ch) hbb')
                  go_wp2_with fail
                  go_meet
                  exact ⟨d, ch, rfl, by (repeat' (first | (with_reducible exact Below.refl _ _) | (with_reducible assumption) | (with_reducible refine Below.call ?_ ?_ (by with_reducible assumption)) | (with_reducible refine Below.alloc ?_ ?_ _) | (with_reducible refine Below.drew ?_) | (with_reducible refine below_drewN ?_ _) | (with_reducible refine Below.setCell ?_ ?_ _) | (with_reducible exact Nat.le_refl _) | omega | (simp only [World.size_alloc, World.size_setCell, World.size_drew, World.heap_drewN] at *; omega))), HM1.out, HC1.out, HR.out, rfl, e2, by omega⟩
              case rest =>
                obtain ⟨d1, ch1, rfl, hbel2, hM2, hC2, hr1, h1p, h1q, h1l⟩ := hcut
                clear hbel1 hM1 hC1
                have HR1 := Lib.hid hr1
                clear hr1
                have e5 : d1 p ≤ FAR := by rw [h1p]; exact e1
                have e6 : -30000000000 ≤ d1 p := by rw [h1p]; exact e3
                have HN2 : Hid (prt l i k (t + 1) = rle (d1, ch1) q p (-xlo)) := Lib.hid (by rw [HN.out, HR1.out])
                clear h1p e1 e2 e3 e4
                go_upto_region 16 with fail
                go_cut [91] (fun x91 wc => x91 = .bool (decide (d1 q < 1000000000) && decide (d1 q - xlo < d1 p)) ∧ Below w.heap.size w wc ∧ Vec wc w.heap.size r d1 ∧ Cst wc wr.heap.size p q xlo xhi)
                case first =>
                  have HM2 := Lib.hid hM2
                  have HC2 := Lib.hid hC2
                  have g1 := hM2.cell hp
                  have g2 := hM2.cell hq
                  obtain ⟨_, c0, c1, c2, c3⟩ := hC2
                  clear hM2
                  have ew : IntKind.i64.wrap (d1 q - xlo) = d1 q - xlo := IntWalk.i64_in _ (by omega)
                  by_cases q1 : d1 q < 1000000000
                  · go_wp2_with fail
                    go_quiet (fail)
                    go_wp2_with fail
                    go_meet
                    exact ⟨by simp [q1], below_drewN hbel2 _, HM2.out.below (below_drewN (Below.refl _ _) _), by constructor <;> go_simp⟩
                  · have hd0 : decide (d1 q < 1000000000) = false := decide_eq_false q1
                    go_wp2_with fail
                    go_quiet (fail)
                    go_wp2_with fail
                    go_meet
                    exact ⟨by simp; omega, below_drewN hbel2 _, HM2.out.below (below_drewN (Below.refl _ _) _), by constructor <;> go_simp⟩
                case rest =>
                  obtain ⟨rfl, hbel3, hM3, hC3⟩ := hcut
                  have HM3 := Lib.hid hM3
                  have hlt1 := hM3.lt
                  have hlt2 := hC3.lt
                  have g1 := hM3.cell hp
                  have g2 := hM3.cell hq
                  have g3 := hM3.frozen p
                  obtain ⟨_, c0, c1, c2, c3⟩ := hC3
                  clear hM3 hM2 hC2 hbel2
                  cases hbb : (decide (d1 q < 1000000000) && decide (d1 q - xlo < d1 p)) with
                  | true =>
                    have hbb' : d1 q < FAR ∧ d1 q + -xlo < d1 p := by simp at hbb; rw [hF]; omega
                    have HR := Lib.hid (rle_yes (ch := ch1) hbb'.1 hbb'.2)
                    have ew : IntKind.i64.wrap (d1 q - xlo) = d1 q - xlo := IntWalk.i64_in _ (by omega)
                    go_wp2_with fail
                    (refine Go.wp_region_still_tail 12 (by kernel_rfl) (by kernel_rfl) ?_; simp only [List.take_succ_cons, List.take_zero, List.drop_succ_cons, List.drop_zero]; change Go.wpStill _ _ (World.drew _) (fun a' => wpList _ _ _ _ a' (World.drew _)) _ _; (repeat still_step); refine Go.wpStill_nil ?_)
                    clear ew
                    go_wp2_with fail
                    go_roundg (l.length - (t + 1))
                    case measure => go_light; omega
                    case rel =>
                      go_light
                      exact ⟨t + 1, _, true, by omega, by go_num, rfl, by (repeat' (first | (with_reducible exact Below.refl _ _) | (with_reducible assumption) | (with_reducible refine Below.call ?_ ?_ (by with_reducible assumption)) | (with_reducible refine Below.alloc ?_ ?_ _) | (with_reducible refine Below.drew ?_) | (with_reducible refine below_drewN ?_ _) | (with_reducible refine Below.setCell ?_ ?_ _) | (with_reducible exact Nat.le_refl _) | omega | (simp only [World.size_alloc, World.size_setCell, World.size_drew, World.heap_drewN] at *; omega))), (HM3.out.set p _).drew, by rw [HN2.out, HR.out, Int.sub_eq_add_neg]⟩
                  | false =>
                    have hbb' : ¬ (d1 q < FAR ∧ d1 q + -xlo < d1 p) := by simp at hbb; rw [hF]; intro h; have := hbb h.1; omega
                    have HR := Lib.hid (rle_no (ch := ch1) hbb')
                    go_wp2_with fail
                    go_roundg (l.length - (t + 1))
                    case measure => go_light; omega
                    case rel =>
                      go_light
                      exact ⟨t + 1, d1, ch1, by omega, by go_num, rfl, hbel3, HM3.out, by rw [HN2.out, HR.out]⟩
          · obtain rfl : t = l.length := by omega
            rw [prt_end] at hd
            have hd1 : it l i (k + 1) = d := congrArg (·.1) hd
            have hd2 : dch l i k = ch := congrArg (·.2) hd
            have HM := Lib.hid hM
            have HD1 := Lib.hid hd1
            have HD2 := Lib.hid hd2
            clear hM hd hd1 hd2
            cases ch with
            | false =>
              go_wp2_with fail
              go_ret2
              exact ⟨hbel, .inl ⟨k, hk, HD2.out, rfl, by rw [← (it_fix HD2.out).1, HD1.out]; exact HM.out⟩⟩
            | true =>
              have hall : ∀ q, q < k + 1 → dch l i q = true := fun q hq => by
                by_cases e : q = k
                · subst e; exact HD2.out
                · exact HC.out q (by omega)
              have HALL := Lib.hid hall
              clear hall
              by_cases hkr : k = 2 * r + 1
              · subst hkr
                go_wp2_with fail
                go_ret2
                exact ⟨hbel, .inr ⟨fun q hq => HALL.out q (by omega), rfl⟩⟩
              · have hkz : ¬ (2 * (r : Int) < (k : Int)) := by omega
                go_wp2_with fail
                go_roundg (2 * r + 2 - (k + 1))
                case measure => go_light; omega
                case rel =>
                  go_light
                  exact ⟨k + 1, by omega, rfl, by go_num, hbel, by rw [HD1.out]; exact HM.out, HALL.out⟩
end Go.Proofs.Ytdpddidfdifbhaa
