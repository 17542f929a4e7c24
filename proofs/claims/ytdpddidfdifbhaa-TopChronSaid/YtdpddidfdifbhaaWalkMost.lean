/- The contract of agree.most. -/
import Derived.Test.YtdpddidfdifbhaaWalkAgr
set_option linter.unusedVariables false
set_option linter.unusedSimpArgs false
namespace Go.Proofs.Ytdpddidfdifbhaa
open Go.RowKit
/-- An interval that lies in a block of the call's own. -/
structure SpAt (w : World) (b : Nat) (lo hi : Int) : Prop where
  lt : b < w.heap.size
  c0 : w.cell? ⟨b, 0, none⟩ = some (.int .i64 lo)
  c1 : w.cell? ⟨b, 1, none⟩ = some (.int .i64 hi)
  f0 : w.frozen? ⟨b, 0, none⟩ = false
  f1 : w.frozen? ⟨b, 1, none⟩ = false
theorem SpAt.below {w w' : World} {b : Nat} {lo hi : Int} (h : SpAt w b lo hi) (hb : Below w.heap.size w w') : SpAt w' b lo hi := by
  obtain ⟨h0, h1, h2, h3, h4⟩ := h
  exact ⟨Nat.lt_of_lt_of_le h0 hb.size, (hb.cell h0).trans h1, (hb.cell h0).trans h2, (hb.frozen h0).trans h3, (hb.frozen h0).trans h4⟩
theorem SpAt.set {w : World} {b : Nat} {lo hi : Int} (h : SpAt w b lo hi) (lo' hi' : Int) : SpAt ((w.setCell ⟨b, 0, none⟩ (.int .i64 lo')).setCell ⟨b, 1, none⟩ (.int .i64 hi')) b lo' hi' := by
  obtain ⟨h0, h1, h2, h3, h4⟩ := h
  constructor <;> go_simp
theorem SpAt.setOther {w : World} {b c : Nat} {lo hi : Int} (h : SpAt w b lo hi) (hbc : b ≠ c) (u v : Value) : SpAt ((w.setCell ⟨c, 0, none⟩ u).setCell ⟨c, 1, none⟩ v) b lo hi := by
  obtain ⟨h0, h1, h2, h3, h4⟩ := h
  constructor <;> go_simp
theorem SpAt.setOther1 {w : World} {b c : Nat} {lo hi : Int} (h : SpAt w b lo hi) (hbc : b ≠ c) (v : Value) : SpAt (w.setCell ⟨c, 1, none⟩ v) b lo hi := by
  obtain ⟨h0, h1, h2, h3, h4⟩ := h
  constructor <;> go_simp
theorem SpAt.set1 {w : World} {b : Nat} {lo hi : Int} (h : SpAt w b lo hi) (hi' : Int) : SpAt (w.setCell ⟨b, 1, none⟩ (.int .i64 hi')) b lo hi' := by
  obtain ⟨h0, h1, h2, h3, h4⟩ := h
  constructor <;> go_simp
theorem bst_step1 {l : List Sp} {lo hi n : Int} {x : Sp} (h : n < cov l x.lo) : bstStep l (lo, hi, n) x = (x.lo, x.hi, cov l x.lo) := by
  unfold bstStep; rw [if_pos (.inl h)]
theorem bst_step2 {l : List Sp} {lo hi n : Int} {x : Sp} (h : cov l x.lo = n) (g : x.lo < lo) : bstStep l (lo, hi, n) x = (x.lo, x.hi, cov l x.lo) := by
  unfold bstStep; rw [if_pos (.inr ⟨h, g⟩)]
theorem bst_step3 {l : List Sp} {lo hi n : Int} {x : Sp} (h : cov l x.lo = n) (g : ¬ x.lo < lo) : bstStep l (lo, hi, n) x = (lo, hi, n) := by
  unfold bstStep; rw [if_neg]; rintro (h' | ⟨_, h'⟩)
  · exact absurd h' (by rw [h]; exact Int.lt_irrefl _)
  · exact g h'
theorem bst_step4 {l : List Sp} {lo hi n : Int} {x : Sp} (h : cov l x.lo < n) : bstStep l (lo, hi, n) x = (lo, hi, n) := by
  unfold bstStep; rw [if_neg]; rintro (h' | ⟨h', _⟩)
  · have h' : n < cov l x.lo := h'; omega
  · have h' : cov l x.lo = n := h'; omega
set_option maxHeartbeats 2000000 in
theorem c_most (a : Option Addr) (cap : Nat) (l : List Sp) (w : World) (hc : l.length ≤ cap) (h40 : l.length ≤ 40) (hs : SpSlice w a l) :
    Calls Try.prog 48 #[.slice a l.length cap] w fun e w' => e = .returned (.tuple #[.agg #[.int .i64 (mLo l), .int .i64 (mHi l)], .int .i64 (mK l)]) ∧ Below w.heap.size w w' := by
  have h2 : (l.length : Int) ≤ 40 := by omega
  have hgen := sgen; have hgen2 := sgen2; have hgen3 := sgen3; go_enter Try.func48, Try.ntmps48
  go_wp2_with fail
  go_loopg [5, 14] l.length (fun gk x5 i wr => ∃ k : Nat, ∃ lo hi n : Int, gk + k = l.length ∧ i = .int .i64 k ∧ x5 = .int .i64 n ∧ Below w.heap.size w wr ∧ SpAt wr w.heap.size 0 0 ∧ SpAt wr (w.heap.size + 1) lo hi ∧ bst l k = (lo, hi, n) ∧ 0 ≤ n ∧ n ≤ 40)
  case atStart =>
    refine ⟨0, 0, 0, 0, by omega, rfl, rfl, ?_, ?_, ?_, rfl, by omega, by omega⟩
    · (repeat' (first | (with_reducible exact Below.refl _ _) | (with_reducible assumption) | (with_reducible refine Below.call ?_ ?_ (by with_reducible assumption)) | (with_reducible refine Below.alloc ?_ ?_ _) | (with_reducible refine Below.drew ?_) | (with_reducible refine below_drewN ?_ _) | (with_reducible refine Below.setCell ?_ ?_ _) | (with_reducible exact Nat.le_refl _) | omega | (simp only [World.size_alloc, World.size_setCell, World.size_drew, World.heap_drewN] at *; omega)))
    · constructor <;> go_simp
    · constructor <;> go_simp
  case round =>
    obtain ⟨k, lo, hi, n, hk, rfl, rfl, hbel, hR, hB, hst, n0, n1⟩ := hrel
    by_cases hlt : k < l.length
    · obtain ⟨b, off, ha, hb1, c0, c1⟩ := (hs.below (Nat.le_refl _) hbel) k hlt
      have ix1 := @ix_Sp a b off l.length cap k ha hlt
      have hsz := hbel.size
      have hsn := bst_snoc l k hlt
      rw [hst] at hsn
      have HSL := Lib.hid hs
      clear ha
      generalize l[k] = x at *
      obtain ⟨q1, q2⟩ := cov_bd l x.lo
      obtain ⟨e0, e1, e2, e3, e4⟩ := hB
      have hlt1 := e0
      have HR := Lib.hid hR
      have HS := Lib.hid hsn
      clear hsn hst hs hR
      have hL0 := hlt1
      by_cases hq : n < cov l x.lo
      · have hst' := bst_step1 (lo := lo) (hi := hi) hq
        have HT := Lib.hid hst'
        clear hst'
        go_wp2_with (go_at_call 51; (refine (c_depth _ _ l _ _ hc h40 (HSL.out.below (Nat.le_refl _) (by (repeat' (first | (with_reducible exact Below.refl _ _) | (with_reducible assumption) | (with_reducible refine Below.call ?_ ?_ (by with_reducible assumption)) | (with_reducible refine Below.alloc ?_ ?_ _) | (with_reducible refine Below.drew ?_) | (with_reducible refine below_drewN ?_ _) | (with_reducible refine Below.setCell ?_ ?_ _) | (with_reducible exact Nat.le_refl _) | omega | (simp only [World.size_alloc, World.size_setCell, World.size_drew, World.heap_drewN] at *; omega)))))).mono ?_); rintro e w1 ⟨rfl, hb⟩; have hz := hb.size; (try simp only [World.size_alloc, World.size_setCell, World.size_drew, World.heap_drewN] at hz); (try have h_wr_0 : wr.heap.size < w1.heap.size := by omega); (try have e_wr_0 : ¬ wr.heap.size = w1.heap.size := by omega); (try have d_wr_0 : ¬ w1.heap.size = wr.heap.size := by omega); (try (refine bcUse (n := wr.heap.size) hb ?_ ?_; (focus ((try simp only [World.size_alloc, World.size_setCell, World.size_drew, World.heap_drewN]); omega)); intro _ _)); (try have h_w_1 : w.heap.size + 1 < w1.heap.size := by omega); (try have e_w_1 : ¬ w.heap.size + 1 = w1.heap.size := by omega); (try have d_w_1 : ¬ w1.heap.size = w.heap.size + 1 := by omega); (try (refine bcUse (n := w.heap.size + 1) hb ?_ ?_; (focus ((try simp only [World.size_alloc, World.size_setCell, World.size_drew, World.heap_drewN]); omega)); intro _ _)); (try have h_w_0 : w.heap.size < w1.heap.size := by omega); (try have e_w_0 : ¬ w.heap.size = w1.heap.size := by omega); (try have d_w_0 : ¬ w1.heap.size = w.heap.size := by omega); (try (refine bcUse (n := w.heap.size) hb ?_ ?_; (focus ((try simp only [World.size_alloc, World.size_setCell, World.size_drew, World.heap_drewN]); omega)); intro _ _)))
        go_roundg (l.length - (k + 1))
        case measure => omega
        case rel =>
          have hb : Below wr.heap.size wr w1 := by (repeat' (first | (with_reducible exact Below.refl _ _) | (with_reducible assumption) | (with_reducible refine Below.call ?_ ?_ (by with_reducible assumption)) | (with_reducible refine Below.alloc ?_ ?_ _) | (with_reducible refine Below.drew ?_) | (with_reducible refine below_drewN ?_ _) | (with_reducible refine Below.setCell ?_ ?_ _) | (with_reducible exact Nat.le_refl _) | omega | (simp only [World.size_alloc, World.size_setCell, World.size_drew, World.heap_drewN] at *; omega)))
          refine ⟨k + 1, x.lo, x.hi, cov l x.lo, by omega, by go_num, rfl, ?_, ?_, ?_, by rw [HS.out, HT.out], by omega, by omega⟩
          · (repeat' (first | (with_reducible exact Below.refl _ _) | (with_reducible assumption) | (with_reducible refine Below.call ?_ ?_ (by with_reducible assumption)) | (with_reducible refine Below.alloc ?_ ?_ _) | (with_reducible refine Below.drew ?_) | (with_reducible refine below_drewN ?_ _) | (with_reducible refine Below.setCell ?_ ?_ _) | (with_reducible exact Nat.le_refl _) | omega | (simp only [World.size_alloc, World.size_setCell, World.size_drew, World.heap_drewN] at *; omega)))
          · exact (HR.out.below hb).setOther (by omega) _ _
          · exact (SpAt.below ⟨e0, e1, e2, e3, e4⟩ hb).set _ _
      · by_cases hq2 : cov l x.lo = n
        · have t1 : (cov l x.lo == n) = true := by simp [hq2]
          have t2 : decide (n < cov l x.lo) = false := by simp; omega
          by_cases hx : x.lo < lo
          · have hst' := bst_step2 (hi := hi) hq2 hx
            have HT := Lib.hid hst'
            have HQ := Lib.hid hq2
            clear hst' hq2 hq
            go_wp2_with (go_at_call 51; (refine (c_depth _ _ l _ _ hc h40 (HSL.out.below (Nat.le_refl _) (by (repeat' (first | (with_reducible exact Below.refl _ _) | (with_reducible assumption) | (with_reducible refine Below.call ?_ ?_ (by with_reducible assumption)) | (with_reducible refine Below.alloc ?_ ?_ _) | (with_reducible refine Below.drew ?_) | (with_reducible refine below_drewN ?_ _) | (with_reducible refine Below.setCell ?_ ?_ _) | (with_reducible exact Nat.le_refl _) | omega | (simp only [World.size_alloc, World.size_setCell, World.size_drew, World.heap_drewN] at *; omega)))))).mono ?_); rintro e w1 ⟨rfl, hb⟩; have hz := hb.size; (try simp only [World.size_alloc, World.size_setCell, World.size_drew, World.heap_drewN] at hz); (try have h_wr_0 : wr.heap.size < w1.heap.size := by omega); (try have e_wr_0 : ¬ wr.heap.size = w1.heap.size := by omega); (try have d_wr_0 : ¬ w1.heap.size = wr.heap.size := by omega); (try (refine bcUse (n := wr.heap.size) hb ?_ ?_; (focus ((try simp only [World.size_alloc, World.size_setCell, World.size_drew, World.heap_drewN]); omega)); intro _ _)); (try have h_w_1 : w.heap.size + 1 < w1.heap.size := by omega); (try have e_w_1 : ¬ w.heap.size + 1 = w1.heap.size := by omega); (try have d_w_1 : ¬ w1.heap.size = w.heap.size + 1 := by omega); (try (refine bcUse (n := w.heap.size + 1) hb ?_ ?_; (focus ((try simp only [World.size_alloc, World.size_setCell, World.size_drew, World.heap_drewN]); omega)); intro _ _)); (try have h_w_0 : w.heap.size < w1.heap.size := by omega); (try have e_w_0 : ¬ w.heap.size = w1.heap.size := by omega); (try have d_w_0 : ¬ w1.heap.size = w.heap.size := by omega); (try (refine bcUse (n := w.heap.size) hb ?_ ?_; (focus ((try simp only [World.size_alloc, World.size_setCell, World.size_drew, World.heap_drewN]); omega)); intro _ _)))
            go_roundg (l.length - (k + 1))
            case measure => omega
            case rel =>
              have hb : Below wr.heap.size wr w1 := by (repeat' (first | (with_reducible exact Below.refl _ _) | (with_reducible assumption) | (with_reducible refine Below.call ?_ ?_ (by with_reducible assumption)) | (with_reducible refine Below.alloc ?_ ?_ _) | (with_reducible refine Below.drew ?_) | (with_reducible refine below_drewN ?_ _) | (with_reducible refine Below.setCell ?_ ?_ _) | (with_reducible exact Nat.le_refl _) | omega | (simp only [World.size_alloc, World.size_setCell, World.size_drew, World.heap_drewN] at *; omega)))
              refine ⟨k + 1, x.lo, x.hi, cov l x.lo, by omega, by go_num, rfl, ?_, ?_, ?_, by rw [HS.out, HT.out], by omega, by omega⟩
              · (repeat' (first | (with_reducible exact Below.refl _ _) | (with_reducible assumption) | (with_reducible refine Below.call ?_ ?_ (by with_reducible assumption)) | (with_reducible refine Below.alloc ?_ ?_ _) | (with_reducible refine Below.drew ?_) | (with_reducible refine below_drewN ?_ _) | (with_reducible refine Below.setCell ?_ ?_ _) | (with_reducible exact Nat.le_refl _) | omega | (simp only [World.size_alloc, World.size_setCell, World.size_drew, World.heap_drewN] at *; omega)))
              · exact (HR.out.below hb).setOther (by omega) _ _
              · exact (SpAt.below ⟨e0, e1, e2, e3, e4⟩ hb).set _ _
          · have hst' := bst_step3 (hi := hi) hq2 hx
            have HT := Lib.hid hst'
            have HQ := Lib.hid hq2
            clear hst' hq2 hq
            go_wp2_with (go_at_call 51; (refine (c_depth _ _ l _ _ hc h40 (HSL.out.below (Nat.le_refl _) (by (repeat' (first | (with_reducible exact Below.refl _ _) | (with_reducible assumption) | (with_reducible refine Below.call ?_ ?_ (by with_reducible assumption)) | (with_reducible refine Below.alloc ?_ ?_ _) | (with_reducible refine Below.drew ?_) | (with_reducible refine below_drewN ?_ _) | (with_reducible refine Below.setCell ?_ ?_ _) | (with_reducible exact Nat.le_refl _) | omega | (simp only [World.size_alloc, World.size_setCell, World.size_drew, World.heap_drewN] at *; omega)))))).mono ?_); rintro e w1 ⟨rfl, hb⟩; have hz := hb.size; (try simp only [World.size_alloc, World.size_setCell, World.size_drew, World.heap_drewN] at hz); (try have h_wr_0 : wr.heap.size < w1.heap.size := by omega); (try have e_wr_0 : ¬ wr.heap.size = w1.heap.size := by omega); (try have d_wr_0 : ¬ w1.heap.size = wr.heap.size := by omega); (try (refine bcUse (n := wr.heap.size) hb ?_ ?_; (focus ((try simp only [World.size_alloc, World.size_setCell, World.size_drew, World.heap_drewN]); omega)); intro _ _)); (try have h_w_1 : w.heap.size + 1 < w1.heap.size := by omega); (try have e_w_1 : ¬ w.heap.size + 1 = w1.heap.size := by omega); (try have d_w_1 : ¬ w1.heap.size = w.heap.size + 1 := by omega); (try (refine bcUse (n := w.heap.size + 1) hb ?_ ?_; (focus ((try simp only [World.size_alloc, World.size_setCell, World.size_drew, World.heap_drewN]); omega)); intro _ _)); (try have h_w_0 : w.heap.size < w1.heap.size := by omega); (try have e_w_0 : ¬ w.heap.size = w1.heap.size := by omega); (try have d_w_0 : ¬ w1.heap.size = w.heap.size := by omega); (try (refine bcUse (n := w.heap.size) hb ?_ ?_; (focus ((try simp only [World.size_alloc, World.size_setCell, World.size_drew, World.heap_drewN]); omega)); intro _ _)))
            go_roundg (l.length - (k + 1))
            case measure => omega
            case rel =>
              have hb : Below wr.heap.size wr w1 := by (repeat' (first | (with_reducible exact Below.refl _ _) | (with_reducible assumption) | (with_reducible refine Below.call ?_ ?_ (by with_reducible assumption)) | (with_reducible refine Below.alloc ?_ ?_ _) | (with_reducible refine Below.drew ?_) | (with_reducible refine below_drewN ?_ _) | (with_reducible refine Below.setCell ?_ ?_ _) | (with_reducible exact Nat.le_refl _) | omega | (simp only [World.size_alloc, World.size_setCell, World.size_drew, World.heap_drewN] at *; omega)))
              refine ⟨k + 1, lo, hi, n, by omega, by go_num, rfl, ?_, ?_, ?_, by rw [HS.out, HT.out], by omega, by omega⟩
              · (repeat' (first | (with_reducible exact Below.refl _ _) | (with_reducible assumption) | (with_reducible refine Below.call ?_ ?_ (by with_reducible assumption)) | (with_reducible refine Below.alloc ?_ ?_ _) | (with_reducible refine Below.drew ?_) | (with_reducible refine below_drewN ?_ _) | (with_reducible refine Below.setCell ?_ ?_ _) | (with_reducible exact Nat.le_refl _) | omega | (simp only [World.size_alloc, World.size_setCell, World.size_drew, World.heap_drewN] at *; omega)))
              · exact HR.out.below hb
              · exact SpAt.below ⟨e0, e1, e2, e3, e4⟩ hb
        · have t1 : (cov l x.lo == n) = false := by simp [hq2]
          have hst' := bst_step4 (lo := lo) (hi := hi) (show cov l x.lo < n by omega)
          have HT := Lib.hid hst'
          clear hst'
          go_wp2_with (go_at_call 51; (refine (c_depth _ _ l _ _ hc h40 (HSL.out.below (Nat.le_refl _) (by (repeat' (first | (with_reducible exact Below.refl _ _) | (with_reducible assumption) | (with_reducible refine Below.call ?_ ?_ (by with_reducible assumption)) | (with_reducible refine Below.alloc ?_ ?_ _) | (with_reducible refine Below.drew ?_) | (with_reducible refine below_drewN ?_ _) | (with_reducible refine Below.setCell ?_ ?_ _) | (with_reducible exact Nat.le_refl _) | omega | (simp only [World.size_alloc, World.size_setCell, World.size_drew, World.heap_drewN] at *; omega)))))).mono ?_); rintro e w1 ⟨rfl, hb⟩; have hz := hb.size; (try simp only [World.size_alloc, World.size_setCell, World.size_drew, World.heap_drewN] at hz); (try have h_wr_0 : wr.heap.size < w1.heap.size := by omega); (try have e_wr_0 : ¬ wr.heap.size = w1.heap.size := by omega); (try have d_wr_0 : ¬ w1.heap.size = wr.heap.size := by omega); (try (refine bcUse (n := wr.heap.size) hb ?_ ?_; (focus ((try simp only [World.size_alloc, World.size_setCell, World.size_drew, World.heap_drewN]); omega)); intro _ _)); (try have h_w_1 : w.heap.size + 1 < w1.heap.size := by omega); (try have e_w_1 : ¬ w.heap.size + 1 = w1.heap.size := by omega); (try have d_w_1 : ¬ w1.heap.size = w.heap.size + 1 := by omega); (try (refine bcUse (n := w.heap.size + 1) hb ?_ ?_; (focus ((try simp only [World.size_alloc, World.size_setCell, World.size_drew, World.heap_drewN]); omega)); intro _ _)); (try have h_w_0 : w.heap.size < w1.heap.size := by omega); (try have e_w_0 : ¬ w.heap.size = w1.heap.size := by omega); (try have d_w_0 : ¬ w1.heap.size = w.heap.size := by omega); (try (refine bcUse (n := w.heap.size) hb ?_ ?_; (focus ((try simp only [World.size_alloc, World.size_setCell, World.size_drew, World.heap_drewN]); omega)); intro _ _)))
          go_roundg (l.length - (k + 1))
          case measure => omega
          case rel =>
            have hb : Below wr.heap.size wr w1 := by (repeat' (first | (with_reducible exact Below.refl _ _) | (with_reducible assumption) | (with_reducible refine Below.call ?_ ?_ (by with_reducible assumption)) | (with_reducible refine Below.alloc ?_ ?_ _) | (with_reducible refine Below.drew ?_) | (with_reducible refine below_drewN ?_ _) | (with_reducible refine Below.setCell ?_ ?_ _) | (with_reducible exact Nat.le_refl _) | omega | (simp only [World.size_alloc, World.size_setCell, World.size_drew, World.heap_drewN] at *; omega)))
            refine ⟨k + 1, lo, hi, n, by omega, by go_num, rfl, ?_, ?_, ?_, by rw [HS.out, HT.out], by omega, by omega⟩
            · (repeat' (first | (with_reducible exact Below.refl _ _) | (with_reducible assumption) | (with_reducible refine Below.call ?_ ?_ (by with_reducible assumption)) | (with_reducible refine Below.alloc ?_ ?_ _) | (with_reducible refine Below.drew ?_) | (with_reducible refine below_drewN ?_ _) | (with_reducible refine Below.setCell ?_ ?_ _) | (with_reducible exact Nat.le_refl _) | omega | (simp only [World.size_alloc, World.size_setCell, World.size_drew, World.heap_drewN] at *; omega)))
            · exact HR.out.below hb
            · exact SpAt.below ⟨e0, e1, e2, e3, e4⟩ hb
    · have hkl : k = l.length := by omega
      rw [hkl] at hst
      have hlo : mLo l = lo := by unfold mLo; rw [hst]
      have hkk : mK l = n := by unfold mK; rw [hst]
      have hhh : mHi l = mhi l lo hi l.length := by unfold mHi; rw [hst, hlo]
      have HLO := Lib.hid hlo
      have HKK := Lib.hid hkk
      have HHH := Lib.hid hhh
      clear hkl hst hlo hkk hhh
      obtain ⟨wo, rfl⟩ : ∃ wo : World, wo = wr := ⟨_, rfl⟩
      go_wp2_with fail
      go_loopg [46] l.length (fun gk i wr => ∃ k : Nat, gk + k = l.length ∧ i = .int .i64 k ∧ Below w.heap.size w wr ∧ SpAt wr w.heap.size 0 0 ∧ SpAt wr (w.heap.size + 1) lo (mhi l lo hi k))
      case atStart => exact ⟨0, by omega, rfl, hbel, hR, hB⟩
      case round =>
        clear hbel hR hB
        obtain ⟨k, hk, rfl, hbel, hR, hB⟩ := hrel
        by_cases hlt : k < l.length
        · obtain ⟨b, off, ha, hb1, c0, c1⟩ := (hs.below (Nat.le_refl _) hbel) k hlt
          have ix1 := @ix_Sp a b off l.length cap k ha hlt
          have hsz := hbel.size
          have hsn := mhi_snoc l lo hi k hlt
          clear ha
          generalize l[k] = x at *
          generalize mhi l lo hi k = h at *
          have HB := Lib.hid hB
          obtain ⟨e0, e1, e2, e3, e4⟩ := hB
          have HR := Lib.hid hR
          have HS := Lib.hid hsn
          clear hsn hR
          by_cases hx : x.lo ≤ lo ∧ lo ≤ x.hi
          · obtain ⟨x1, x2⟩ := hx
            by_cases hm : h ≤ x.hi
            · have hst' : hiStep lo h x = h := by unfold hiStep; rw [if_pos ⟨x1, x2⟩]; omega
              have HT := Lib.hid hst'
              clear hst'
              go_wp2
              go_roundg (l.length - (k + 1))
              case measure => omega
              case rel =>
                refine ⟨k + 1, by omega, by go_num, ?_, ?_, ?_⟩
                · (repeat' (first | (with_reducible exact Below.refl _ _) | (with_reducible assumption) | (with_reducible refine Below.call ?_ ?_ (by with_reducible assumption)) | (with_reducible refine Below.alloc ?_ ?_ _) | (with_reducible refine Below.drew ?_) | (with_reducible refine below_drewN ?_ _) | (with_reducible refine Below.setCell ?_ ?_ _) | (with_reducible exact Nat.le_refl _) | omega | (simp only [World.size_alloc, World.size_setCell, World.size_drew, World.heap_drewN] at *; omega)))
                · exact SpAt.below (HR.out.setOther1 (c := w.heap.size + 1) (by omega) _) ((Below.refl _ _).alloc (Nat.le_refl _) _)
                · rw [HS.out, HT.out]; exact SpAt.below (HB.out.set1 _) ((Below.refl _ _).alloc (Nat.le_refl _) _)
            · have hst' : hiStep lo h x = x.hi := by unfold hiStep; rw [if_pos ⟨x1, x2⟩]; omega
              have HT := Lib.hid hst'
              have hm' : x.hi ≤ h := by omega
              clear hst'
              go_wp2
              go_roundg (l.length - (k + 1))
              case measure => omega
              case rel =>
                refine ⟨k + 1, by omega, by go_num, ?_, ?_, ?_⟩
                · (repeat' (first | (with_reducible exact Below.refl _ _) | (with_reducible assumption) | (with_reducible refine Below.call ?_ ?_ (by with_reducible assumption)) | (with_reducible refine Below.alloc ?_ ?_ _) | (with_reducible refine Below.drew ?_) | (with_reducible refine below_drewN ?_ _) | (with_reducible refine Below.setCell ?_ ?_ _) | (with_reducible exact Nat.le_refl _) | omega | (simp only [World.size_alloc, World.size_setCell, World.size_drew, World.heap_drewN] at *; omega)))
                · exact SpAt.below (HR.out.setOther1 (c := w.heap.size + 1) (by omega) _) ((Below.refl _ _).alloc (Nat.le_refl _) _)
                · rw [HS.out, HT.out]; exact SpAt.below (HB.out.set1 _) ((Below.refl _ _).alloc (Nat.le_refl _) _)
          · have hst' : hiStep lo h x = h := by unfold hiStep; rw [if_neg hx]
            have HT := Lib.hid hst'
            clear hst'
            by_cases x1 : x.lo ≤ lo
            · have x2 : ¬ lo ≤ x.hi := fun q => hx ⟨x1, q⟩
              go_wp2
              go_roundg (l.length - (k + 1))
              case measure => omega
              case rel =>
                refine ⟨k + 1, by omega, by go_num, ?_, ?_, ?_⟩
                · (repeat' (first | (with_reducible exact Below.refl _ _) | (with_reducible assumption) | (with_reducible refine Below.call ?_ ?_ (by with_reducible assumption)) | (with_reducible refine Below.alloc ?_ ?_ _) | (with_reducible refine Below.drew ?_) | (with_reducible refine below_drewN ?_ _) | (with_reducible refine Below.setCell ?_ ?_ _) | (with_reducible exact Nat.le_refl _) | omega | (simp only [World.size_alloc, World.size_setCell, World.size_drew, World.heap_drewN] at *; omega)))
                · exact HR.out.below (by (repeat' (first | (with_reducible exact Below.refl _ _) | (with_reducible assumption) | (with_reducible refine Below.call ?_ ?_ (by with_reducible assumption)) | (with_reducible refine Below.alloc ?_ ?_ _) | (with_reducible refine Below.drew ?_) | (with_reducible refine below_drewN ?_ _) | (with_reducible refine Below.setCell ?_ ?_ _) | (with_reducible exact Nat.le_refl _) | omega | (simp only [World.size_alloc, World.size_setCell, World.size_drew, World.heap_drewN] at *; omega))))
                · rw [HS.out, HT.out]; exact HB.out.below (by (repeat' (first | (with_reducible exact Below.refl _ _) | (with_reducible assumption) | (with_reducible refine Below.call ?_ ?_ (by with_reducible assumption)) | (with_reducible refine Below.alloc ?_ ?_ _) | (with_reducible refine Below.drew ?_) | (with_reducible refine below_drewN ?_ _) | (with_reducible refine Below.setCell ?_ ?_ _) | (with_reducible exact Nat.le_refl _) | omega | (simp only [World.size_alloc, World.size_setCell, World.size_drew, World.heap_drewN] at *; omega))))
            · go_wp2
              go_roundg (l.length - (k + 1))
              case measure => omega
              case rel =>
                refine ⟨k + 1, by omega, by go_num, ?_, ?_, ?_⟩
                · (repeat' (first | (with_reducible exact Below.refl _ _) | (with_reducible assumption) | (with_reducible refine Below.call ?_ ?_ (by with_reducible assumption)) | (with_reducible refine Below.alloc ?_ ?_ _) | (with_reducible refine Below.drew ?_) | (with_reducible refine below_drewN ?_ _) | (with_reducible refine Below.setCell ?_ ?_ _) | (with_reducible exact Nat.le_refl _) | omega | (simp only [World.size_alloc, World.size_setCell, World.size_drew, World.heap_drewN] at *; omega)))
                · exact HR.out.below (by (repeat' (first | (with_reducible exact Below.refl _ _) | (with_reducible assumption) | (with_reducible refine Below.call ?_ ?_ (by with_reducible assumption)) | (with_reducible refine Below.alloc ?_ ?_ _) | (with_reducible refine Below.drew ?_) | (with_reducible refine below_drewN ?_ _) | (with_reducible refine Below.setCell ?_ ?_ _) | (with_reducible exact Nat.le_refl _) | omega | (simp only [World.size_alloc, World.size_setCell, World.size_drew, World.heap_drewN] at *; omega))))
                · rw [HS.out, HT.out]; exact HB.out.below (by (repeat' (first | (with_reducible exact Below.refl _ _) | (with_reducible assumption) | (with_reducible refine Below.call ?_ ?_ (by with_reducible assumption)) | (with_reducible refine Below.alloc ?_ ?_ _) | (with_reducible refine Below.drew ?_) | (with_reducible refine below_drewN ?_ _) | (with_reducible refine Below.setCell ?_ ?_ _) | (with_reducible exact Nat.le_refl _) | omega | (simp only [World.size_alloc, World.size_setCell, World.size_drew, World.heap_drewN] at *; omega))))
        · have hkl : k = l.length := by omega
          rw [hkl] at hB
          clear hkl
          generalize mhi l lo hi l.length = h at *
          have hsz := hbel.size
          obtain ⟨e0, e1, e2, e3, e4⟩ := hB
          obtain ⟨r0, r1, r2, r3, r4⟩ := hR
          go_wp2
          refine bodyPost_ret (v := .tuple #[.agg #[.int .i64 lo, .int .i64 h], .int .i64 n]) (by simp only [results, Try.results48]; go_simp) rfl ⟨?_, ?_⟩
          · rw [HLO.out, HKK.out, HHH.out]
          · (repeat' (first | (with_reducible exact Below.refl _ _) | (with_reducible assumption) | (with_reducible refine Below.call ?_ ?_ (by with_reducible assumption)) | (with_reducible refine Below.alloc ?_ ?_ _) | (with_reducible refine Below.drew ?_) | (with_reducible refine below_drewN ?_ _) | (with_reducible refine Below.setCell ?_ ?_ _) | (with_reducible exact Nat.le_refl _) | omega | (simp only [World.size_alloc, World.size_setCell, World.size_drew, World.heap_drewN] at *; omega)))
end Go.Proofs.Ytdpddidfdifbhaa
