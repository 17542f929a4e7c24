/- The contracts of agree.Most and agree.Within. -/
import Derived.Test.YtdpddidfdifbhaaWalkMost
set_option linter.unusedVariables false
set_option linter.unusedSimpArgs false
namespace Go.Proofs.Ytdpddidfdifbhaa
open Go.RowKit
theorem c_Most_bad (a : Option Addr) (cap : Nat) (l : List Sp) (w : World) (hc : l.length ≤ cap) (hs : SpSlice w a l) (he : spsErr l ≠ 0) :
    Calls Try.prog 15 #[.slice a l.length cap] w fun e w' => e = .returned (.tuple #[.agg #[.int .i64 0, .int .i64 0], .int .i64 0, .int .i64 (spsErr l)]) ∧ Below w.heap.size w w' := by
  have h1 : (spsErr l != 0) = true := by simp [he]
  have hgen := sgen; have hgen2 := sgen2; have hgen3 := sgen3; go_enter Try.func15, Try.ntmps15
  go_wp2_with (go_at_call 17; refine (c_agCheck _ _ l _ hc (hs.below (Nat.le_refl _) (by (repeat' (first | (with_reducible exact Below.refl _ _) | (with_reducible assumption) | (with_reducible refine Below.call ?_ ?_ (by with_reducible assumption)) | (with_reducible refine Below.alloc ?_ ?_ _) | (with_reducible refine Below.drew ?_) | (with_reducible refine below_drewN ?_ _) | (with_reducible refine Below.setCell ?_ ?_ _) | (with_reducible exact Nat.le_refl _) | omega | (simp only [World.size_alloc, World.size_setCell, World.size_drew, World.heap_drewN] at *; omega)))))).mono ?_; rintro e w1 ⟨rfl, hb⟩; have hz := hb.size; (try simp only [World.size_alloc, World.size_setCell, World.size_drew, World.heap_drewN] at hz); (try have h_w_0 : w.heap.size < w1.heap.size := by omega); (try have e_w_0 : ¬ w.heap.size = w1.heap.size := by omega); (try have d_w_0 : ¬ w1.heap.size = w.heap.size := by omega); (try (refine bcUse (n := w.heap.size) hb ?_ ?_; (focus ((try simp only [World.size_alloc, World.size_setCell, World.size_drew, World.heap_drewN]); omega)); intro _ _)))
  refine bodyPost_ret (v := .tuple #[.agg #[.int .i64 0, .int .i64 0], .int .i64 0, .int .i64 (spsErr l)]) (by simp only [results, Try.results15]; go_simp) rfl ⟨rfl, ?_⟩
  (repeat' (first | (with_reducible exact Below.refl _ _) | (with_reducible assumption) | (with_reducible refine Below.call ?_ ?_ (by with_reducible assumption)) | (with_reducible refine Below.alloc ?_ ?_ _) | (with_reducible refine Below.drew ?_) | (with_reducible refine below_drewN ?_ _) | (with_reducible refine Below.setCell ?_ ?_ _) | (with_reducible exact Nat.le_refl _) | omega | (simp only [World.size_alloc, World.size_setCell, World.size_drew, World.heap_drewN] at *; omega)))
theorem c_Most_ok (a : Option Addr) (cap : Nat) (l : List Sp) (w : World) (hc : l.length ≤ cap) (hs : SpSlice w a l) (he : spsErr l = 0) :
    Calls Try.prog 15 #[.slice a l.length cap] w fun e w' => e = .returned (.tuple #[.agg #[.int .i64 (mLo l), .int .i64 (mHi l)], .int .i64 (mK l), .int .i64 0]) ∧ Below w.heap.size w w' := by
  have h40 := (spsOk_of he).len
  have hK := fun w1 hs1 => c_agCheck a cap l w1 hc hs1
  rw [he] at hK
  have hgen := sgen; have hgen2 := sgen2; have hgen3 := sgen3; go_enter Try.func15, Try.ntmps15
  go_wp2_with (first | (go_at_call 17; refine (hK _ (hs.below (Nat.le_refl _) (by (repeat' (first | (with_reducible exact Below.refl _ _) | (with_reducible assumption) | (with_reducible refine Below.call ?_ ?_ (by with_reducible assumption)) | (with_reducible refine Below.alloc ?_ ?_ _) | (with_reducible refine Below.drew ?_) | (with_reducible refine below_drewN ?_ _) | (with_reducible refine Below.setCell ?_ ?_ _) | (with_reducible exact Nat.le_refl _) | omega | (simp only [World.size_alloc, World.size_setCell, World.size_drew, World.heap_drewN] at *; omega)))))).mono ?_; rintro e w1 ⟨rfl, hb⟩; have hz := hb.size; (try simp only [World.size_alloc, World.size_setCell, World.size_drew, World.heap_drewN] at hz); (try have h_w_0 : w.heap.size < w1.heap.size := by omega); (try have e_w_0 : ¬ w.heap.size = w1.heap.size := by omega); (try have d_w_0 : ¬ w1.heap.size = w.heap.size := by omega); (try (refine bcUse (n := w.heap.size) hb ?_ ?_; (focus ((try simp only [World.size_alloc, World.size_setCell, World.size_drew, World.heap_drewN]); omega)); intro _ _))) | (go_at_call 48; refine (c_most _ _ l _ hc h40 (hs.below (Nat.le_refl _) (by (repeat' (first | (with_reducible exact Below.refl _ _) | (with_reducible assumption) | (with_reducible refine Below.call ?_ ?_ (by with_reducible assumption)) | (with_reducible refine Below.alloc ?_ ?_ _) | (with_reducible refine Below.drew ?_) | (with_reducible refine below_drewN ?_ _) | (with_reducible refine Below.setCell ?_ ?_ _) | (with_reducible exact Nat.le_refl _) | omega | (simp only [World.size_alloc, World.size_setCell, World.size_drew, World.heap_drewN] at *; omega)))))).mono ?_; rintro e w2 ⟨rfl, hb⟩; have hz := hb.size; (try simp only [World.size_alloc, World.size_setCell, World.size_drew, World.heap_drewN] at hz); (try have h_w_0 : w.heap.size < w2.heap.size := by omega); (try have e_w_0 : ¬ w.heap.size = w2.heap.size := by omega); (try have d_w_0 : ¬ w2.heap.size = w.heap.size := by omega); (try (refine bcUse (n := w.heap.size) hb ?_ ?_; (focus ((try simp only [World.size_alloc, World.size_setCell, World.size_drew, World.heap_drewN]); omega)); intro _ _)); (try have h_w1_0 : w1.heap.size < w2.heap.size := by omega); (try have e_w1_0 : ¬ w1.heap.size = w2.heap.size := by omega); (try have d_w1_0 : ¬ w2.heap.size = w1.heap.size := by omega); (try (refine bcUse (n := w1.heap.size) hb ?_ ?_; (focus ((try simp only [World.size_alloc, World.size_setCell, World.size_drew, World.heap_drewN]); omega)); intro _ _))))
  refine bodyPost_ret (v := .tuple #[.agg #[.int .i64 (mLo l), .int .i64 (mHi l)], .int .i64 (mK l), .int .i64 0]) (by simp only [results, Try.results15]; go_simp) rfl ⟨rfl, ?_⟩
  (repeat' (first | (with_reducible exact Below.refl _ _) | (with_reducible assumption) | (with_reducible refine Below.call ?_ ?_ (by with_reducible assumption)) | (with_reducible refine Below.alloc ?_ ?_ _) | (with_reducible refine Below.drew ?_) | (with_reducible refine below_drewN ?_ _) | (with_reducible refine Below.setCell ?_ ?_ _) | (with_reducible exact Nat.le_refl _) | omega | (simp only [World.size_alloc, World.size_setCell, World.size_drew, World.heap_drewN] at *; omega)))
theorem c_Within_bad (a : Option Addr) (cap : Nat) (l : List Sp) (need : Int) (w : World) (hc : l.length ≤ cap) (hs : SpSlice w a l) (he : spsErr l ≠ 0) :
    Calls Try.prog 21 #[.slice a l.length cap, .int .i64 need] w fun e w' => e = .returned (.tuple #[.agg #[.int .i64 0, .int .i64 0], .int .i64 (spsErr l)]) ∧ Below w.heap.size w w' := by
  have h1 : (spsErr l != 0) = true := by simp [he]
  have hgen := sgen; have hgen2 := sgen2; have hgen3 := sgen3; go_enter Try.func21, Try.ntmps21
  go_wp2_with (go_at_call 17; refine (c_agCheck _ _ l _ hc (hs.below (Nat.le_refl _) (by (repeat' (first | (with_reducible exact Below.refl _ _) | (with_reducible assumption) | (with_reducible refine Below.call ?_ ?_ (by with_reducible assumption)) | (with_reducible refine Below.alloc ?_ ?_ _) | (with_reducible refine Below.drew ?_) | (with_reducible refine below_drewN ?_ _) | (with_reducible refine Below.setCell ?_ ?_ _) | (with_reducible exact Nat.le_refl _) | omega | (simp only [World.size_alloc, World.size_setCell, World.size_drew, World.heap_drewN] at *; omega)))))).mono ?_; rintro e w1 ⟨rfl, hb⟩; have hz := hb.size; (try simp only [World.size_alloc, World.size_setCell, World.size_drew, World.heap_drewN] at hz); (try have h_w_0 : w.heap.size < w1.heap.size := by omega); (try have e_w_0 : ¬ w.heap.size = w1.heap.size := by omega); (try have d_w_0 : ¬ w1.heap.size = w.heap.size := by omega); (try (refine bcUse (n := w.heap.size) hb ?_ ?_; (focus ((try simp only [World.size_alloc, World.size_setCell, World.size_drew, World.heap_drewN]); omega)); intro _ _)))
  refine bodyPost_ret (v := .tuple #[.agg #[.int .i64 0, .int .i64 0], .int .i64 (spsErr l)]) (by simp only [results, Try.results21]; go_simp) rfl ⟨rfl, ?_⟩
  (repeat' (first | (with_reducible exact Below.refl _ _) | (with_reducible assumption) | (with_reducible refine Below.call ?_ ?_ (by with_reducible assumption)) | (with_reducible refine Below.alloc ?_ ?_ _) | (with_reducible refine Below.drew ?_) | (with_reducible refine below_drewN ?_ _) | (with_reducible refine Below.setCell ?_ ?_ _) | (with_reducible exact Nat.le_refl _) | omega | (simp only [World.size_alloc, World.size_setCell, World.size_drew, World.heap_drewN] at *; omega)))
theorem c_Within_need (a : Option Addr) (cap : Nat) (l : List Sp) (need : Int) (w : World) (hc : l.length ≤ cap) (hs : SpSlice w a l) (he : spsErr l = 0) (hn : need < 1 ∨ (l.length : Int) < need) :
    Calls Try.prog 21 #[.slice a l.length cap, .int .i64 need] w fun e w' => e = .returned (.tuple #[.agg #[.int .i64 0, .int .i64 0], .int .i64 1]) ∧ Below w.heap.size w w' := by
  have h40 := (spsOk_of he).len
  have hK := fun w1 hs1 => c_agCheck a cap l w1 hc hs1
  rw [he] at hK
  rcases hn with hn | hn
  all_goals
    have hgen := sgen; have hgen2 := sgen2; have hgen3 := sgen3; go_enter Try.func21, Try.ntmps21
    go_wp2_with (go_at_call 17; refine (hK _ (hs.below (Nat.le_refl _) (by (repeat' (first | (with_reducible exact Below.refl _ _) | (with_reducible assumption) | (with_reducible refine Below.call ?_ ?_ (by with_reducible assumption)) | (with_reducible refine Below.alloc ?_ ?_ _) | (with_reducible refine Below.drew ?_) | (with_reducible refine below_drewN ?_ _) | (with_reducible refine Below.setCell ?_ ?_ _) | (with_reducible exact Nat.le_refl _) | omega | (simp only [World.size_alloc, World.size_setCell, World.size_drew, World.heap_drewN] at *; omega)))))).mono ?_; rintro e w1 ⟨rfl, hb⟩; have hz := hb.size; (try simp only [World.size_alloc, World.size_setCell, World.size_drew, World.heap_drewN] at hz); (try have h_w_0 : w.heap.size < w1.heap.size := by omega); (try have e_w_0 : ¬ w.heap.size = w1.heap.size := by omega); (try have d_w_0 : ¬ w1.heap.size = w.heap.size := by omega); (try (refine bcUse (n := w.heap.size) hb ?_ ?_; (focus ((try simp only [World.size_alloc, World.size_setCell, World.size_drew, World.heap_drewN]); omega)); intro _ _)))
    refine bodyPost_ret (v := .tuple #[.agg #[.int .i64 0, .int .i64 0], .int .i64 1]) (by simp only [results, Try.results21]; go_simp) rfl ⟨rfl, ?_⟩
    (repeat' (first | (with_reducible exact Below.refl _ _) | (with_reducible assumption) | (with_reducible refine Below.call ?_ ?_ (by with_reducible assumption)) | (with_reducible refine Below.alloc ?_ ?_ _) | (with_reducible refine Below.drew ?_) | (with_reducible refine below_drewN ?_ _) | (with_reducible refine Below.setCell ?_ ?_ _) | (with_reducible exact Nat.le_refl _) | omega | (simp only [World.size_alloc, World.size_setCell, World.size_drew, World.heap_drewN] at *; omega)))
theorem wStep1 {l : List Sp} {need : Int} {lo hi n : Int} {is : Bool} (h : cov l n < need) : wStep l need (lo, hi, is) n = (lo, hi, is) := by unfold wStep; rw [if_pos h]
theorem wStep2 {l : List Sp} {need : Int} {lo hi n : Int} (h : ¬ cov l n < need) : wStep l need (lo, hi, false) n = (n, n, true) := by unfold wStep; rw [if_neg h]; rfl
theorem wStep3 {l : List Sp} {need : Int} {lo hi n : Int} (h : ¬ cov l n < need) : wStep l need (lo, hi, true) n = (min lo n, max hi n, true) := by unfold wStep; rw [if_neg h]; rfl
set_option maxHeartbeats 4000000 in
theorem c_Within_ok (a : Option Addr) (cap : Nat) (l : List Sp) (need : Int) (w : World) (hc : l.length ≤ cap) (hs : SpSlice w a l) (he : spsErr l = 0) (n1 : 1 ≤ need) (n2 : need ≤ (l.length : Int)) (lo hi x : Int)
    (ht : (∃ p q, wst l need l.length = (p, q, false) ∧ lo = 0 ∧ hi = 0 ∧ x = 6) ∨ (wst l need l.length = (lo, hi, true) ∧ x = 0)) :
    Calls Try.prog 21 #[.slice a l.length cap, .int .i64 need] w fun e w' => e = .returned (.tuple #[.agg #[.int .i64 lo, .int .i64 hi], .int .i64 x]) ∧ Below w.heap.size w w' := by
  have h40 := (spsOk_of he).len
  have h2 : (l.length : Int) ≤ 40 := by omega
  have hK := fun w1 hs1 => c_agCheck a cap l w1 hc hs1
  rw [he] at hK
  have HT := Lib.hid ht
  clear ht
  have hgen := sgen; have hgen2 := sgen2; have hgen3 := sgen3; go_enter Try.func21, Try.ntmps21
  go_wp2_with (go_at_call 17; refine (hK _ (hs.below (Nat.le_refl _) (by (repeat' (first | (with_reducible exact Below.refl _ _) | (with_reducible assumption) | (with_reducible refine Below.call ?_ ?_ (by with_reducible assumption)) | (with_reducible refine Below.alloc ?_ ?_ _) | (with_reducible refine Below.drew ?_) | (with_reducible refine below_drewN ?_ _) | (with_reducible refine Below.setCell ?_ ?_ _) | (with_reducible exact Nat.le_refl _) | omega | (simp only [World.size_alloc, World.size_setCell, World.size_drew, World.heap_drewN] at *; omega)))))).mono ?_; rintro e wa ⟨rfl, hb⟩; have hz := hb.size; (try simp only [World.size_alloc, World.size_setCell, World.size_drew, World.heap_drewN] at hz); (try have h_w_0 : w.heap.size < wa.heap.size := by omega); (try have e_w_0 : ¬ w.heap.size = wa.heap.size := by omega); (try have d_w_0 : ¬ wa.heap.size = w.heap.size := by omega); (try (refine bcUse (n := w.heap.size) hb ?_ ?_; (focus ((try simp only [World.size_alloc, World.size_setCell, World.size_drew, World.heap_drewN]); omega)); intro _ _)))
  have hbwa : Below w.heap.size w wa := by (repeat' (first | (with_reducible exact Below.refl _ _) | (with_reducible assumption) | (with_reducible refine Below.call ?_ ?_ (by with_reducible assumption)) | (with_reducible refine Below.alloc ?_ ?_ _) | (with_reducible refine Below.drew ?_) | (with_reducible refine below_drewN ?_ _) | (with_reducible refine Below.setCell ?_ ?_ _) | (with_reducible exact Nat.le_refl _) | omega | (simp only [World.size_alloc, World.size_setCell, World.size_drew, World.heap_drewN] at *; omega)))
  have hza := hbwa.size
  have hza' : w.heap.size < wa.heap.size := by omega
  have HSL := Lib.hid hs
  go_loopg [8, 31] l.length (fun gk x8 i wr => ∃ k : Nat, ∃ p q : Int, ∃ is : Bool, gk + k = l.length ∧ i = .int .i64 k ∧ x8 = .bool is ∧ Below w.heap.size w wr ∧ SpAt wr w.heap.size 0 0 ∧ SpAt wr wa.heap.size p q ∧ wst l need k = (p, q, is))
  case atStart =>
    refine ⟨0, 0, 0, false, by omega, rfl, rfl, ?_, ?_, ?_, rfl⟩
    · (repeat' (first | (with_reducible exact Below.refl _ _) | (with_reducible assumption) | (with_reducible refine Below.call ?_ ?_ (by with_reducible assumption)) | (with_reducible refine Below.alloc ?_ ?_ _) | (with_reducible refine Below.drew ?_) | (with_reducible refine below_drewN ?_ _) | (with_reducible refine Below.setCell ?_ ?_ _) | (with_reducible exact Nat.le_refl _) | omega | (simp only [World.size_alloc, World.size_setCell, World.size_drew, World.heap_drewN] at *; omega)))
    · constructor <;> go_simp
    · constructor <;> go_simp
  case round =>
    obtain ⟨k, p, q, is, hk, rfl, rfl, hbel, hR, hB, hst⟩ := hrel
    obtain ⟨wo, rfl⟩ : ∃ wo : World, wo = wr := ⟨_, rfl⟩
    by_cases hlt : k < l.length
    · obtain ⟨b, off, ha, hb1, c0, c1⟩ := (hs.below (Nat.le_refl _) hbel) k hlt
      have ix1 := @ix_Sp a b off l.length cap k ha hlt
      have hsz := hbel.size
      have hsn := wst_snoc l need k hlt
      rw [hst] at hsn
      clear ha hs hst
      generalize l[k] = y at *
      have HN := Lib.hid hsn
      have HR := Lib.hid hR
      have HB := Lib.hid hB
      have hbl := hB.lt
      clear hsn hR hB
      go_wp2_with fail
      have i0 : ∀ w, (Instr.index 65 (.agg #[.int .i64 y.lo, .int .i64 y.hi]) (.int .i64 0)).run Try.prog w = .ok (.int .i64 y.lo) w := fun _ => by kernel_rfl
      have i1 : ∀ w, (Instr.index 65 (.agg #[.int .i64 y.lo, .int .i64 y.hi]) (.int .i64 1)).run Try.prog w = .ok (.int .i64 y.hi) w := fun _ => by kernel_rfl
      have hbel0 := hbel
      clear hbel
      go_loopg [8, 40] 2 (fun gk x8 j wr => ∃ p' q' : Int, ∃ is' : Bool, x8 = .bool is' ∧ Below w.heap.size w wr ∧ SpAt wr w.heap.size 0 0 ∧ SpAt wr wa.heap.size p' q' ∧ ((gk = 2 ∧ j = .int .i64 0 ∧ p' = p ∧ q' = q ∧ is' = is) ∨ (gk = 1 ∧ j = .int .i64 1 ∧ wStep l need (p, q, is) y.lo = (p', q', is')) ∨ (gk = 0 ∧ j = .int .i64 2 ∧ wst l need (k + 1) = (p', q', is'))))
      case atStart =>
        refine ⟨p, q, is, rfl, ?_, ?_, ?_, .inl ⟨rfl, rfl, rfl, rfl, rfl⟩⟩
        · (repeat' (first | (with_reducible exact Below.refl _ _) | (with_reducible assumption) | (with_reducible refine Below.call ?_ ?_ (by with_reducible assumption)) | (with_reducible refine Below.alloc ?_ ?_ _) | (with_reducible refine Below.drew ?_) | (with_reducible refine below_drewN ?_ _) | (with_reducible refine Below.setCell ?_ ?_ _) | (with_reducible exact Nat.le_refl _) | omega | (simp only [World.size_alloc, World.size_setCell, World.size_drew, World.heap_drewN] at *; omega)))
        · exact HR.out.below ((Below.refl _ _).alloc (Nat.le_refl _) _)
        · exact HB.out.below ((Below.refl _ _).alloc (Nat.le_refl _) _)
      case round =>
        clear HR HB
        obtain ⟨p', q', is', rfl, hbel, hR, hB, hj⟩ := hrel
        have hsz2 := hbel.size
        have hbl := hB.lt
        have HR := Lib.hid hR
        have HB := Lib.hid hB
        obtain ⟨e0, e1, e2, e3, e4⟩ := hB
        clear hR
        rcases hj with ⟨rfl, rfl, rfl, rfl, rfl⟩ | ⟨rfl, rfl, hw⟩ | ⟨rfl, rfl, hw⟩
        · have H1 : Hid (wStep l need (p', q', is') y.lo = wStep l need (p', q', is') y.lo) := Lib.hid rfl
          by_cases hcv : cov l y.lo < need
          · have hst := H1.out
            rw [wStep1 hcv] at hst
            have HW := Lib.hid hst
            clear hst
            go_wp2_with (go_at_call 51; refine (c_depth _ _ l _ _ hc h40 (HSL.out.below (Nat.le_refl _) (by (repeat' (first | (with_reducible exact Below.refl _ _) | (with_reducible assumption) | (with_reducible refine Below.call ?_ ?_ (by with_reducible assumption)) | (with_reducible refine Below.alloc ?_ ?_ _) | (with_reducible refine Below.drew ?_) | (with_reducible refine below_drewN ?_ _) | (with_reducible refine Below.setCell ?_ ?_ _) | (with_reducible exact Nat.le_refl _) | omega | (simp only [World.size_alloc, World.size_setCell, World.size_drew, World.heap_drewN] at *; omega)))))).mono ?_; rintro e w2 ⟨rfl, hb⟩; have hz := hb.size; (try simp only [World.size_alloc, World.size_setCell, World.size_drew, World.heap_drewN] at hz); (try have h_wr_0 : wr.heap.size < w2.heap.size := by omega); (try have e_wr_0 : ¬ wr.heap.size = w2.heap.size := by omega); (try have d_wr_0 : ¬ w2.heap.size = wr.heap.size := by omega); (try (refine bcUse (n := wr.heap.size) hb ?_ ?_; (focus ((try simp only [World.size_alloc, World.size_setCell, World.size_drew, World.heap_drewN]); omega)); intro _ _)); (try have h_w_0 : w.heap.size < w2.heap.size := by omega); (try have e_w_0 : ¬ w.heap.size = w2.heap.size := by omega); (try have d_w_0 : ¬ w2.heap.size = w.heap.size := by omega); (try (refine bcUse (n := w.heap.size) hb ?_ ?_; (focus ((try simp only [World.size_alloc, World.size_setCell, World.size_drew, World.heap_drewN]); omega)); intro _ _)); (try have h_wo_0 : wo.heap.size < w2.heap.size := by omega); (try have e_wo_0 : ¬ wo.heap.size = w2.heap.size := by omega); (try have d_wo_0 : ¬ w2.heap.size = wo.heap.size := by omega); (try (refine bcUse (n := wo.heap.size) hb ?_ ?_; (focus ((try simp only [World.size_alloc, World.size_setCell, World.size_drew, World.heap_drewN]); omega)); intro _ _)); (try have h_wa_0 : wa.heap.size < w2.heap.size := by omega); (try have e_wa_0 : ¬ wa.heap.size = w2.heap.size := by omega); (try have d_wa_0 : ¬ w2.heap.size = wa.heap.size := by omega); (try (refine bcUse (n := wa.heap.size) hb ?_ ?_; (focus ((try simp only [World.size_alloc, World.size_setCell, World.size_drew, World.heap_drewN]); omega)); intro _ _)))
            go_roundg 1
            case measure => omega
            case rel =>
              have hbz : Below wr.heap.size wr w2 := by (repeat' (first | (with_reducible exact Below.refl _ _) | (with_reducible assumption) | (with_reducible refine Below.call ?_ ?_ (by with_reducible assumption)) | (with_reducible refine Below.alloc ?_ ?_ _) | (with_reducible refine Below.drew ?_) | (with_reducible refine below_drewN ?_ _) | (with_reducible refine Below.setCell ?_ ?_ _) | (with_reducible exact Nat.le_refl _) | omega | (simp only [World.size_alloc, World.size_setCell, World.size_drew, World.heap_drewN] at *; omega)))
              refine ⟨p', q', is', rfl, ?_, HR.out.below hbz, HB.out.below hbz, .inr (.inl ⟨rfl, rfl, by first | exact HW.out | exact wStep1 hcv | exact wStep1 (by assumption)⟩)⟩
              (repeat' (first | (with_reducible exact Below.refl _ _) | (with_reducible assumption) | (with_reducible refine Below.call ?_ ?_ (by with_reducible assumption)) | (with_reducible refine Below.alloc ?_ ?_ _) | (with_reducible refine Below.drew ?_) | (with_reducible refine below_drewN ?_ _) | (with_reducible refine Below.setCell ?_ ?_ _) | (with_reducible exact Nat.le_refl _) | omega | (simp only [World.size_alloc, World.size_setCell, World.size_drew, World.heap_drewN] at *; omega)))
          · cases is' with
            | false =>
              have HW := Lib.hid (wStep2 (lo := p') (hi := q') hcv)
              go_wp2_with (go_at_call 51; refine (c_depth _ _ l _ _ hc h40 (HSL.out.below (Nat.le_refl _) (by (repeat' (first | (with_reducible exact Below.refl _ _) | (with_reducible assumption) | (with_reducible refine Below.call ?_ ?_ (by with_reducible assumption)) | (with_reducible refine Below.alloc ?_ ?_ _) | (with_reducible refine Below.drew ?_) | (with_reducible refine below_drewN ?_ _) | (with_reducible refine Below.setCell ?_ ?_ _) | (with_reducible exact Nat.le_refl _) | omega | (simp only [World.size_alloc, World.size_setCell, World.size_drew, World.heap_drewN] at *; omega)))))).mono ?_; rintro e w2 ⟨rfl, hb⟩; have hz := hb.size; (try simp only [World.size_alloc, World.size_setCell, World.size_drew, World.heap_drewN] at hz); (try have h_wr_0 : wr.heap.size < w2.heap.size := by omega); (try have e_wr_0 : ¬ wr.heap.size = w2.heap.size := by omega); (try have d_wr_0 : ¬ w2.heap.size = wr.heap.size := by omega); (try (refine bcUse (n := wr.heap.size) hb ?_ ?_; (focus ((try simp only [World.size_alloc, World.size_setCell, World.size_drew, World.heap_drewN]); omega)); intro _ _)); (try have h_w_0 : w.heap.size < w2.heap.size := by omega); (try have e_w_0 : ¬ w.heap.size = w2.heap.size := by omega); (try have d_w_0 : ¬ w2.heap.size = w.heap.size := by omega); (try (refine bcUse (n := w.heap.size) hb ?_ ?_; (focus ((try simp only [World.size_alloc, World.size_setCell, World.size_drew, World.heap_drewN]); omega)); intro _ _)); (try have h_wo_0 : wo.heap.size < w2.heap.size := by omega); (try have e_wo_0 : ¬ wo.heap.size = w2.heap.size := by omega); (try have d_wo_0 : ¬ w2.heap.size = wo.heap.size := by omega); (try (refine bcUse (n := wo.heap.size) hb ?_ ?_; (focus ((try simp only [World.size_alloc, World.size_setCell, World.size_drew, World.heap_drewN]); omega)); intro _ _)); (try have h_wa_0 : wa.heap.size < w2.heap.size := by omega); (try have e_wa_0 : ¬ wa.heap.size = w2.heap.size := by omega); (try have d_wa_0 : ¬ w2.heap.size = wa.heap.size := by omega); (try (refine bcUse (n := wa.heap.size) hb ?_ ?_; (focus ((try simp only [World.size_alloc, World.size_setCell, World.size_drew, World.heap_drewN]); omega)); intro _ _)))
              go_roundg 1
              case measure => omega
              case rel =>
                have hbz : Below wr.heap.size wr w2 := by (repeat' (first | (with_reducible exact Below.refl _ _) | (with_reducible assumption) | (with_reducible refine Below.call ?_ ?_ (by with_reducible assumption)) | (with_reducible refine Below.alloc ?_ ?_ _) | (with_reducible refine Below.drew ?_) | (with_reducible refine below_drewN ?_ _) | (with_reducible refine Below.setCell ?_ ?_ _) | (with_reducible exact Nat.le_refl _) | omega | (simp only [World.size_alloc, World.size_setCell, World.size_drew, World.heap_drewN] at *; omega)))
                refine ⟨y.lo, y.lo, true, rfl, ?_, ?_, ?_, .inr (.inl ⟨rfl, rfl, HW.out⟩)⟩
                · (repeat' (first | (with_reducible exact Below.refl _ _) | (with_reducible assumption) | (with_reducible refine Below.call ?_ ?_ (by with_reducible assumption)) | (with_reducible refine Below.alloc ?_ ?_ _) | (with_reducible refine Below.drew ?_) | (with_reducible refine below_drewN ?_ _) | (with_reducible refine Below.setCell ?_ ?_ _) | (with_reducible exact Nat.le_refl _) | omega | (simp only [World.size_alloc, World.size_setCell, World.size_drew, World.heap_drewN] at *; omega)))
                · first | exact (HR.out.below hbz).setOther (c := wa.heap.size) (by omega) _ _ | exact ((HR.out.below hbz).setOther (c := wa.heap.size) (by omega) _ _).setOther (by omega) _ _
                · first | exact (HB.out.below hbz).set _ _ | exact ((HB.out.below hbz).set _ _).set _ _
            | true =>
              have HW := Lib.hid (wStep3 (lo := p') (hi := q') hcv)
              have d1 : (p' ≤ y.lo ∧ p' ≤ y.lo) ∨ (y.lo < p' ∧ y.lo ≤ p') := by omega
              have d2 : (q' < y.lo ∧ q' ≤ y.lo) ∨ (y.lo ≤ q' ∧ y.lo ≤ q') := by omega
              rcases d1 with ⟨d1, d1'⟩ | ⟨d1, d1'⟩ <;> rcases d2 with ⟨d2, d2'⟩ | ⟨d2, d2'⟩
              all_goals
                go_wp2_with (go_at_call 51; refine (c_depth _ _ l _ _ hc h40 (HSL.out.below (Nat.le_refl _) (by (repeat' (first | (with_reducible exact Below.refl _ _) | (with_reducible assumption) | (with_reducible refine Below.call ?_ ?_ (by with_reducible assumption)) | (with_reducible refine Below.alloc ?_ ?_ _) | (with_reducible refine Below.drew ?_) | (with_reducible refine below_drewN ?_ _) | (with_reducible refine Below.setCell ?_ ?_ _) | (with_reducible exact Nat.le_refl _) | omega | (simp only [World.size_alloc, World.size_setCell, World.size_drew, World.heap_drewN] at *; omega)))))).mono ?_; rintro e w2 ⟨rfl, hb⟩; have hz := hb.size; (try simp only [World.size_alloc, World.size_setCell, World.size_drew, World.heap_drewN] at hz); (try have h_wr_0 : wr.heap.size < w2.heap.size := by omega); (try have e_wr_0 : ¬ wr.heap.size = w2.heap.size := by omega); (try have d_wr_0 : ¬ w2.heap.size = wr.heap.size := by omega); (try (refine bcUse (n := wr.heap.size) hb ?_ ?_; (focus ((try simp only [World.size_alloc, World.size_setCell, World.size_drew, World.heap_drewN]); omega)); intro _ _)); (try have h_w_0 : w.heap.size < w2.heap.size := by omega); (try have e_w_0 : ¬ w.heap.size = w2.heap.size := by omega); (try have d_w_0 : ¬ w2.heap.size = w.heap.size := by omega); (try (refine bcUse (n := w.heap.size) hb ?_ ?_; (focus ((try simp only [World.size_alloc, World.size_setCell, World.size_drew, World.heap_drewN]); omega)); intro _ _)); (try have h_wo_0 : wo.heap.size < w2.heap.size := by omega); (try have e_wo_0 : ¬ wo.heap.size = w2.heap.size := by omega); (try have d_wo_0 : ¬ w2.heap.size = wo.heap.size := by omega); (try (refine bcUse (n := wo.heap.size) hb ?_ ?_; (focus ((try simp only [World.size_alloc, World.size_setCell, World.size_drew, World.heap_drewN]); omega)); intro _ _)); (try have h_wa_0 : wa.heap.size < w2.heap.size := by omega); (try have e_wa_0 : ¬ wa.heap.size = w2.heap.size := by omega); (try have d_wa_0 : ¬ w2.heap.size = wa.heap.size := by omega); (try (refine bcUse (n := wa.heap.size) hb ?_ ?_; (focus ((try simp only [World.size_alloc, World.size_setCell, World.size_drew, World.heap_drewN]); omega)); intro _ _)))
                go_roundg 1
                case measure => omega
                case rel =>
                  have hbz : Below wr.heap.size wr w2 := by (repeat' (first | (with_reducible exact Below.refl _ _) | (with_reducible assumption) | (with_reducible refine Below.call ?_ ?_ (by with_reducible assumption)) | (with_reducible refine Below.alloc ?_ ?_ _) | (with_reducible refine Below.drew ?_) | (with_reducible refine below_drewN ?_ _) | (with_reducible refine Below.setCell ?_ ?_ _) | (with_reducible exact Nat.le_refl _) | omega | (simp only [World.size_alloc, World.size_setCell, World.size_drew, World.heap_drewN] at *; omega)))
                  refine ⟨_, _, true, rfl, ?_, (HR.out.below hbz).setOther (c := wa.heap.size) (by omega) _ _, (HB.out.below hbz).set _ _, .inr (.inl ⟨rfl, rfl, by rw [HW.out]; congr 1; omega; congr 1; omega⟩)⟩
                  (repeat' (first | (with_reducible exact Below.refl _ _) | (with_reducible assumption) | (with_reducible refine Below.call ?_ ?_ (by with_reducible assumption)) | (with_reducible refine Below.alloc ?_ ?_ _) | (with_reducible refine Below.drew ?_) | (with_reducible refine below_drewN ?_ _) | (with_reducible refine Below.setCell ?_ ?_ _) | (with_reducible exact Nat.le_refl _) | omega | (simp only [World.size_alloc, World.size_setCell, World.size_drew, World.heap_drewN] at *; omega)))
        · have H1 : Hid (wst l need (k + 1) = wStep l need (p', q', is') y.hi) := Lib.hid (by rw [HN.out]; show wStep l need (wStep l need (p, q, is) y.lo) y.hi = _; rw [hw])
          clear hw
          by_cases hcv : cov l y.hi < need
          · have hst := H1.out
            rw [wStep1 hcv] at hst
            have HW := Lib.hid hst
            clear hst
            go_wp2_with (go_at_call 51; refine (c_depth _ _ l _ _ hc h40 (HSL.out.below (Nat.le_refl _) (by (repeat' (first | (with_reducible exact Below.refl _ _) | (with_reducible assumption) | (with_reducible refine Below.call ?_ ?_ (by with_reducible assumption)) | (with_reducible refine Below.alloc ?_ ?_ _) | (with_reducible refine Below.drew ?_) | (with_reducible refine below_drewN ?_ _) | (with_reducible refine Below.setCell ?_ ?_ _) | (with_reducible exact Nat.le_refl _) | omega | (simp only [World.size_alloc, World.size_setCell, World.size_drew, World.heap_drewN] at *; omega)))))).mono ?_; rintro e w2 ⟨rfl, hb⟩; have hz := hb.size; (try simp only [World.size_alloc, World.size_setCell, World.size_drew, World.heap_drewN] at hz); (try have h_wr_0 : wr.heap.size < w2.heap.size := by omega); (try have e_wr_0 : ¬ wr.heap.size = w2.heap.size := by omega); (try have d_wr_0 : ¬ w2.heap.size = wr.heap.size := by omega); (try (refine bcUse (n := wr.heap.size) hb ?_ ?_; (focus ((try simp only [World.size_alloc, World.size_setCell, World.size_drew, World.heap_drewN]); omega)); intro _ _)); (try have h_w_0 : w.heap.size < w2.heap.size := by omega); (try have e_w_0 : ¬ w.heap.size = w2.heap.size := by omega); (try have d_w_0 : ¬ w2.heap.size = w.heap.size := by omega); (try (refine bcUse (n := w.heap.size) hb ?_ ?_; (focus ((try simp only [World.size_alloc, World.size_setCell, World.size_drew, World.heap_drewN]); omega)); intro _ _)); (try have h_wo_0 : wo.heap.size < w2.heap.size := by omega); (try have e_wo_0 : ¬ wo.heap.size = w2.heap.size := by omega); (try have d_wo_0 : ¬ w2.heap.size = wo.heap.size := by omega); (try (refine bcUse (n := wo.heap.size) hb ?_ ?_; (focus ((try simp only [World.size_alloc, World.size_setCell, World.size_drew, World.heap_drewN]); omega)); intro _ _)); (try have h_wa_0 : wa.heap.size < w2.heap.size := by omega); (try have e_wa_0 : ¬ wa.heap.size = w2.heap.size := by omega); (try have d_wa_0 : ¬ w2.heap.size = wa.heap.size := by omega); (try (refine bcUse (n := wa.heap.size) hb ?_ ?_; (focus ((try simp only [World.size_alloc, World.size_setCell, World.size_drew, World.heap_drewN]); omega)); intro _ _)))
            go_roundg 0
            case measure => omega
            case rel =>
              have hbz : Below wr.heap.size wr w2 := by (repeat' (first | (with_reducible exact Below.refl _ _) | (with_reducible assumption) | (with_reducible refine Below.call ?_ ?_ (by with_reducible assumption)) | (with_reducible refine Below.alloc ?_ ?_ _) | (with_reducible refine Below.drew ?_) | (with_reducible refine below_drewN ?_ _) | (with_reducible refine Below.setCell ?_ ?_ _) | (with_reducible exact Nat.le_refl _) | omega | (simp only [World.size_alloc, World.size_setCell, World.size_drew, World.heap_drewN] at *; omega)))
              refine ⟨p', q', is', rfl, ?_, HR.out.below hbz, HB.out.below hbz, .inr (.inr ⟨rfl, rfl, HW.out⟩)⟩
              (repeat' (first | (with_reducible exact Below.refl _ _) | (with_reducible assumption) | (with_reducible refine Below.call ?_ ?_ (by with_reducible assumption)) | (with_reducible refine Below.alloc ?_ ?_ _) | (with_reducible refine Below.drew ?_) | (with_reducible refine below_drewN ?_ _) | (with_reducible refine Below.setCell ?_ ?_ _) | (with_reducible exact Nat.le_refl _) | omega | (simp only [World.size_alloc, World.size_setCell, World.size_drew, World.heap_drewN] at *; omega)))
          · cases is' with
            | false =>
              have hst := H1.out
              rw [wStep2 hcv] at hst
              have HW := Lib.hid hst
              clear hst
              go_wp2_with (go_at_call 51; refine (c_depth _ _ l _ _ hc h40 (HSL.out.below (Nat.le_refl _) (by (repeat' (first | (with_reducible exact Below.refl _ _) | (with_reducible assumption) | (with_reducible refine Below.call ?_ ?_ (by with_reducible assumption)) | (with_reducible refine Below.alloc ?_ ?_ _) | (with_reducible refine Below.drew ?_) | (with_reducible refine below_drewN ?_ _) | (with_reducible refine Below.setCell ?_ ?_ _) | (with_reducible exact Nat.le_refl _) | omega | (simp only [World.size_alloc, World.size_setCell, World.size_drew, World.heap_drewN] at *; omega)))))).mono ?_; rintro e w2 ⟨rfl, hb⟩; have hz := hb.size; (try simp only [World.size_alloc, World.size_setCell, World.size_drew, World.heap_drewN] at hz); (try have h_wr_0 : wr.heap.size < w2.heap.size := by omega); (try have e_wr_0 : ¬ wr.heap.size = w2.heap.size := by omega); (try have d_wr_0 : ¬ w2.heap.size = wr.heap.size := by omega); (try (refine bcUse (n := wr.heap.size) hb ?_ ?_; (focus ((try simp only [World.size_alloc, World.size_setCell, World.size_drew, World.heap_drewN]); omega)); intro _ _)); (try have h_w_0 : w.heap.size < w2.heap.size := by omega); (try have e_w_0 : ¬ w.heap.size = w2.heap.size := by omega); (try have d_w_0 : ¬ w2.heap.size = w.heap.size := by omega); (try (refine bcUse (n := w.heap.size) hb ?_ ?_; (focus ((try simp only [World.size_alloc, World.size_setCell, World.size_drew, World.heap_drewN]); omega)); intro _ _)); (try have h_wo_0 : wo.heap.size < w2.heap.size := by omega); (try have e_wo_0 : ¬ wo.heap.size = w2.heap.size := by omega); (try have d_wo_0 : ¬ w2.heap.size = wo.heap.size := by omega); (try (refine bcUse (n := wo.heap.size) hb ?_ ?_; (focus ((try simp only [World.size_alloc, World.size_setCell, World.size_drew, World.heap_drewN]); omega)); intro _ _)); (try have h_wa_0 : wa.heap.size < w2.heap.size := by omega); (try have e_wa_0 : ¬ wa.heap.size = w2.heap.size := by omega); (try have d_wa_0 : ¬ w2.heap.size = wa.heap.size := by omega); (try (refine bcUse (n := wa.heap.size) hb ?_ ?_; (focus ((try simp only [World.size_alloc, World.size_setCell, World.size_drew, World.heap_drewN]); omega)); intro _ _)))
              go_roundg 0
              case measure => omega
              case rel =>
                have hbz : Below wr.heap.size wr w2 := by (repeat' (first | (with_reducible exact Below.refl _ _) | (with_reducible assumption) | (with_reducible refine Below.call ?_ ?_ (by with_reducible assumption)) | (with_reducible refine Below.alloc ?_ ?_ _) | (with_reducible refine Below.drew ?_) | (with_reducible refine below_drewN ?_ _) | (with_reducible refine Below.setCell ?_ ?_ _) | (with_reducible exact Nat.le_refl _) | omega | (simp only [World.size_alloc, World.size_setCell, World.size_drew, World.heap_drewN] at *; omega)))
                refine ⟨y.hi, y.hi, true, rfl, ?_, ?_, ?_, .inr (.inr ⟨rfl, rfl, HW.out⟩)⟩
                · (repeat' (first | (with_reducible exact Below.refl _ _) | (with_reducible assumption) | (with_reducible refine Below.call ?_ ?_ (by with_reducible assumption)) | (with_reducible refine Below.alloc ?_ ?_ _) | (with_reducible refine Below.drew ?_) | (with_reducible refine below_drewN ?_ _) | (with_reducible refine Below.setCell ?_ ?_ _) | (with_reducible exact Nat.le_refl _) | omega | (simp only [World.size_alloc, World.size_setCell, World.size_drew, World.heap_drewN] at *; omega)))
                · first | exact (HR.out.below hbz).setOther (c := wa.heap.size) (by omega) _ _ | exact ((HR.out.below hbz).setOther (c := wa.heap.size) (by omega) _ _).setOther (by omega) _ _
                · first | exact (HB.out.below hbz).set _ _ | exact ((HB.out.below hbz).set _ _).set _ _
            | true =>
              have hst := H1.out
              rw [wStep3 hcv] at hst
              have HW := Lib.hid hst
              clear hst
              have d1 : (p' ≤ y.hi ∧ p' ≤ y.hi) ∨ (y.hi < p' ∧ y.hi ≤ p') := by omega
              have d2 : (q' < y.hi ∧ q' ≤ y.hi) ∨ (y.hi ≤ q' ∧ y.hi ≤ q') := by omega
              rcases d1 with ⟨d1, d1'⟩ | ⟨d1, d1'⟩ <;> rcases d2 with ⟨d2, d2'⟩ | ⟨d2, d2'⟩
              all_goals
                go_wp2_with (go_at_call 51; refine (c_depth _ _ l _ _ hc h40 (HSL.out.below (Nat.le_refl _) (by (repeat' (first | (with_reducible exact Below.refl _ _) | (with_reducible assumption) | (with_reducible refine Below.call ?_ ?_ (by with_reducible assumption)) | (with_reducible refine Below.alloc ?_ ?_ _) | (with_reducible refine Below.drew ?_) | (with_reducible refine below_drewN ?_ _) | (with_reducible refine Below.setCell ?_ ?_ _) | (with_reducible exact Nat.le_refl _) | omega | (simp only [World.size_alloc, World.size_setCell, World.size_drew, World.heap_drewN] at *; omega)))))).mono ?_; rintro e w2 ⟨rfl, hb⟩; have hz := hb.size; (try simp only [World.size_alloc, World.size_setCell, World.size_drew, World.heap_drewN] at hz); (try have h_wr_0 : wr.heap.size < w2.heap.size := by omega); (try have e_wr_0 : ¬ wr.heap.size = w2.heap.size := by omega); (try have d_wr_0 : ¬ w2.heap.size = wr.heap.size := by omega); (try (refine bcUse (n := wr.heap.size) hb ?_ ?_; (focus ((try simp only [World.size_alloc, World.size_setCell, World.size_drew, World.heap_drewN]); omega)); intro _ _)); (try have h_w_0 : w.heap.size < w2.heap.size := by omega); (try have e_w_0 : ¬ w.heap.size = w2.heap.size := by omega); (try have d_w_0 : ¬ w2.heap.size = w.heap.size := by omega); (try (refine bcUse (n := w.heap.size) hb ?_ ?_; (focus ((try simp only [World.size_alloc, World.size_setCell, World.size_drew, World.heap_drewN]); omega)); intro _ _)); (try have h_wo_0 : wo.heap.size < w2.heap.size := by omega); (try have e_wo_0 : ¬ wo.heap.size = w2.heap.size := by omega); (try have d_wo_0 : ¬ w2.heap.size = wo.heap.size := by omega); (try (refine bcUse (n := wo.heap.size) hb ?_ ?_; (focus ((try simp only [World.size_alloc, World.size_setCell, World.size_drew, World.heap_drewN]); omega)); intro _ _)); (try have h_wa_0 : wa.heap.size < w2.heap.size := by omega); (try have e_wa_0 : ¬ wa.heap.size = w2.heap.size := by omega); (try have d_wa_0 : ¬ w2.heap.size = wa.heap.size := by omega); (try (refine bcUse (n := wa.heap.size) hb ?_ ?_; (focus ((try simp only [World.size_alloc, World.size_setCell, World.size_drew, World.heap_drewN]); omega)); intro _ _)))
                go_roundg 0
                case measure => omega
                case rel =>
                  have hbz : Below wr.heap.size wr w2 := by (repeat' (first | (with_reducible exact Below.refl _ _) | (with_reducible assumption) | (with_reducible refine Below.call ?_ ?_ (by with_reducible assumption)) | (with_reducible refine Below.alloc ?_ ?_ _) | (with_reducible refine Below.drew ?_) | (with_reducible refine below_drewN ?_ _) | (with_reducible refine Below.setCell ?_ ?_ _) | (with_reducible exact Nat.le_refl _) | omega | (simp only [World.size_alloc, World.size_setCell, World.size_drew, World.heap_drewN] at *; omega)))
                  refine ⟨_, _, true, rfl, ?_, (HR.out.below hbz).setOther (c := wa.heap.size) (by omega) _ _, (HB.out.below hbz).set _ _, .inr (.inr ⟨rfl, rfl, by rw [HW.out]; congr 1; omega; congr 1; omega⟩)⟩
                  (repeat' (first | (with_reducible exact Below.refl _ _) | (with_reducible assumption) | (with_reducible refine Below.call ?_ ?_ (by with_reducible assumption)) | (with_reducible refine Below.alloc ?_ ?_ _) | (with_reducible refine Below.drew ?_) | (with_reducible refine below_drewN ?_ _) | (with_reducible refine Below.setCell ?_ ?_ _) | (with_reducible exact Nat.le_refl _) | omega | (simp only [World.size_alloc, World.size_setCell, World.size_drew, World.heap_drewN] at *; omega)))
        · have HW := Lib.hid hw
          clear hw
          go_wp2
          go_roundg (l.length - (k + 1))
          case measure => omega
          case rel => exact ⟨k + 1, p', q', is', by omega, by go_num, rfl, hbel, HR.out, HB.out, HW.out⟩
    · have hkl : k = l.length := by omega
      rw [hkl] at hst
      have hsz := hbel.size
      obtain ⟨e0, e1, e2, e3, e4⟩ := hB
      obtain ⟨r0, r1, r2, r3, r4⟩ := hR
      have hu := HT.out
      rw [hst] at hu
      clear hkl hst
      rcases hu with ⟨p', q', hpq, rfl, rfl, rfl⟩ | ⟨hpq, rfl⟩
      · obtain ⟨rfl, rfl, rfl⟩ : p = p' ∧ q = q' ∧ is = false := by simpa using hpq
        clear hpq
        go_wp2
        refine bodyPost_ret (v := .tuple #[.agg #[.int .i64 0, .int .i64 0], .int .i64 6]) (by simp only [results, Try.results21]; go_simp) rfl ⟨rfl, ?_⟩
        (repeat' (first | (with_reducible exact Below.refl _ _) | (with_reducible assumption) | (with_reducible refine Below.call ?_ ?_ (by with_reducible assumption)) | (with_reducible refine Below.alloc ?_ ?_ _) | (with_reducible refine Below.drew ?_) | (with_reducible refine below_drewN ?_ _) | (with_reducible refine Below.setCell ?_ ?_ _) | (with_reducible exact Nat.le_refl _) | omega | (simp only [World.size_alloc, World.size_setCell, World.size_drew, World.heap_drewN] at *; omega)))
      · obtain ⟨rfl, rfl, rfl⟩ : p = lo ∧ q = hi ∧ is = true := by simpa using hpq
        clear hpq
        go_wp2
        refine bodyPost_ret (v := .tuple #[.agg #[.int .i64 p, .int .i64 q], .int .i64 0]) (by simp only [results, Try.results21]; go_simp) rfl ⟨rfl, ?_⟩
        (repeat' (first | (with_reducible exact Below.refl _ _) | (with_reducible assumption) | (with_reducible refine Below.call ?_ ?_ (by with_reducible assumption)) | (with_reducible refine Below.alloc ?_ ?_ _) | (with_reducible refine Below.drew ?_) | (with_reducible refine below_drewN ?_ _) | (with_reducible refine Below.setCell ?_ ?_ _) | (with_reducible exact Nat.le_refl _) | omega | (simp only [World.size_alloc, World.size_setCell, World.size_drew, World.heap_drewN] at *; omega)))
end Go.Proofs.Ytdpddidfdifbhaa
