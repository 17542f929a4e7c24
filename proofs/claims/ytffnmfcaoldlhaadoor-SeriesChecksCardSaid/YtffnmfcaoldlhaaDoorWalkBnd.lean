/- Contracts of series.bound and Bound. -/
import Derived.Test.YtffnmfcaoldlhaaDoorWalkSer
set_option linter.unusedVariables false
set_option linter.unusedSimpArgs false
namespace Go.Proofs.YtffnmfcaoldlhaaDoor
open Go.RowKit
theorem absT_nn (n : Int) : 0 ≤ absT n := by unfold absT; split <;> omega
theorem c_sbound (m r s : Int) (a : Option Addr) (cap : Nat) (l : List Tm) (w : World) (hc : l.length ≤ cap) (hs : TmSlice w a l) (hv : SumOk m r l s) :
    Calls Tryd.prog 71 #[sumV m r a l.length cap s] w fun e w' => e = .returned (.int .i64 (bndAt s l)) ∧ Below w.heap.size w w' := by
  have h40 := hv.len
  have h2 : (l.length : Int) ≤ 40 := by omega
  have s1 := hv.s1
  have s2 := hv.s2
  have hgen := sgen; have hgen2 := sgen2; have hgen3 := sgen3; go_enter Tryd.func71, Tryd.ntmps71
  go_wp2_with fail
  go_loopg [3, 12] l.length (fun gk x3 i wr => ∃ k : Nat, gk + k = l.length ∧ i = .int .i64 k ∧ x3 = .int .i64 (bndAt s (l.take k)) ∧ Below w.heap.size w wr)
  case atStart => exact ⟨0, by omega, rfl, by unfold bndAt; rfl, (Below.refl _ _).alloc (Nat.le_refl _) _⟩
  case round =>
    obtain ⟨k, hk, rfl, rfl, hbel⟩ := hrel
    by_cases hlt : k < l.length
    · obtain ⟨b, off, ha, hb1, c0, c1, c2⟩ := (hs.below (Nat.le_refl _) hbel) k hlt
      have ix1 := @ix_Tm a b off l.length cap k ha hlt
      have hsz := hbel.size
      have hsn := bnd_snoc s l k hlt
      have ht := hv.tm l[k] (List.getElem_mem hlt)
      obtain ⟨b1, b2⟩ := bnd_bd s1 s2 hv.tm k
      clear ha
      generalize l[k] = x at *
      generalize bndAt s (l.take k) = n at *
      have a1 := ht.a1
      have a2 := ht.a2
      have a3 := absT_nn x.amp
      have a4 : absT x.amp ≤ 1000000000 := by unfold absT; split <;> omega
      have HZ := Lib.hid (fun w1 => c_ssize x.amp (absT x.amp) w1 (by unfold absT; split <;> omega) (by omega))
      generalize absT x.amp = q at *
      have HS := Lib.hid hsn
      clear hsn ht
      go_wp2_with (go_at_call 96; refine (HZ.out _).mono ?_; rintro e w' ⟨rfl, rfl⟩)
      go_roundg (l.length - (k + 1))
      case measure => omega
      case rel =>
        refine ⟨k + 1, by omega, by go_num, by rw [HS.out], ?_⟩
        (repeat' (first | (with_reducible exact Below.refl _ _) | (with_reducible assumption) | (with_reducible refine Below.call ?_ ?_ (by with_reducible assumption)) | (with_reducible refine Below.alloc ?_ ?_ _) | (with_reducible refine Below.drew ?_) | (with_reducible refine below_drewN ?_ _) | (with_reducible refine Below.setCell ?_ ?_ _) | (with_reducible exact Nat.le_refl _) | omega | (simp only [World.size_alloc, World.size_setCell, World.size_drew, World.heap_drewN] at *; omega)))
    · have hkl : k = l.length := by omega
      rw [hkl, List.take_of_length_le (Nat.le_refl _)]
      clear hkl
      go_wp2
      go_ret
      exact ⟨rfl, hbel⟩
theorem c_Bound_bad (m r s : Int) (a : Option Addr) (cap : Nat) (l : List Tm) (w : World) (hc : l.length ≤ cap) (hs : TmSlice w a l) (he : sumE m r l s ≠ 0) :
    Calls Tryd.prog 36 #[sumV m r a l.length cap s] w fun e w' => e = .returned (.tuple #[.int .i64 0, .int .i64 (sumE m r l s)]) ∧ Below w.heap.size w w' := by
  have h1 : (sumE m r l s != 0) = true := by simp [he]
  have HS := Lib.hid hs
  clear hs
  have hgen := sgen; have hgen2 := sgen2; have hgen3 := sgen3; go_enter Tryd.func36, Tryd.ntmps36
  go_wp2_with (go_at_call 37; (refine (c_serCheck _ _ _ _ _ l _ hc (HS.out.below (Nat.le_refl _) (by (repeat' (first | (with_reducible exact Below.refl _ _) | (with_reducible assumption) | (with_reducible refine Below.call ?_ ?_ (by with_reducible assumption)) | (with_reducible refine Below.alloc ?_ ?_ _) | (with_reducible refine Below.drew ?_) | (with_reducible refine below_drewN ?_ _) | (with_reducible refine Below.setCell ?_ ?_ _) | (with_reducible exact Nat.le_refl _) | omega | (simp only [World.size_alloc, World.size_setCell, World.size_drew, World.heap_drewN] at *; omega)))))).mono ?_); rintro e w1 ⟨rfl, hb⟩; have hz := hb.size; (try simp only [World.size_alloc, World.size_setCell, World.size_drew, World.heap_drewN] at hz); (try have h_w_0 : w.heap.size < w1.heap.size := by omega); (try have e_w_0 : ¬ w.heap.size = w1.heap.size := by omega); (try have d_w_0 : ¬ w1.heap.size = w.heap.size := by omega); (try (refine bcUse (n := w.heap.size) hb ?_ ?_; (focus ((try simp only [World.size_alloc, World.size_setCell, World.size_drew, World.heap_drewN]); omega)); intro _ _)))
  go_ret2
  refine ⟨rfl, ?_⟩
  (repeat' (first | (with_reducible exact Below.refl _ _) | (with_reducible assumption) | (with_reducible refine Below.call ?_ ?_ (by with_reducible assumption)) | (with_reducible refine Below.alloc ?_ ?_ _) | (with_reducible refine Below.drew ?_) | (with_reducible refine below_drewN ?_ _) | (with_reducible refine Below.setCell ?_ ?_ _) | (with_reducible exact Nat.le_refl _) | omega | (simp only [World.size_alloc, World.size_setCell, World.size_drew, World.heap_drewN] at *; omega)))
theorem c_Bound_ok (m r s : Int) (a : Option Addr) (cap : Nat) (l : List Tm) (w : World) (hc : l.length ≤ cap) (hs : TmSlice w a l) (he : sumE m r l s = 0) :
    Calls Tryd.prog 36 #[sumV m r a l.length cap s] w fun e w' => e = .returned (.tuple #[.int .i64 (bndAt s l), .int .i64 0]) ∧ Below w.heap.size w w' := by
  have hv := sumOk_of he
  have hk := fun w1 hs1 => c_serCheck m r s a cap l w1 hc hs1
  rw [he] at hk
  have HK := Lib.hid hk
  have HB := Lib.hid (fun w1 hs1 => c_sbound m r s a cap l w1 hc hs1 hv)
  have HS := Lib.hid hs
  clear hs hk he hv
  have hgen := sgen; have hgen2 := sgen2; have hgen3 := sgen3; go_enter Tryd.func36, Tryd.ntmps36
  go_wp2_with (first | (go_at_call 37; (refine (HK.out _ (HS.out.below (Nat.le_refl _) (by (repeat' (first | (with_reducible exact Below.refl _ _) | (with_reducible assumption) | (with_reducible refine Below.call ?_ ?_ (by with_reducible assumption)) | (with_reducible refine Below.alloc ?_ ?_ _) | (with_reducible refine Below.drew ?_) | (with_reducible refine below_drewN ?_ _) | (with_reducible refine Below.setCell ?_ ?_ _) | (with_reducible exact Nat.le_refl _) | omega | (simp only [World.size_alloc, World.size_setCell, World.size_drew, World.heap_drewN] at *; omega)))))).mono ?_); rintro e w1 ⟨rfl, hb⟩; have hz := hb.size; (try simp only [World.size_alloc, World.size_setCell, World.size_drew, World.heap_drewN] at hz); (try have h_w_0 : w.heap.size < w1.heap.size := by omega); (try have e_w_0 : ¬ w.heap.size = w1.heap.size := by omega); (try have d_w_0 : ¬ w1.heap.size = w.heap.size := by omega); (try (refine bcUse (n := w.heap.size) hb ?_ ?_; (focus ((try simp only [World.size_alloc, World.size_setCell, World.size_drew, World.heap_drewN]); omega)); intro _ _))) | (go_at_call 71; (refine (HB.out _ (HS.out.below (Nat.le_refl _) (by (repeat' (first | (with_reducible exact Below.refl _ _) | (with_reducible assumption) | (with_reducible refine Below.call ?_ ?_ (by with_reducible assumption)) | (with_reducible refine Below.alloc ?_ ?_ _) | (with_reducible refine Below.drew ?_) | (with_reducible refine below_drewN ?_ _) | (with_reducible refine Below.setCell ?_ ?_ _) | (with_reducible exact Nat.le_refl _) | omega | (simp only [World.size_alloc, World.size_setCell, World.size_drew, World.heap_drewN] at *; omega)))))).mono ?_); rintro e w2 ⟨rfl, hb⟩; have hz := hb.size; (try simp only [World.size_alloc, World.size_setCell, World.size_drew, World.heap_drewN] at hz); (try have h_w_0 : w.heap.size < w2.heap.size := by omega); (try have e_w_0 : ¬ w.heap.size = w2.heap.size := by omega); (try have d_w_0 : ¬ w2.heap.size = w.heap.size := by omega); (try (refine bcUse (n := w.heap.size) hb ?_ ?_; (focus ((try simp only [World.size_alloc, World.size_setCell, World.size_drew, World.heap_drewN]); omega)); intro _ _)); (try have h_w1_0 : w1.heap.size < w2.heap.size := by omega); (try have e_w1_0 : ¬ w1.heap.size = w2.heap.size := by omega); (try have d_w1_0 : ¬ w2.heap.size = w1.heap.size := by omega); (try (refine bcUse (n := w1.heap.size) hb ?_ ?_; (focus ((try simp only [World.size_alloc, World.size_setCell, World.size_drew, World.heap_drewN]); omega)); intro _ _))))
  go_ret2
  refine ⟨rfl, ?_⟩
  (repeat' (first | (with_reducible exact Below.refl _ _) | (with_reducible assumption) | (with_reducible refine Below.call ?_ ?_ (by with_reducible assumption)) | (with_reducible refine Below.alloc ?_ ?_ _) | (with_reducible refine Below.drew ?_) | (with_reducible refine below_drewN ?_ _) | (with_reducible refine Below.setCell ?_ ?_ _) | (with_reducible exact Nat.le_refl _) | omega | (simp only [World.size_alloc, World.size_setCell, World.size_drew, World.heap_drewN] at *; omega)))
end Go.Proofs.YtffnmfcaoldlhaaDoor
