/- The walk through the law AgreeOutsides. -/
import Derived.Test.YtdpddidfdifbhaaWalkAgw
import Derived.Test.YtdpddidfdifbhaaPlainMost
set_option linter.unusedVariables false
set_option linter.unusedSimpArgs false
namespace Go.Proofs.Ytdpddidfdifbhaa
open Go.RowKit
theorem c_Outside_ok' (a : Option Addr) (cap : Nat) (l : List Sp) (w : World) (hc : l.length ≤ cap) (hs : SpSlice w a l) (he : spsErr l = 0) :
    Calls Try.prog 23 #[.slice a l.length cap] w fun e w' => ∃ a' cap', e = .returned (.tuple #[.slice a' (outs (mLo l) (mHi l) l).length cap', .int .i64 0]) ∧ IntSlice w' a' (outs (mLo l) (mHi l) l) ∧ Below w.heap.size w w' := by
  refine (c_Outside_ok a cap l w hc hs he).mono ?_
  rintro e w' ⟨hb, a', cap', he, _, hs⟩
  exact ⟨a', cap', he, hs, hb⟩
theorem walk_ao_bad (a : Option Addr) (cap : Nat) (l : List Sp) (w : World) (hc : l.length ≤ cap) (hs : SpSlice w a l) (he : spsErr l ≠ 0) :
    Calls Try.prog 5 #[.slice a l.length cap] w fun e w' => e = .returned (.bool true) ∧ Below w.heap.size w w' := by
  have h1 : (spsErr l != 0) = true := by simp [he]
  have h2 : (spsErr l == spsErr l) = true := by simp
  have hgen := sgen; have hgen2 := sgen2; have hgen3 := sgen3; go_enter Try.func5, Try.ntmps5
  go_wp2_with (first | (go_at_call 14; refine (c_agreeWorks _).mono ?_; rintro e w1 ⟨rfl, hb⟩; have hz := hb.size; (try simp only [World.size_alloc, World.size_setCell, World.size_drew, World.heap_drewN] at hz); (try have h_w_0 : w.heap.size < w1.heap.size := by omega); (try have e_w_0 : ¬ w.heap.size = w1.heap.size := by omega); (try have d_w_0 : ¬ w1.heap.size = w.heap.size := by omega); (try (refine bcUse (n := w.heap.size) hb ?_ ?_; (focus ((try simp only [World.size_alloc, World.size_setCell, World.size_drew, World.heap_drewN]); omega)); intro _ _))) | (go_at_call 23; refine (c_Outside_bad _ _ l _ hc (hs.below (Nat.le_refl _) (by (repeat' (first | (with_reducible exact Below.refl _ _) | (with_reducible assumption) | (with_reducible refine Below.call ?_ ?_ (by with_reducible assumption)) | (with_reducible refine Below.alloc ?_ ?_ _) | (with_reducible refine Below.drew ?_) | (with_reducible refine below_drewN ?_ _) | (with_reducible refine Below.setCell ?_ ?_ _) | (with_reducible exact Nat.le_refl _) | omega | (simp only [World.size_alloc, World.size_setCell, World.size_drew, World.heap_drewN] at *; omega))))) he).mono ?_; rintro e w2 ⟨rfl, hb⟩; have hz := hb.size; (try simp only [World.size_alloc, World.size_setCell, World.size_drew, World.heap_drewN] at hz); (try have h_w_0 : w.heap.size < w2.heap.size := by omega); (try have e_w_0 : ¬ w.heap.size = w2.heap.size := by omega); (try have d_w_0 : ¬ w2.heap.size = w.heap.size := by omega); (try (refine bcUse (n := w.heap.size) hb ?_ ?_; (focus ((try simp only [World.size_alloc, World.size_setCell, World.size_drew, World.heap_drewN]); omega)); intro _ _)); (try have h_w1_0 : w1.heap.size < w2.heap.size := by omega); (try have e_w1_0 : ¬ w1.heap.size = w2.heap.size := by omega); (try have d_w1_0 : ¬ w2.heap.size = w1.heap.size := by omega); (try (refine bcUse (n := w1.heap.size) hb ?_ ?_; (focus ((try simp only [World.size_alloc, World.size_setCell, World.size_drew, World.heap_drewN]); omega)); intro _ _))) | (go_at_call 15; refine (c_Most_bad _ _ l _ hc (hs.below (Nat.le_refl _) (by (repeat' (first | (with_reducible exact Below.refl _ _) | (with_reducible assumption) | (with_reducible refine Below.call ?_ ?_ (by with_reducible assumption)) | (with_reducible refine Below.alloc ?_ ?_ _) | (with_reducible refine Below.drew ?_) | (with_reducible refine below_drewN ?_ _) | (with_reducible refine Below.setCell ?_ ?_ _) | (with_reducible exact Nat.le_refl _) | omega | (simp only [World.size_alloc, World.size_setCell, World.size_drew, World.heap_drewN] at *; omega))))) he).mono ?_; rintro e w3 ⟨rfl, hb⟩; have hz := hb.size; (try simp only [World.size_alloc, World.size_setCell, World.size_drew, World.heap_drewN] at hz); (try have h_w_0 : w.heap.size < w3.heap.size := by omega); (try have e_w_0 : ¬ w.heap.size = w3.heap.size := by omega); (try have d_w_0 : ¬ w3.heap.size = w.heap.size := by omega); (try (refine bcUse (n := w.heap.size) hb ?_ ?_; (focus ((try simp only [World.size_alloc, World.size_setCell, World.size_drew, World.heap_drewN]); omega)); intro _ _)); (try have h_w1_0 : w1.heap.size < w3.heap.size := by omega); (try have e_w1_0 : ¬ w1.heap.size = w3.heap.size := by omega); (try have d_w1_0 : ¬ w3.heap.size = w1.heap.size := by omega); (try (refine bcUse (n := w1.heap.size) hb ?_ ?_; (focus ((try simp only [World.size_alloc, World.size_setCell, World.size_drew, World.heap_drewN]); omega)); intro _ _)); (try have h_w2_0 : w2.heap.size < w3.heap.size := by omega); (try have e_w2_0 : ¬ w2.heap.size = w3.heap.size := by omega); (try have d_w2_0 : ¬ w3.heap.size = w2.heap.size := by omega); (try (refine bcUse (n := w2.heap.size) hb ?_ ?_; (focus ((try simp only [World.size_alloc, World.size_setCell, World.size_drew, World.heap_drewN]); omega)); intro _ _))))
  go_ret
  refine ⟨rfl, ?_⟩
  (repeat' (first | (with_reducible exact Below.refl _ _) | (with_reducible assumption) | (with_reducible refine Below.call ?_ ?_ (by with_reducible assumption)) | (with_reducible refine Below.alloc ?_ ?_ _) | (with_reducible refine Below.drew ?_) | (with_reducible refine below_drewN ?_ _) | (with_reducible refine Below.setCell ?_ ?_ _) | (with_reducible exact Nat.le_refl _) | omega | (simp only [World.size_alloc, World.size_setCell, World.size_drew, World.heap_drewN] at *; omega)))
set_option maxRecDepth 100000 in
set_option maxHeartbeats 2000000 in
theorem walk_ao_in (a : Option Addr) (cap : Nat) (l : List Sp) (w : World) (hc : l.length ≤ cap) (hs : SpSlice w a l) (he : spsErr l = 0) :
    Calls Try.prog 5 #[.slice a l.length cap] w fun e w' => e = .returned (.bool true) ∧ Below w.heap.size w w' := by
  have hv := spsOk_of he
  have h40 := hv.len
  have h2 : (l.length : Int) ≤ 40 := by omega
  have hO := fun w1 hs1 => c_Outside_ok' a cap l w1 hc hs1 he
  have hM := fun w1 hs1 => c_Most_ok a cap l w1 hc hs1 he
  have hmle := (most_ok hv).le
  obtain ⟨lo, hlo⟩ : ∃ lo, mLo l = lo := ⟨_, rfl⟩
  obtain ⟨hi, hhi⟩ : ∃ hi, mHi l = hi := ⟨_, rfl⟩
  obtain ⟨mk, hmk⟩ : ∃ mk, mK l = mk := ⟨_, rfl⟩
  rw [hlo, hhi, hmk] at hM
  rw [hlo, hhi] at hO hmle
  have HO := Lib.hid hO
  have HM := Lib.hid hM
  clear hlo hhi hmk hO hM he
  have hlen := outs_lek lo hi l l.length
  rw [List.take_of_length_le (Nat.le_refl _)] at hlen
  obtain ⟨os, hos⟩ : ∃ os, outs lo hi l = os := ⟨_, rfl⟩
  rw [hos] at HO hlen
  have HOS := Lib.hid hos
  clear hos
  have hgen := sgen; have hgen2 := sgen2; have hgen3 := sgen3; go_enter Try.func5, Try.ntmps5
  go_wp2_with (first | (go_at_call 14; refine (c_agreeWorks _).mono ?_; rintro e w1 ⟨rfl, hb⟩; have hz := hb.size; (try simp only [World.size_alloc, World.size_setCell, World.size_drew, World.heap_drewN] at hz); (try have h_w_0 : w.heap.size < w1.heap.size := by omega); (try have e_w_0 : ¬ w.heap.size = w1.heap.size := by omega); (try have d_w_0 : ¬ w1.heap.size = w.heap.size := by omega); (try (refine bcUse (n := w.heap.size) hb ?_ ?_; (focus ((try simp only [World.size_alloc, World.size_setCell, World.size_drew, World.heap_drewN]); omega)); intro _ _))) | (go_at_call 23; refine (HO.out _ (hs.below (Nat.le_refl _) (by (repeat' (first | (with_reducible exact Below.refl _ _) | (with_reducible assumption) | (with_reducible refine Below.call ?_ ?_ (by with_reducible assumption)) | (with_reducible refine Below.alloc ?_ ?_ _) | (with_reducible refine Below.drew ?_) | (with_reducible refine below_drewN ?_ _) | (with_reducible refine Below.setCell ?_ ?_ _) | (with_reducible exact Nat.le_refl _) | omega | (simp only [World.size_alloc, World.size_setCell, World.size_drew, World.heap_drewN] at *; omega)))))).mono ?_; rintro e w2 ⟨a', cap', rfl, hos2, hb⟩; have hz := hb.size; (try simp only [World.size_alloc, World.size_setCell, World.size_drew, World.heap_drewN] at hz); (try have h_w_0 : w.heap.size < w2.heap.size := by omega); (try have e_w_0 : ¬ w.heap.size = w2.heap.size := by omega); (try have d_w_0 : ¬ w2.heap.size = w.heap.size := by omega); (try (refine bcUse (n := w.heap.size) hb ?_ ?_; (focus ((try simp only [World.size_alloc, World.size_setCell, World.size_drew, World.heap_drewN]); omega)); intro _ _)); (try have h_w1_0 : w1.heap.size < w2.heap.size := by omega); (try have e_w1_0 : ¬ w1.heap.size = w2.heap.size := by omega); (try have d_w1_0 : ¬ w2.heap.size = w1.heap.size := by omega); (try (refine bcUse (n := w1.heap.size) hb ?_ ?_; (focus ((try simp only [World.size_alloc, World.size_setCell, World.size_drew, World.heap_drewN]); omega)); intro _ _))) | (go_at_call 15; refine (HM.out _ (hs.below (Nat.le_refl _) (by (repeat' (first | (with_reducible exact Below.refl _ _) | (with_reducible assumption) | (with_reducible refine Below.call ?_ ?_ (by with_reducible assumption)) | (with_reducible refine Below.alloc ?_ ?_ _) | (with_reducible refine Below.drew ?_) | (with_reducible refine below_drewN ?_ _) | (with_reducible refine Below.setCell ?_ ?_ _) | (with_reducible exact Nat.le_refl _) | omega | (simp only [World.size_alloc, World.size_setCell, World.size_drew, World.heap_drewN] at *; omega)))))).mono ?_; rintro e w3 ⟨rfl, hb⟩; have hz := hb.size; (try simp only [World.size_alloc, World.size_setCell, World.size_drew, World.heap_drewN] at hz); (try have h_w_0 : w.heap.size < w3.heap.size := by omega); (try have e_w_0 : ¬ w.heap.size = w3.heap.size := by omega); (try have d_w_0 : ¬ w3.heap.size = w.heap.size := by omega); (try (refine bcUse (n := w.heap.size) hb ?_ ?_; (focus ((try simp only [World.size_alloc, World.size_setCell, World.size_drew, World.heap_drewN]); omega)); intro _ _)); (try have h_w1_0 : w1.heap.size < w3.heap.size := by omega); (try have e_w1_0 : ¬ w1.heap.size = w3.heap.size := by omega); (try have d_w1_0 : ¬ w3.heap.size = w1.heap.size := by omega); (try (refine bcUse (n := w1.heap.size) hb ?_ ?_; (focus ((try simp only [World.size_alloc, World.size_setCell, World.size_drew, World.heap_drewN]); omega)); intro _ _)); (try have h_w2_0 : w2.heap.size < w3.heap.size := by omega); (try have e_w2_0 : ¬ w2.heap.size = w3.heap.size := by omega); (try have d_w2_0 : ¬ w3.heap.size = w2.heap.size := by omega); (try (refine bcUse (n := w2.heap.size) hb ?_ ?_; (focus ((try simp only [World.size_alloc, World.size_setCell, World.size_drew, World.heap_drewN]); omega)); intro _ _))))
  have hbw3 : Below w.heap.size w w3 := by (repeat' (first | (with_reducible exact Below.refl _ _) | (with_reducible assumption) | (with_reducible refine Below.call ?_ ?_ (by with_reducible assumption)) | (with_reducible refine Below.alloc ?_ ?_ _) | (with_reducible refine Below.drew ?_) | (with_reducible refine below_drewN ?_ _) | (with_reducible refine Below.setCell ?_ ?_ _) | (with_reducible exact Nat.le_refl _) | omega | (simp only [World.size_alloc, World.size_setCell, World.size_drew, World.heap_drewN] at *; omega)))
  have hz3 := hbw3.size
  have hos3 : IntSlice w3 a' os := hos2.below (Nat.le_refl _) (by (repeat' (first | (with_reducible exact Below.refl _ _) | (with_reducible assumption) | (with_reducible refine Below.call ?_ ?_ (by with_reducible assumption)) | (with_reducible refine Below.alloc ?_ ?_ _) | (with_reducible refine Below.drew ?_) | (with_reducible refine below_drewN ?_ _) | (with_reducible refine Below.setCell ?_ ?_ _) | (with_reducible exact Nat.le_refl _) | omega | (simp only [World.size_alloc, World.size_setCell, World.size_drew, World.heap_drewN] at *; omega))))
  clear hos2
  go_loopg [8, 36] l.length (fun gk x8 i wr => ∃ k : Nat, gk + k = l.length ∧ i = .int .i64 k ∧ x8 = .int .i64 ((outs lo hi (l.take k)).length : Nat) ∧ Below w.heap.size w wr ∧ SpAt wr w3.heap.size lo hi ∧ IntSlice wr a' os)
  case atStart =>
    refine ⟨0, by omega, rfl, rfl, ?_, ?_, ?_⟩
    · (repeat' (first | (with_reducible exact Below.refl _ _) | (with_reducible assumption) | (with_reducible refine Below.call ?_ ?_ (by with_reducible assumption)) | (with_reducible refine Below.alloc ?_ ?_ _) | (with_reducible refine Below.drew ?_) | (with_reducible refine below_drewN ?_ _) | (with_reducible refine Below.setCell ?_ ?_ _) | (with_reducible exact Nat.le_refl _) | omega | (simp only [World.size_alloc, World.size_setCell, World.size_drew, World.heap_drewN] at *; omega)))
    · constructor <;> go_simp
    · exact hos3.below (Nat.le_refl _) ((Below.refl _ _).alloc (Nat.le_refl _) _)
  case round =>
    clear hos3
    obtain ⟨k, hk, rfl, rfl, hbel, hB, hI⟩ := hrel
    by_cases hlt : k < l.length
    · obtain ⟨b, off, ha, hb1, c0, c1⟩ := (hs.below (Nat.le_refl _) hbel) k hlt
      have ix1 := @ix_Sp a b off l.length cap k ha hlt
      have hsz := hbel.size
      have hsn := outs_snoc lo hi l k hlt
      have hle := outs_lek lo hi l k
      have hup := hv.up k hlt
      have hat := outs_at lo hi l k hlt
      clear ha
      generalize l[k] = y at *
      have HN := Lib.hid hsn
      have HB := Lib.hid hB
      have HI := Lib.hid hI
      have HA := Lib.hid hat
      obtain ⟨e0, e1, e2, e3, e4⟩ := hB
      clear hsn hI hat
      have d1 : (y.lo < lo ∧ y.lo ≤ lo) ∨ (lo ≤ y.lo ∧ lo ≤ y.lo) := by omega
      have d2 : (y.hi ≤ hi ∧ y.hi ≤ hi) ∨ (hi < y.hi ∧ hi ≤ y.hi) := by omega
      cases ho : outB lo hi y with
      | true =>
        have ho' : y.hi < lo ∨ hi < y.lo := by simpa [outB] using ho
        obtain ⟨q1, q2⟩ := HA.out ho
        have HD := Lib.hid (show (outs lo hi (l.take (k + 1))).length = (outs lo hi (l.take k)).length + 1 by rw [HN.out, if_pos ho]; simp)
        generalize (outs lo hi (l.take k)).length = q at *
        have q1' : q < os.length := by rw [← HOS.out]; exact q1
        obtain ⟨b2, off2, ha2, hb2, v0⟩ := HI.out q q1'
        have hqk : os[q] = (k : Int) := by
          have h3 : os[q]? = some (k : Int) := by rw [← HOS.out, List.getElem?_eq_getElem q1, q2]
          rw [List.getElem?_eq_getElem q1'] at h3
          simpa using h3
        rw [hqk] at v0
        have ix2 := @ix_Int a' b2 off2 os.length cap' q ha2 q1'
        clear q1 q2 hqk ha2 ho HA
        have q3 : (os.length : Int) ≤ 40 := by omega
        rcases d1 with ⟨d1, d1'⟩ | ⟨d1, d1'⟩ <;> rcases d2 with ⟨d2, d2'⟩ | ⟨d2, d2'⟩ <;> rcases ho' with ho' | ho'
        all_goals first
          | (exfalso; omega)
          | skip
        all_goals
          go_wp2
          go_roundg (l.length - (k + 1))
          case measure => omega
          case rel =>
            refine ⟨k + 1, by omega, by go_num, ?_, ?_, ?_, ?_⟩
            · rw [HD.out]; go_num
            · (repeat' (first | (with_reducible exact Below.refl _ _) | (with_reducible assumption) | (with_reducible refine Below.call ?_ ?_ (by with_reducible assumption)) | (with_reducible refine Below.alloc ?_ ?_ _) | (with_reducible refine Below.drew ?_) | (with_reducible refine below_drewN ?_ _) | (with_reducible refine Below.setCell ?_ ?_ _) | (with_reducible exact Nat.le_refl _) | omega | (simp only [World.size_alloc, World.size_setCell, World.size_drew, World.heap_drewN] at *; omega)))
            · exact HB.out.below ((Below.refl _ _).alloc (Nat.le_refl _) _)
            · exact HI.out.below (Nat.le_refl _) ((Below.refl _ _).alloc (Nat.le_refl _) _)
      | false =>
        have ho' : lo ≤ y.hi ∧ y.lo ≤ hi := by simpa [outB] using ho
        obtain ⟨o1, o2⟩ := ho'
        have HD := Lib.hid (show (outs lo hi (l.take (k + 1))).length = (outs lo hi (l.take k)).length by rw [HN.out, ho]; simp)
        generalize (outs lo hi (l.take k)).length = q at *
        clear ho HA
        rcases d1 with ⟨d1, d1'⟩ | ⟨d1, d1'⟩ <;> rcases d2 with ⟨d2, d2'⟩ | ⟨d2, d2'⟩
        all_goals
          go_wp2
          go_roundg (l.length - (k + 1))
          case measure => omega
          case rel =>
            refine ⟨k + 1, by omega, by go_num, ?_, ?_, ?_, ?_⟩
            · rw [HD.out]
            · (repeat' (first | (with_reducible exact Below.refl _ _) | (with_reducible assumption) | (with_reducible refine Below.call ?_ ?_ (by with_reducible assumption)) | (with_reducible refine Below.alloc ?_ ?_ _) | (with_reducible refine Below.drew ?_) | (with_reducible refine below_drewN ?_ _) | (with_reducible refine Below.setCell ?_ ?_ _) | (with_reducible exact Nat.le_refl _) | omega | (simp only [World.size_alloc, World.size_setCell, World.size_drew, World.heap_drewN] at *; omega)))
            · exact HB.out.below ((Below.refl _ _).alloc (Nat.le_refl _) _)
            · exact HI.out.below (Nat.le_refl _) ((Below.refl _ _).alloc (Nat.le_refl _) _)
    · have hkl : k = l.length := by omega
      rw [hkl, List.take_of_length_le (Nat.le_refl _), HOS.out]
      have hf : (os.length == os.length) = true := by simp
      have hf' : ((os.length : Int) == (os.length : Int)) = true := by simp
      clear hkl
      go_wp2
      go_ret
      refine ⟨by first | rfl | exact ret_bool (by simp), ?_⟩
      (repeat' (first | (with_reducible exact Below.refl _ _) | (with_reducible assumption) | (with_reducible refine Below.call ?_ ?_ (by with_reducible assumption)) | (with_reducible refine Below.alloc ?_ ?_ _) | (with_reducible refine Below.drew ?_) | (with_reducible refine below_drewN ?_ _) | (with_reducible refine Below.setCell ?_ ?_ _) | (with_reducible exact Nat.le_refl _) | omega | (simp only [World.size_alloc, World.size_setCell, World.size_drew, World.heap_drewN] at *; omega)))
theorem walk_ao_any (a : Option Addr) (len cap : Nat) (l : List Sp) (w : World) (hlen : l.length = len) (hc : len ≤ cap) (hs : SpSlice w a l) :
    Calls Try.prog 5 #[.slice a len cap] w fun e w' => e = .returned (.bool true) ∧ Below w.heap.size w w' := by
  subst hlen
  by_cases he : spsErr l = 0
  · exact walk_ao_in a cap l w hc hs he
  · exact walk_ao_bad a cap l w hc hs he
end Go.Proofs.Ytdpddidfdifbhaa
