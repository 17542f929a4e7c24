/- The contract of disciplineWorks. -/
import Derived.Test.YtdpddidfdifbhaaWalkRead2
set_option linter.unusedVariables false
set_option linter.unusedSimpArgs false
namespace Go.Proofs.Ytdpddidfdifbhaa
open Go.RowKit
theorem madeCells3 (z : Value) (n i : Nat) (hi : i < n * 3) : (madeCells #[z, z, z] (n * 3))[i]? = some z := by
  have h : i < (madeCells #[z, z, z] (n * 3)).size := by rw [size_madeCells]; exact hi
  rw [Array.getElem?_eq_getElem h]
  congr 1
  simp only [madeCells, Array.getElem_map, Array.getElem_range]
  have : i % #[z, z, z].size = 0 ∨ i % #[z, z, z].size = 1 ∨ i % #[z, z, z].size = 2 := by simp; omega
  rcases this with h | h | h <;> rw [h] <;> rfl
theorem madeCells1 (z : Value) (n i : Nat) (hi : i < n) : (madeCells #[z] n)[i]? = some z := by
  have h : i < (madeCells #[z] n).size := by rw [size_madeCells]; exact hi
  rw [Array.getElem?_eq_getElem h]
  congr 1
  simp only [madeCells, Array.getElem_map, Array.getElem_range]
  have : i % #[z].size = 0 := by simp; omega
  rw [this]; rfl
/-- A keeper that New has made, and where it lies. -/
def NewKeep (d f : Int) (n : Nat) (w : World) (e : Ending) (w' : World) : Prop := ∃ b rb gb, e = .returned (.tuple #[.pointer (some ⟨b, 0, none⟩), .int .i64 0]) ∧ w.heap.size ≤ b ∧ w.heap.size ≤ rb ∧ w.heap.size ≤ gb ∧
  KeepAt w' b rb gb n d f 0 (fun _ => ⟨0, 0, 0⟩) (fun _ => false) ∧ Below w.heap.size w w'
theorem c_new_keep (d f : Int) (n : Nat) (w : World) (h : newOk d n f) :
    Calls Try.prog 39 #[.int .i64 d, .int .i64 n, .int .i64 f] w (NewKeep d f n w) :=
  (c_new_ok d f n w h).mono fun e w' ⟨b, rb, gb, h1, h2, h3, h4, h5, h6, h7, h8, h9, h10, h11⟩ => by
    refine ⟨b, rb, gb, h1, h2, h3, h4, ⟨⟨_, h8, rfl, ?_⟩, ⟨_, h9, size_madeCells _ _, ?_⟩, ⟨_, h10, size_madeCells _ _, ?_⟩, h5, h6, h7⟩, h11⟩
    · intro i hi
      have : i = 0 ∨ i = 1 ∨ i = 2 ∨ i = 3 ∨ i = 4 := by omega
      rcases this with rfl | rfl | rfl | rfl | rfl <;> rfl
    · intro i hi
      rw [madeCells3 _ _ _ hi]
      unfold rdF
      repeat' split
      all_goals rfl
    · intro i hi
      exact madeCells1 _ _ _ hi
def dwR (k : Nat) : Nat → Rd := fun j => if j < k then ⟨j, 10 * j, 10 * j + 15⟩ else ⟨0, 0, 0⟩
def dwH (k : Nat) : Nat → Bool := fun j => decide (j < k)
theorem dwR_succ (k : Nat) : upd (dwR k) k ⟨k, 10 * k, 10 * k + 15⟩ = dwR (k + 1) := by
  funext j; unfold upd dwR
  by_cases e : j = k
  · subst e; rw [if_pos rfl, if_pos (by omega)]
  · rw [if_neg e]
    by_cases h : j < k
    · rw [if_pos h, if_pos (by omega)]
    · rw [if_neg h, if_neg (by omega)]
theorem dwH_succ (k : Nat) : upd (dwH k) k true = dwH (k + 1) := by
  funext j; unfold upd dwH
  by_cases e : j = k
  · subst e; rw [if_pos rfl]; simp
  · rw [if_neg e]
    by_cases h : j < k
    · simp [h]; omega
    · simp [h]; omega
def dwL (k : Nat) : Int := if k = 0 then 0 else (k : Int) - 1
theorem dw_ok : KOk 3 2 (dwR 3) (dwH 3) := by
  intro k hk _
  have : k = 0 ∨ k = 1 ∨ k = 2 := by omega
  rcases this with rfl | rfl | rfl <;> decide
theorem dw_wst : wst ((kept (dwR 3) (dwH 3) 3).map (rdMv 0 2)) (heardN (dwH 3) 3 - 1) ((kept (dwR 3) (dwH 3) 3).map (rdMv 0 2)).length = (11, 26, true) := by decide +kernel
theorem dw_heard : heardN (dwH 3) 3 = 3 := by decide +kernel
set_option maxHeartbeats 1000000 in
theorem c_disciplineWorks (w : World) : Calls Try.prog 38 #[] w fun e w' => e = .returned (.bool true) ∧ Below w.heap.size w w' := by
  have hnew : newOk 0 (3 : Nat) 1 := by refine ⟨by decide, by decide, by decide, by decide, by decide⟩
  have CN := fun w0 => c_new_keep 0 1 3 w0 hnew
  simp only [Int.cast_ofNat_Int] at CN
  have hgen := sgen; have hgen2 := sgen2; have hgen3 := sgen3; go_enter Try.func38, Try.ntmps38
  go_wp2_with (go_at_call 39; (with_reducible refine (CN _).mono ?_); rintro e w1 ⟨b, rb, gb, rfl, hb1, hb2, hb3, hK, hb⟩; have hz := hb.size; (try simp only [World.size_alloc, World.size_setCell, World.size_drew, World.heap_drewN] at hz); (try have h_w_0 : w.heap.size < w1.heap.size := by omega); (try have e_w_0 : ¬ w.heap.size = w1.heap.size := by omega); (try have d_w_0 : ¬ w1.heap.size = w.heap.size := by omega); (try (refine bcUse (n := w.heap.size) hb ?_ ?_; (focus ((try simp only [World.size_alloc, World.size_setCell, World.size_drew, World.heap_drewN]); omega)); intro _ _)))
  go_loopg [16] 3 (fun gk j wr => ∃ k : Nat, gk + k = 3 ∧ j = .int .i64 k ∧ Below w.heap.size w wr ∧ KeepAt wr b rb gb 3 0 1 (dwL k) (dwR k) (dwH k))
  case atStart =>
    refine ⟨0, by omega, rfl, ?_, ?_⟩
    · (repeat' (first | (with_reducible exact Below.refl _ _) | (with_reducible assumption) | (with_reducible refine Below.call ?_ ?_ (by with_reducible assumption)) | (with_reducible refine Below.alloc ?_ ?_ _) | (with_reducible refine Below.drew ?_) | (with_reducible refine below_drewN ?_ _) | (with_reducible refine Below.setCell ?_ ?_ _) | (with_reducible exact Nat.le_refl _) | omega | (simp only [World.size_alloc, World.size_setCell, World.size_drew, World.heap_drewN] at *; omega)))
    · exact hK
  case round =>
    clear hK
    obtain ⟨k, hk, rfl, hbel, hK⟩ := hrel
    by_cases hk3 : k < 3
    · have hkz : (k : Int) < 3 := by omega
      have r1 : readErr k (10 * k) (10 * k + 15) = 0 := by
        unfold readErr timesErr spanErr
        repeat' split
        all_goals first | rfl | omega
      have z1 : IntKind.i64.wrap (10 * (k : Int)) = 10 * (k : Int) := IntWalk.i64_in _ (by omega)
      have z2 : IntKind.i64.wrap (10 * (k : Int) + 15) = 10 * (k : Int) + 15 := IntWalk.i64_in _ (by omega)
      have l1 : dwL k ≤ (k : Int) := by unfold dwL; split <;> omega
      have HR := Lib.hid r1
      have HK := Lib.hid hK
      clear hK r1
      go_wp2_with (go_at_call 41; (with_reducible refine (c_feed_ok _ _ _ _ _ _ _ _ _ k ⟨k, 10 * k, 10 * k + 15⟩ _ HK.out (by omega) hk3 HR.out l1).mono ?_); rintro e w2 ⟨rfl, hT, hK2⟩)
      have hbel2 : Below w.heap.size w w2 := Touch3.below' hbel hb1 hb2 hb3 hT
      rw [dwR_succ, dwH_succ] at hK2
      have hK3 : KeepAt w2 b rb gb 3 0 1 (dwL (k + 1)) (dwR (k + 1)) (dwH (k + 1)) := by
        have e : dwL (k + 1) = (k : Int) := by unfold dwL; rw [if_neg (by omega)]; omega
        rw [e]; exact hK2
      clear hK2 hT
      go_wp2_with fail
      go_roundg (3 - (k + 1))
      case measure => omega
      case rel => exact ⟨k + 1, by omega, by go_num, hbel2, hK3⟩
    · obtain rfl : k = 3 := by omega
      have HK := Lib.hid hK
      have hlt := hK.r0.lt
      have CR := fun w0 h0 => c_read_ok b rb gb 3 0 1 2 (dwR 3) (dwH 3) 2 11 26 0 w0 h0 (by omega) (by decide) (by decide) (by omega) (by omega) (by rw [dw_heard]; decide) dw_ok (.inr ⟨dw_wst, rfl⟩)
      have CH := fun w0 h0 => c_heardK b rb gb 3 0 1 2 (dwR 3) (dwH 3) w0 h0 (by omega)
      rw [dw_heard] at CH
      simp only [Int.cast_ofNat_Int] at CH
      clear hK
      go_wp2_with (first | (go_at_call 42; (with_reducible refine (CR _ HK.out).mono ?_); rintro e w5 ⟨rfl, hb⟩; have hz := hb.size; (try simp only [World.size_alloc, World.size_setCell, World.size_drew, World.heap_drewN] at hz); (try have h_wr_0 : wr.heap.size < w5.heap.size := by omega); (try have e_wr_0 : ¬ wr.heap.size = w5.heap.size := by omega); (try have d_wr_0 : ¬ w5.heap.size = wr.heap.size := by omega); (try (refine bcUse (n := wr.heap.size) hb ?_ ?_; (focus ((try simp only [World.size_alloc, World.size_setCell, World.size_drew, World.heap_drewN]); omega)); intro _ _)); (try have h_bb_0 : b < w5.heap.size := by omega); (try have e_bb_0 : ¬ b = w5.heap.size := by omega); (try have d_bb_0 : ¬ w5.heap.size = b := by omega); (try (refine bcUse (n := b) hb ?_ ?_; (focus ((try simp only [World.size_alloc, World.size_setCell, World.size_drew, World.heap_drewN]); omega)); intro _ _))) | (go_at_call 43; (with_reducible refine (CH _ (HK.out.below ?_)).mono ?_); (focus (first | (repeat' (first | (with_reducible exact Below.refl _ _) | (with_reducible assumption) | (with_reducible refine Below.call ?_ ?_ (by with_reducible assumption)) | (with_reducible refine Below.alloc ?_ ?_ _) | (with_reducible refine Below.drew ?_) | (with_reducible refine below_drewN ?_ _) | (with_reducible refine Below.setCell ?_ ?_ _) | (with_reducible exact Nat.le_refl _) | omega | (simp only [World.size_alloc, World.size_setCell, World.size_drew, World.heap_drewN] at *; omega))) | skip)); rintro e w6 ⟨rfl, rfl⟩))
      go_ret
      refine ⟨rfl, ?_⟩
      (repeat' (first | (with_reducible exact Below.refl _ _) | (with_reducible assumption) | (with_reducible refine Below.call ?_ ?_ (by with_reducible assumption)) | (with_reducible refine Below.alloc ?_ ?_ _) | (with_reducible refine Below.drew ?_) | (with_reducible refine below_drewN ?_ _) | (with_reducible refine Below.setCell ?_ ?_ _) | (with_reducible exact Nat.le_refl _) | omega | (simp only [World.size_alloc, World.size_setCell, World.size_drew, World.heap_drewN] at *; omega)))
end Go.Proofs.Ytdpddidfdifbhaa
