/- The contract of interval.Div by a negative interval. -/
import Derived.Test.YtpgoahbmeedghaaWalkIv3
import Derived.BigRegion
import Derived.Deep.DeepCutAuto
set_option linter.unusedVariables false
set_option linter.unusedSimpArgs false
namespace Go.Proofs.Ytpgoahbmeedghaa
open Go.RowKit
set_option maxRecDepth 100000 in
set_option maxHeartbeats 2000000 in
theorem c_Div_neg (al ah bl bh : Int) (w : World) (he : twoErr al ah bl bh = 0) (h1 : bh < 0) : Calls Try.prog 21 #[.agg #[.int .i64 al, .int .i64 ah], .agg #[.int .i64 bl, .int .i64 bh]] w fun e w' => e = .returned (.tuple #[.agg #[.int .i64 (dLo (-ah) (-bh) (-bl)), .int .i64 (dHi (-al) (-bh) (-bl))], .int .i64 0]) ∧ Below w.heap.size w w' := by
  obtain ⟨ha, hb⟩ := twoErr_zero he
  obtain ⟨a1, a2, a3⟩ := spanErr_zero ha
  obtain ⟨b1, b2, b3⟩ := spanErr_zero hb
  have HB := Lib.hid (fun w1 => c_both al ah bl bh w1)
  rw [he] at HB
  have HL := Lib.hid (show dLo (-ah) (-bh) (-bl) = if 0 ≤ -ah then ratLo (-ah) 1 (-bl) else ratLo (-ah) 1 (-bh) from rfl)
  have HH := Lib.hid (show dHi (-al) (-bh) (-bl) = if -al < 0 then ratHi (-al) 1 (-bl) else ratHi (-al) 1 (-bh) from rfl)
  clear ha hb he
  have hgen := sgen; have hgen2 := sgen2; have hgen3 := sgen3; go_enter Try.func21, Try.ntmps21
  go_upto_region 7 with (go_at_call 36; (refine (HB.out _).mono ?_); rintro e w1 ⟨rfl, hb⟩; have hz := hb.size; (try simp only [World.size_alloc, World.size_setCell, World.size_drew, World.heap_drewN] at hz); (try have h_w_0 : w.heap.size < w1.heap.size := by omega); (try have e_w_0 : ¬ w.heap.size = w1.heap.size := by omega); (try have d_w_0 : ¬ w1.heap.size = w.heap.size := by omega); (try (refine bcUse (n := w.heap.size) hb ?_ ?_; (focus ((try simp only [World.size_alloc, World.size_setCell, World.size_drew, World.heap_drewN]); omega)); intro _ _)); (try have h_w_1 : w.heap.size + 1 < w1.heap.size := by omega); (try have e_w_1 : ¬ w.heap.size + 1 = w1.heap.size := by omega); (try have d_w_1 : ¬ w1.heap.size = w.heap.size + 1 := by omega); (try (refine bcUse (n := w.heap.size + 1) hb ?_ ?_; (focus ((try simp only [World.size_alloc, World.size_setCell, World.size_drew, World.heap_drewN]); omega)); intro _ _)); (try have h_w_2 : w.heap.size + 2 < w1.heap.size := by omega); (try have e_w_2 : ¬ w.heap.size + 2 = w1.heap.size := by omega); (try have d_w_2 : ¬ w1.heap.size = w.heap.size + 2 := by omega); (try (refine bcUse (n := w.heap.size + 2) hb ?_ ?_; (focus ((try simp only [World.size_alloc, World.size_setCell, World.size_drew, World.heap_drewN]); omega)); intro _ _)))
  have hbw1 : Below w.heap.size w w1 := by (repeat' (first | (with_reducible exact Below.refl _ _) | (with_reducible assumption) | (with_reducible refine Below.call ?_ ?_ (by with_reducible assumption)) | (with_reducible refine Below.alloc ?_ ?_ _) | (with_reducible refine Below.drew ?_) | (with_reducible refine below_drewN ?_ _) | (with_reducible refine Below.setCell ?_ ?_ _) | (with_reducible exact Nat.le_refl _) | omega | (simp only [World.size_alloc, World.size_setCell, World.size_drew, World.heap_drewN] at *; omega)))
  have hz1 := hbw1.size
  have SA : SpAt w1 w.heap.size al ah := by constructor <;> go_simp
  have SB : SpAt w1 (w.heap.size + 1) bl bh := by constructor <;> go_simp
  have SC : SpAt w1 (w.heap.size + 1 + 1) 0 0 := by constructor <;> go_simp
  go_cut [43] (fun x43 wc => Below w.heap.size w wc ∧ SpAt wc w.heap.size (-ah) (-al) ∧ SpAt wc (w.heap.size + 1) (-bh) (-bl) ∧ SpAt wc (w.heap.size + 1 + 1) 0 0)
  case first =>
    have SA' := SA
    have SB' := SB
    have SC' := SC
    obtain ⟨p0, p1, p2, p3, p4⟩ := SA
    obtain ⟨q0, q1, q2, q3, q4⟩ := SB
    obtain ⟨s0, s1, s2, s3, s4⟩ := SC
    have ew1 : IntKind.i64.wrap (-al) = -al := IntWalk.i64_in _ (by omega)
    have ew2 : IntKind.i64.wrap (-ah) = -ah := IntWalk.i64_in _ (by omega)
    have ew3 : IntKind.i64.wrap (-bl) = -bl := IntWalk.i64_in _ (by omega)
    have ew4 : IntKind.i64.wrap (-bh) = -bh := IntWalk.i64_in _ (by omega)
    go_wp2_with fail
    go_big_region
    go_wp2_with fail
    go_meet
    refine ⟨?_, ?_, ?_, ?_⟩
    · (repeat' (first | (with_reducible exact Below.refl _ _) | (with_reducible assumption) | (with_reducible refine Below.call ?_ ?_ (by with_reducible assumption)) | (with_reducible refine Below.alloc ?_ ?_ _) | (with_reducible refine Below.drew ?_) | (with_reducible refine below_drewN ?_ _) | (with_reducible refine Below.setCell ?_ ?_ _) | (with_reducible exact Nat.le_refl _) | omega | (simp only [World.size_alloc, World.size_setCell, World.size_drew, World.heap_drewN] at *; omega)))
    · exact (((SA'.set _ _).setOther (c := w.heap.size + 1) (by omega) _ _)).below (Below.drew (Below.refl _ _))
    · exact (((SB'.setOther (c := w.heap.size) (by omega) _ _).set _ _)).below (Below.drew (Below.refl _ _))
    · exact (((SC'.setOther (c := w.heap.size) (by omega) _ _).setOther (c := w.heap.size + 1) (by omega) _ _)).below (Below.drew (Below.refl _ _))
  case rest =>
    obtain ⟨hbel, TA, TB, TC⟩ := hcut
    have hz2 := hbel.size
    have hlt := TC.lt
    obtain ⟨p0, p1, p2, p3, p4⟩ := TA
    obtain ⟨q0, q1, q2, q3, q4⟩ := TB
    obtain ⟨s0, s1, s2, s3, s4⟩ := TC
    clear SA SB SC
    by_cases c1 : 0 ≤ -ah <;> by_cases c2 : -al < 0
    · exfalso; omega
    · have HLv := Lib.hid (show dLo (-ah) (-bh) (-bl) = ratLo (-ah) 1 (-bl) by rw [HL.out, if_pos c1])
      have HHv := Lib.hid (show dHi (-al) (-bh) (-bl) = ratHi (-al) 1 (-bh) by rw [HH.out, if_neg c2])
      go_wp2_with (go_at_call 41; refine (c_ratioU _ _ _ (by omega) (by omega) (by omega) (by omega)).mono ?_; rintro e w' ⟨rfl, nn, rfl⟩)
      refine bodyPost_ret (v := .tuple #[.agg #[.int .i64 (ratLo (-ah) 1 (-bl)), .int .i64 (ratHi (-al) 1 (-bh))], .int .i64 0]) (by simp only [results, Try.results21]; go_simp) rfl ⟨ret_agg2 HLv.out.symm HHv.out.symm, ?_⟩
      (repeat' (first | (with_reducible exact Below.refl _ _) | (with_reducible assumption) | (with_reducible refine Below.call ?_ ?_ (by with_reducible assumption)) | (with_reducible refine Below.alloc ?_ ?_ _) | (with_reducible refine Below.drew ?_) | (with_reducible refine below_drewN ?_ _) | (with_reducible refine Below.setCell ?_ ?_ _) | (with_reducible exact Nat.le_refl _) | omega | (simp only [World.size_alloc, World.size_setCell, World.size_drew, World.heap_drewN] at *; omega)))
    · have HLv := Lib.hid (show dLo (-ah) (-bh) (-bl) = ratLo (-ah) 1 (-bh) by rw [HL.out, if_neg c1])
      have HHv := Lib.hid (show dHi (-al) (-bh) (-bl) = ratHi (-al) 1 (-bl) by rw [HH.out, if_pos c2])
      go_wp2_with (go_at_call 41; refine (c_ratioU _ _ _ (by omega) (by omega) (by omega) (by omega)).mono ?_; rintro e w' ⟨rfl, nn, rfl⟩)
      refine bodyPost_ret (v := .tuple #[.agg #[.int .i64 (ratLo (-ah) 1 (-bh)), .int .i64 (ratHi (-al) 1 (-bl))], .int .i64 0]) (by simp only [results, Try.results21]; go_simp) rfl ⟨ret_agg2 HLv.out.symm HHv.out.symm, ?_⟩
      (repeat' (first | (with_reducible exact Below.refl _ _) | (with_reducible assumption) | (with_reducible refine Below.call ?_ ?_ (by with_reducible assumption)) | (with_reducible refine Below.alloc ?_ ?_ _) | (with_reducible refine Below.drew ?_) | (with_reducible refine below_drewN ?_ _) | (with_reducible refine Below.setCell ?_ ?_ _) | (with_reducible exact Nat.le_refl _) | omega | (simp only [World.size_alloc, World.size_setCell, World.size_drew, World.heap_drewN] at *; omega)))
    · have HLv := Lib.hid (show dLo (-ah) (-bh) (-bl) = ratLo (-ah) 1 (-bh) by rw [HL.out, if_neg c1])
      have HHv := Lib.hid (show dHi (-al) (-bh) (-bl) = ratHi (-al) 1 (-bh) by rw [HH.out, if_neg c2])
      go_wp2_with (go_at_call 41; refine (c_ratioU _ _ _ (by omega) (by omega) (by omega) (by omega)).mono ?_; rintro e w' ⟨rfl, nn, rfl⟩)
      refine bodyPost_ret (v := .tuple #[.agg #[.int .i64 (ratLo (-ah) 1 (-bh)), .int .i64 (ratHi (-al) 1 (-bh))], .int .i64 0]) (by simp only [results, Try.results21]; go_simp) rfl ⟨ret_agg2 HLv.out.symm HHv.out.symm, ?_⟩
      (repeat' (first | (with_reducible exact Below.refl _ _) | (with_reducible assumption) | (with_reducible refine Below.call ?_ ?_ (by with_reducible assumption)) | (with_reducible refine Below.alloc ?_ ?_ _) | (with_reducible refine Below.drew ?_) | (with_reducible refine below_drewN ?_ _) | (with_reducible refine Below.setCell ?_ ?_ _) | (with_reducible exact Nat.le_refl _) | omega | (simp only [World.size_alloc, World.size_setCell, World.size_drew, World.heap_drewN] at *; omega)))
end Go.Proofs.Ytpgoahbmeedghaa
