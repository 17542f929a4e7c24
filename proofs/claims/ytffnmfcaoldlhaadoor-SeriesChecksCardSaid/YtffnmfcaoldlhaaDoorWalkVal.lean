/- The contract of series.value. -/
import Derived.Test.YtffnmfcaoldlhaaDoorWalkPart
import Derived.Test.YtffnmfcaoldlhaaDoorWalkSpA
import Derived.Test.YtffnmfcaoldlhaaDoorPlainVal
set_option linter.unusedVariables false
set_option linter.unusedSimpArgs false
namespace Go.Proofs.YtffnmfcaoldlhaaDoor
open Go.RowKit
theorem c_value_nil (m r s inst : Int) (a : Option Addr) (cap : Nat) (w : World) (m1 : -1000000000 ≤ m) (m2 : m ≤ 1000000000) (s1 : 0 ≤ s) (s2 : s ≤ 100000000) :
    Calls Tryd.prog 74 #[sumV m r a 0 cap s, .int .i64 inst] w fun e w' => e = .returned (.agg #[.int .i64 (m - s), .int .i64 (m + s)]) ∧ Below w.heap.size w w' := by
  have hgen := sgen; have hgen2 := sgen2; have hgen3 := sgen3; go_enter Tryd.func74, Tryd.ntmps74
  go_wp2
  refine bodyPost_ret (v := .agg #[.int .i64 (m - s), .int .i64 (m + s)]) (by simp only [results, Tryd.results74]; go_simp) rfl ⟨rfl, ?_⟩
  (repeat' (first | (with_reducible exact Below.refl _ _) | (with_reducible assumption) | (with_reducible refine Below.call ?_ ?_ (by with_reducible assumption)) | (with_reducible refine Below.alloc ?_ ?_ _) | (with_reducible refine Below.drew ?_) | (with_reducible refine below_drewN ?_ _) | (with_reducible refine Below.setCell ?_ ?_ _) | (with_reducible exact Nat.le_refl _) | omega | (simp only [World.size_alloc, World.size_setCell, World.size_drew, World.heap_drewN] at *; omega)))
set_option maxHeartbeats 4000000 in
theorem c_value_some (m r s inst : Int) (a : Option Addr) (cap : Nat) (l : List Tm) (w : World) (hT : Tab w) (hc : l.length ≤ cap) (hs : TmSlice w a l) (hv : SumOk m r l s) (h0 : 0 < l.length) (i1 : -400000000000000 ≤ inst) (i2 : inst ≤ 400000000000000) :
    Calls Tryd.prog 74 #[sumV m r a l.length cap s, .int .i64 inst] w fun e w' => e = .returned (.agg #[.int .i64 (m + arLo (vAt l inst l.length) - s), .int .i64 (m + arHi (vAt l inst l.length) + s)]) ∧ Below w.heap.size w w' := by
  have h40 := hv.len
  have h2 : (l.length : Int) ≤ 40 := by omega
  have s1 := hv.s1
  have s2 := hv.s2
  have m1 := hv.m1
  have m2 := hv.m2
  have HV := Lib.hid (fun k hk => (val_run (inst := inst) h40 hv.tm k hk).2.2.2)
  obtain ⟨f1, f2, X1, X2, p10, p11, p12, p13, p14, p15, p16, p17, p18, p19, -⟩ := val_around (inst := inst) h40 hv.tm
  have HA := Lib.hid (fun w1 => c_Around p10 p11 p12 p13 p14 p15 (by omega) (by omega) (by omega) (by omega) w1)
  generalize arLo (vAt l inst l.length) = lo at *
  generalize arHi (vAt l inst l.length) = hi at *
  have HP := Lib.hid hv.tm
  have HT := Lib.hid hT
  have HSL := Lib.hid hs
  clear hv p10 p11 p12 p13 p14 p15 hT hs
  have hgen := sgen; have hgen2 := sgen2; have hgen3 := sgen3; go_enter Tryd.func74, Tryd.ntmps74
  go_wp2_with fail
  go_loopg [6, 22] l.length (fun gk x6 i wr => ∃ k : Nat, gk + k = l.length ∧ i = .int .i64 k ∧ x6 = .float .f64 (vAt l inst k) ∧ Below w.heap.size w wr ∧ SumAt wr w.heap.size m r a l.length cap s ∧ SpAt wr (w.heap.size + 1) 0 0 ∧ SpAt wr (w.heap.size + 1 + 1) m m)
  case atStart =>
    refine ⟨0, by omega, rfl, rfl, ?_, ?_, ?_, ?_⟩
    · (repeat' (first | (with_reducible exact Below.refl _ _) | (with_reducible assumption) | (with_reducible refine Below.call ?_ ?_ (by with_reducible assumption)) | (with_reducible refine Below.alloc ?_ ?_ _) | (with_reducible refine Below.drew ?_) | (with_reducible refine below_drewN ?_ _) | (with_reducible refine Below.setCell ?_ ?_ _) | (with_reducible exact Nat.le_refl _) | omega | (simp only [World.size_alloc, World.size_setCell, World.size_drew, World.heap_drewN] at *; omega)))
    · constructor <;> go_simp
    · constructor <;> go_simp
    · constructor <;> go_simp
  case round =>
    obtain ⟨k, hk, rfl, rfl, hbel, hB, hR, hO⟩ := hrel
    have hsz := hbel.size
    have lB := hB.lt
    have lR := hR.lt
    have lO := hO.lt
    by_cases hlt : k < l.length
    · obtain ⟨b, off, ha, hb1, c0, c1, c2⟩ := (HSL.out.below (Nat.le_refl _) hbel) k hlt
      have ix1 := @ix_Tm a b off l.length cap k ha hlt
      have hp := HP.out l[k] (List.getElem_mem hlt)
      have hadd1 := hadd (HV.out k (by omega) hlt)
      have HC := Lib.hid (fun w1 (h : Tab w1) => c_sPart l[k] inst w1 h hp i1 i2)
      have HB := Lib.hid hB
      have HR := Lib.hid hR
      have HO := Lib.hid hO
      clear ha hp hB hR hO
      generalize l[k] = x at *
      generalize partW x inst = pw at *
      go_wp2_with (go_at_call 99; (refine (HC.out _ (HT.out.below (by (repeat' (first | (with_reducible exact Below.refl _ _) | (with_reducible assumption) | (with_reducible refine Below.call ?_ ?_ (by with_reducible assumption)) | (with_reducible refine Below.alloc ?_ ?_ _) | (with_reducible refine Below.drew ?_) | (with_reducible refine below_drewN ?_ _) | (with_reducible refine Below.setCell ?_ ?_ _) | (with_reducible exact Nat.le_refl _) | omega | (simp only [World.size_alloc, World.size_setCell, World.size_drew, World.heap_drewN] at *; omega)))))).mono ?_); rintro e w1 ⟨rfl, hb⟩; have hz := hb.size; (try simp only [World.size_alloc, World.size_setCell, World.size_drew, World.heap_drewN] at hz); (try have h_wr_0 : wr.heap.size < w1.heap.size := by omega); (try have e_wr_0 : ¬ wr.heap.size = w1.heap.size := by omega); (try have d_wr_0 : ¬ w1.heap.size = wr.heap.size := by omega); (try (refine bcUse (n := wr.heap.size) hb ?_ ?_; (focus ((try simp only [World.size_alloc, World.size_setCell, World.size_drew, World.heap_drewN]); omega)); intro _ _)))
      go_roundg (l.length - (k + 1))
      case measure => omega
      case rel =>
        have hbz : Below wr.heap.size wr w1 := by (repeat' (first | (with_reducible exact Below.refl _ _) | (with_reducible assumption) | (with_reducible refine Below.call ?_ ?_ (by with_reducible assumption)) | (with_reducible refine Below.alloc ?_ ?_ _) | (with_reducible refine Below.drew ?_) | (with_reducible refine below_drewN ?_ _) | (with_reducible refine Below.setCell ?_ ?_ _) | (with_reducible exact Nat.le_refl _) | omega | (simp only [World.size_alloc, World.size_setCell, World.size_drew, World.heap_drewN] at *; omega)))
        refine ⟨k + 1, by omega, by go_num, rfl, ?_, HB.out.below hbz, HR.out.below hbz, HO.out.below hbz⟩
        (repeat' (first | (with_reducible exact Below.refl _ _) | (with_reducible assumption) | (with_reducible refine Below.call ?_ ?_ (by with_reducible assumption)) | (with_reducible refine Below.alloc ?_ ?_ _) | (with_reducible refine Below.drew ?_) | (with_reducible refine below_drewN ?_ _) | (with_reducible refine Below.setCell ?_ ?_ _) | (with_reducible exact Nat.le_refl _) | omega | (simp only [World.size_alloc, World.size_setCell, World.size_drew, World.heap_drewN] at *; omega)))
    · have hkl : k = l.length := by omega
      rw [hkl]
      clear hkl HV
      obtain ⟨-, x0, x1, x2, x3⟩ := hB
      obtain ⟨-, y0, y1, y2, y3⟩ := hR
      obtain ⟨-, z0, z1, z2, z3⟩ := hO
      go_wp2_with (go_at_call 66; (refine (HA.out _).mono ?_); rintro e w1 ⟨rfl, hb⟩; have hz := hb.size; (try simp only [World.size_alloc, World.size_setCell, World.size_drew, World.heap_drewN] at hz); (try have h_wr_0 : wr.heap.size < w1.heap.size := by omega); (try have e_wr_0 : ¬ wr.heap.size = w1.heap.size := by omega); (try have d_wr_0 : ¬ w1.heap.size = wr.heap.size := by omega); (try (refine bcUse (n := wr.heap.size) hb ?_ ?_; (focus ((try simp only [World.size_alloc, World.size_setCell, World.size_drew, World.heap_drewN]); omega)); intro _ _)); (try have h_w_0 : w.heap.size < w1.heap.size := by omega); (try have e_w_0 : ¬ w.heap.size = w1.heap.size := by omega); (try have d_w_0 : ¬ w1.heap.size = w.heap.size := by omega); (try (refine bcUse (n := w.heap.size) hb ?_ ?_; (focus ((try simp only [World.size_alloc, World.size_setCell, World.size_drew, World.heap_drewN]); omega)); intro _ _)); (try have h_w_1 : w.heap.size + 1 < w1.heap.size := by omega); (try have e_w_1 : ¬ w.heap.size + 1 = w1.heap.size := by omega); (try have d_w_1 : ¬ w1.heap.size = w.heap.size + 1 := by omega); (try (refine bcUse (n := w.heap.size + 1) hb ?_ ?_; (focus ((try simp only [World.size_alloc, World.size_setCell, World.size_drew, World.heap_drewN]); omega)); intro _ _)); (try have h_w_2 : w.heap.size + 1 + 1 < w1.heap.size := by omega); (try have e_w_2 : ¬ w.heap.size + 1 + 1 = w1.heap.size := by omega); (try have d_w_2 : ¬ w1.heap.size = w.heap.size + 1 + 1 := by omega); (try (refine bcUse (n := w.heap.size + 1 + 1) hb ?_ ?_; (focus ((try simp only [World.size_alloc, World.size_setCell, World.size_drew, World.heap_drewN]); omega)); intro _ _)))
      refine bodyPost_ret (v := .agg #[.int .i64 (m + lo - s), .int .i64 (m + hi + s)]) (by simp only [results, Tryd.results74]; go_simp) rfl ⟨rfl, ?_⟩
      (repeat' (first | (with_reducible exact Below.refl _ _) | (with_reducible assumption) | (with_reducible refine Below.call ?_ ?_ (by with_reducible assumption)) | (with_reducible refine Below.alloc ?_ ?_ _) | (with_reducible refine Below.drew ?_) | (with_reducible refine below_drewN ?_ _) | (with_reducible refine Below.setCell ?_ ?_ _) | (with_reducible exact Nat.le_refl _) | omega | (simp only [World.size_alloc, World.size_setCell, World.size_drew, World.heap_drewN] at *; omega)))
theorem c_value (m r s inst : Int) (a : Option Addr) (cap : Nat) (l : List Tm) (w : World) (hT : Tab w) (hc : l.length ≤ cap) (hs : TmSlice w a l) (hv : SumOk m r l s) (i1 : -400000000000000 ≤ inst) (i2 : inst ≤ 400000000000000) :
    Calls Tryd.prog 74 #[sumV m r a l.length cap s, .int .i64 inst] w fun e w' => e = .returned (.agg #[.int .i64 (valLo m l s inst), .int .i64 (valHi m l s inst)]) ∧ Below w.heap.size w w' := by
  unfold valLo valHi
  by_cases h0 : l.length = 0
  · rw [if_pos h0, if_pos h0, h0]
    exact c_value_nil m r s inst a cap w hv.m1 hv.m2 hv.s1 hv.s2
  · rw [if_neg h0, if_neg h0]
    exact c_value_some m r s inst a cap l w hT hc hs hv (by omega) i1 i2
end Go.Proofs.YtffnmfcaoldlhaaDoor
