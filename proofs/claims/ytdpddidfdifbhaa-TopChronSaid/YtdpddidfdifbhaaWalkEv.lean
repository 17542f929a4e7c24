/- The contract of sEvents. -/
import Derived.Test.YtdpddidfdifbhaaWalkClone
import Derived.Test.YtdpddidfdifbhaaWalkSAt
import Derived.Test.YtdpddidfdifbhaaIxInt1
import Derived.Deep.AppendLies
import Derived.Deep.QuietTactic
import Derived.BigQuiet
import Derived.Outline
import Derived.Deep.LoopGhost
import Derived.Deep.RegionHeld3
import Derived.Deep.DeepCutAuto
set_option linter.unusedVariables false
set_option linter.unusedSimpArgs false
namespace Go.Proofs.Ytdpddidfdifbhaa
open Go.RowKit
def EvRes (ds : List Int) (l : List Bd) (w : World) (e : Ending) (w' : World) : Prop := ∃ a cap, e = .returned (.tuple #[.int .i64 (evN ds : Nat), .slice a (evs ds l).length cap]) ∧ (evs ds l).length ≤ cap ∧ (a = none → cap = 0) ∧ BdSlice w' a (evs ds l) ∧ Below w.heap.size w w'
theorem own_bdS {w : World} {base : Nat} {v : Value} {l : List Bd} (h : w.ownsRow base 47 4 v l.length (bdCells l)) : ∃ a cap, v = .slice a l.length cap ∧ l.length ≤ cap ∧ (a = none → cap = 0) ∧ BdSlice w a l := by
  by_cases hv : v = .slice none 0 0
  · rcases own_form h with ⟨h1, h2⟩ | ⟨g, cap, h1, _⟩
    · exact ⟨none, 0, by rw [h1, h2], by omega, fun _ => rfl, fun k hk => absurd hk (by omega)⟩
    · rw [hv] at h1; simp at h1
  · obtain ⟨g, cap, h1, _, h3, _, h5⟩ := own_bd h hv
    exact ⟨some ⟨g, 0, none⟩, cap, h1, h3, (fun e => by simp at e), h5.slice⟩
set_option maxRecDepth 100000 in
theorem c_sEvents_few (ds : List Int) (a1 a2 : Option Addr) (cap1 cap2 : Nat) (l : List Bd) (w : World) (hc2 : l.length ≤ cap2) (hm2 : cap2 ≤ 9223372036854775807) (hs2 : BdSlice w a2 l) (hn : ds.length < 2) :
    Calls Try.prog 46 #[.slice a1 ds.length cap1, .slice a2 l.length cap2] w (EvRes ds l w) := by
  have hev : evs ds l = [] := by unfold evs evN; rw [if_pos (by omega)]
  have HV : Hid (evN ds = ds.length) := Lib.hid (by unfold evN; omega)
  have HE := Lib.hid hev
  clear hev
  have hgen := sgen; have hgen2 := sgen2; have hgen3 := sgen3; go_enter Try.func46, Try.ntmps46
  go_wp2_with fail
  go_loopg [7, 18] l.length (fun gk x7 j wr => x7 = .slice none 0 0 ∧ j = .int .i64 0 ∧ gk = l.length ∧ wr = w)
  case atStart => exact ⟨rfl, rfl, rfl, rfl⟩
  case round =>
    obtain ⟨rfl, rfl, rfl, rfl⟩ := hrel
    by_cases hl : 0 < l.length
    · obtain ⟨b, off, ha, hb1, e0, e1, e2, e3⟩ := hs2 0 hl
      have ix1 := @ix_Bd a2 b off l.length cap2 0 ha hl
      have hlz : (0 : Int) < (l.length : Int) := by omega
      clear ha
      generalize l[0] = x at *
      have m1 : ¬ b = wr.heap.size := by omega
      simp only [Nat.zero_mul, Nat.add_zero, Nat.zero_add, Int.cast_ofNat_Int] at e0 e1 e2 e3 ix1
      have hnf : decide ((ds.length : Int) < 2) = true := by simp; omega
      have hnf2 : (ds.length : Int) < 2 := by omega
      go_wp2_with fail
      go_ret2
      refine ⟨none, 0, ?_, ?_, (fun _ => rfl), ?_, ?_⟩
      · rw [HE.out, HV.out]; rfl
      · rw [HE.out]; simp
      · rw [HE.out]; intro k hk; simp at hk
      · (repeat' (first | (with_reducible exact Below.refl _ _) | (with_reducible assumption) | (with_reducible refine Below.call ?_ ?_ (by with_reducible assumption)) | (with_reducible refine Below.alloc ?_ ?_ _) | (with_reducible refine Below.drew ?_) | (with_reducible refine below_drewN ?_ _) | (with_reducible refine Below.setCell ?_ ?_ _) | (with_reducible exact Nat.le_refl _) | omega | (simp only [World.size_alloc, World.size_setCell, World.size_drew, World.heap_drewN] at *; omega)))
    · have hlz : ¬ (0 : Int) < (l.length : Int) := by omega
      go_wp2_with fail
      go_ret2
      refine ⟨none, 0, ?_, ?_, (fun _ => rfl), ?_, Below.refl _ _⟩
      · rw [HE.out, HV.out]; rfl
      · rw [HE.out]; simp
      · rw [HE.out]; intro k hk; simp at hk
set_option maxRecDepth 100000 in
set_option maxHeartbeats 2000000 in
theorem c_sEvents_many (n : Nat) (ds : List Int) (a1 a2 : Option Addr) (cap1 cap2 : Nat) (l : List Bd) (w : World) (hc1 : ds.length ≤ cap1) (hm1 : cap1 ≤ 9223372036854775807) (hc2 : l.length ≤ cap2) (hm2 : cap2 ≤ 9223372036854775807) (hs1 : IntSlice w a1 ds) (hs2 : BdSlice w a2 l) (hn : 2 ≤ n) (hev : evN ds = n) :
    Calls Try.prog 46 #[.slice a1 ds.length cap1, .slice a2 l.length cap2] w (EvRes ds l w) := by
  have hnv : (min (ds.length : Int) 8) = (n : Int) := by unfold evN at hev; omega
  have n8 : n ≤ 8 := by unfold evN at hev; omega
  have nle : n ≤ ds.length := by unfold evN at hev; omega
  obtain ⟨i0, hi0, hz0, hz1, hz2⟩ := info_parts info_Bd
  have HE := Lib.hid hev
  clear hev
  have hgen := sgen; have hgen2 := sgen2; have hgen3 := sgen3; go_enter Try.func46, Try.ntmps46
  go_upto_region 1 with fail
  go_cut [6] (fun x6 wc => x6 = .int .i64 (n : Int) ∧ w = wc)
  case first =>
    by_cases h8 : ds.length < 8
    · have e : (ds.length : Int) = (n : Int) := by omega
      have HQ := Lib.hid e
      clear hnv e
      go_wp2_with fail
      all_goals go_meet
      all_goals first | (exfalso; omega) | (refine ⟨?_, rfl⟩; congr 1; (try (have := HQ.out; omega)))
    · have e : (n : Int) = 8 := by omega
      have HQ := Lib.hid e
      clear hnv e
      go_wp2_with fail
      all_goals go_meet
      all_goals first | (exfalso; omega) | (refine ⟨?_, rfl⟩; congr 1; (try (have := HQ.out; omega)))
  case rest =>
    obtain ⟨rfl, rfl⟩ := hcut
    clear hnv
    go_wp2_with fail
    go_loopg [7, 18] l.length (fun gk x7 j wr => ∃ k : Nat, gk + k = l.length ∧ k ≤ 20 ∧ j = .int .i64 k ∧ Below w.heap.size w wr ∧ wr.ownsRow w.heap.size 47 4 x7 ((l.take k).map (evOne n ds)).length (bdCells ((l.take k).map (evOne n ds))))
    case atStart => exact ⟨0, by omega, by omega, rfl, Below.refl _ _, World.ownsRow_nil _ _ _ _⟩
    case round =>
      obtain ⟨k, hk, hk20, rfl, hbel, hown⟩ := hrel
      have hsz := hbel.size
      by_cases hlt : k < l.length
      · obtain ⟨b, off, ha, hb1, e0, e1, e2, e3⟩ := (hs2.below (Nat.le_refl _) hbel) k hlt
        have ix1 := @ix_Bd a2 b off l.length cap2 k ha hlt
        have hlz : (k : Int) < (l.length : Int) := by omega
        have m1 : ¬ b = wr.heap.size := by omega
        have m2 : ¬ wr.heap.size = b := by omega
        have hb0 : b < w.heap.size := by
          obtain ⟨b', off', ha', hb', _⟩ := hs2 k hlt
          rw [ha] at ha'; simp at ha'; omega
        clear ha
        by_cases hk2 : k < 20
        · have hsn := fe_take l k hlt
          have hln : ((l.take k).map (evOne n ds)).length = k := by simp; omega
          generalize l[k] = x at *
          have ev1 : ((l.take (k + 1)).map (evOne n ds)) = (l.take k).map (evOne n ds) ++ [evOne n ds x] := by rw [hsn, List.map_append]; rfl
          obtain ⟨z1, z2, z3, z4, z5, z6, z7, z8, z9⟩ := evOne_bd hn ds x
          obtain ⟨l1, l2⟩ := sat_bd (k := x.lo) (n := 50) (by omega)
          obtain ⟨u1, u2⟩ := sat_bd (k := x.hi) (n := 50) (by omega)
          obtain ⟨s1, s2⟩ := sat_bd (k := x.b) (n := (n : Int) - 1) (by omega)
          obtain ⟨aN, haN⟩ : ∃ aN : Nat, sat x.a n = (aN : Int) := ⟨(sat x.a n).toNat, by have := (sat_bd (k := x.a) (n := (n : Int)) (by omega)).1; omega⟩
          obtain ⟨mN, hmN⟩ : ∃ mN : Nat, sat x.b ((n : Int) - 1) = (mN : Int) := ⟨(sat x.b ((n : Int) - 1)).toNat, by omega⟩
          obtain ⟨cN, hcN⟩ : ∃ cN : Nat, evC n x = (cN : Int) := ⟨(evC n x).toNat, by have : 0 ≤ evC n x := z3; omega⟩
          have caN : aN < ds.length := by have : sat x.a n < n := z2; omega
          have ccN : cN < ds.length := by have : evC n x < n := z4; omega
          obtain ⟨b1, off1, ha1, hbb1, y1⟩ := (hs1.below (Nat.le_refl _) hbel) cN ccN
          obtain ⟨b2, off2, ha2, hbb2, y2⟩ := (hs1.below (Nat.le_refl _) hbel) aN caN
          have ixc := @ix_Int a1 b1 off1 ds.length cap1 cN ha1 ccN
          have ixa := @ix_Int a1 b2 off2 ds.length cap1 aN ha2 caN
          have q1 : ¬ b1 = wr.heap.size := by omega
          have q2 : ¬ b2 = wr.heap.size := by omega
          have ed : evD n ds x = (ds[cN]).tmod 10000 - (ds[aN]).tmod 10000 := by
            have r1 := dayAt_nat ds cN ccN
            have r2 := dayAt_nat ds aN caN
            unfold evD; rw [hcN, haN, r1, r2]
          have b3 := tmod_bd ds[cN]
          have b4 := tmod_bd ds[aN]
          generalize ds[cN] = dc at *
          generalize ds[aN] = da at *
          generalize hlo : sat x.lo 50 = sl at *
          generalize hhi : sat x.hi 50 = su at *
          obtain ⟨dv, hdv⟩ : ∃ dv, dc.tmod 10000 - da.tmod 10000 = dv := ⟨_, rfl⟩
          have HA := fun w0 => c_sAt x.a n w0 (by omega) (by omega)
          have HB := fun w0 => c_sAt x.b ((n : Int) - 1) w0 (by omega) (by omega)
          have HL := fun w0 => c_sAt x.lo 50 w0 (by omega) (by omega)
          have HU := fun w0 => c_sAt x.hi 50 w0 (by omega) (by omega)
          rw [haN] at HA
          rw [hmN] at HB
          rw [hlo] at HL
          rw [hhi] at HU
          have hcc : ((aN : Int) + 1 + (mN : Int)) % (n : Int) = (cN : Int) := by rw [← haN, ← hmN]; exact hcN
          have hone : evOne n ds x = ⟨aN, cN, dv - sl, dv + su⟩ := by unfold evOne; rw [haN, hcN, ed, hdv, hlo, hhi]
          have H1 := Lib.hid ev1
          have H2 := Lib.hid hone
          have HLN := Lib.hid hln
          rw [hln] at hown
          have HO := Lib.hid hown
          have ag : u7.ownBlock ≠ some wr.heap.size := fun e => by have := (HO.out.lt _ e).1; have := (HO.out.lt _ e).2; omega
          have hn1 : k + 1 ≤ maxLen := by unfold maxLen; omega
          have hnb : (k + 1) * 32 ≤ 140737488355328 := by omega
          have HNB : Hid (((wr.alloc (.cells #[.int .i64 x.a, .int .i64 x.b, .int .i64 x.lo, .int .i64 x.hi] 47 (0, 0))).alloc (.cells #[.int .i64 aN, .int .i64 cN, .int .i64 (dv - sl), .int .i64 (dv + su)] 47 (0, 0))).heap[wr.heap.size + 1]? = some (.cells #[.int .i64 aN, .int .i64 cN, .int .i64 (dv - sl), .int .i64 (dv + su)] 47 (0, 0))) := Lib.hid (by have e := heap_alloc_new (wr.alloc (.cells #[.int .i64 x.a, .int .i64 x.b, .int .i64 x.lo, .int .i64 x.hi] 47 (0, 0))) (.cells #[.int .i64 aN, .int .i64 cN, .int .i64 (dv - sl), .int .i64 (dv + su)] 47 (0, 0)); rw [show (wr.alloc (.cells #[.int .i64 x.a, .int .i64 x.b, .int .i64 x.lo, .int .i64 x.hi] 47 (0, 0))).heap.size = wr.heap.size + 1 from by simp] at e; exact e)
          have w1 : IntKind.i64.wrap (dc.tmod 10000 - da.tmod 10000) = dv := (IntWalk.i64_in _ (by omega)).trans hdv
          have w2 : IntKind.i64.wrap (dv - sl) = dv - sl := IntWalk.i64_in _ (by omega)
          have w3 : IntKind.i64.wrap (dv + su) = dv + su := IntWalk.i64_in _ (by omega)
          have bm : (mN : Int) < n := by omega
          have t1 : ((k : Int) == 20) = false := by simp; omega
          have t2 : (2 : Int) ≤ (n : Int) := by omega
          have ba : (aN : Int) < n := by rw [← haN]; exact z2
          clear hsn ev1 hln haN hmN hcN hlo hhi hdv ed hone hown ha1 ha2 z1 z2 z3 z4 z5 z6 z7 z8 z9
          go_upto_region 9 with (go_at_call 47; (first | (with_reducible refine (HA _).mono ?_) | (with_reducible refine (HB _).mono ?_)); rintro e w' ⟨rfl, rfl⟩)
          go_quiet (fail)
          go_wp2_with fail
          go_region_held3 (fun w' => w'.cell? ⟨wr.heap.size, 2, none⟩ = some (.int .i64 x.lo) ∧ w'.cell? ⟨wr.heap.size, 3, none⟩ = some (.int .i64 x.hi))
            (first
              | go_keep
              | (refine ⟨?_, ?_⟩ <;> (go_simp; done))
              | (go_split_ands
                 refine ⟨?_, ?_⟩
                 · (rw [hgrow.cell_far _ (by simp; omega) (Ne.symm ag)]; assumption)
                 · (rw [hgrow.cell_far _ (by simp; omega) (Ne.symm ag)]; assumption)))
            (first
              | (go_at_call 47; (first | (with_reducible refine (HL _).mono ?_) | (with_reducible refine (HU _).mono ?_)); rintro e w' ⟨rfl, rfl⟩)
              | (refine step_append_lies _ (by rfl) _ _ _ (by rfl) w.heap.size 47 i0 _ 4 32 Try.underlying41 hi0 hz0 hz1 hz2 rfl (by omega) u7 k _ (by rfl) (own_below HO.out (by (repeat' (first | (with_reducible exact Below.refl _ _) | (with_reducible assumption) | (with_reducible refine Below.call ?_ ?_ (by with_reducible assumption)) | (with_reducible refine Below.alloc ?_ ?_ _) | (with_reducible refine Below.drew ?_) | (with_reducible refine below_drewN ?_ _) | (with_reducible refine Below.setCell ?_ ?_ _) | (with_reducible exact Nat.le_refl _) | omega | (simp only [World.size_alloc, World.size_setCell, World.size_drew, World.heap_drewN] at *; omega))))) ⟨wr.heap.size + 1, 0, none⟩ 1 1 [.int .i64 aN, .int .i64 cN, .int .i64 (dv - sl), .int .i64 (dv + su)] (by rfl) (by rfl) (World.news_of_block (cs := #[.int .i64 aN, .int .i64 cN, .int .i64 (dv - sl), .int .i64 (dv + su)]) (t := 47) (fr := (0, 0)) HNB.out) (by simp [Value.oneCell']) (by omega) hn1 hnb (by simp; omega) (wr.heap.size + 1 + 1) (by simp) ?_; intro gg cap3 w3 hown3 hgrow hat hlt3))
          have hb3 : Below w.heap.size w w3 := by
            refine Below.grown ?_ hgrow ?_ ?_
            · (repeat' (first | (with_reducible exact Below.refl _ _) | (with_reducible assumption) | (with_reducible refine Below.call ?_ ?_ (by with_reducible assumption)) | (with_reducible refine Below.alloc ?_ ?_ _) | (with_reducible refine Below.drew ?_) | (with_reducible refine below_drewN ?_ _) | (with_reducible refine Below.setCell ?_ ?_ _) | (with_reducible exact Nat.le_refl _) | omega | (simp only [World.size_alloc, World.size_setCell, World.size_drew, World.heap_drewN] at *; omega)))
            · simp; omega
            · intro g hg
              exact (HO.out.lt g hg).1
          have hown4 : w3.ownsRow w.heap.size 47 4 (.slice (some ⟨gg, 0, none⟩) (k + 1) cap3) ((l.take (k + 1)).map (evOne n ds)).length (bdCells ((l.take (k + 1)).map (evOne n ds))) := by
            rw [H1.out, H2.out, bdCells_append, List.length_append, HLN.out]
            exact hown3
          have HO4 := Lib.hid hown4
          clear hown3 hgrow hat hown4
          go_wp2_with fail
          go_roundg (l.length - (k + 1))
          case measure => omega
          case rel => exact ⟨k + 1, by omega, by omega, by go_num, hb3, HO4.out⟩
        · have hk2' : k = 20 := by omega
          have HK2 := Lib.hid hk2'
          obtain ⟨aa, cap, hv, hcap, hnil, hsl⟩ := own_bdS hown
          subst hv
          have t1 : ((k : Int) == 20) = true := by simp; omega
          have hevs : evs ds l = (l.take k).map (evOne n ds) := by unfold evs; rw [HE.out, if_neg (by omega), hk2']
          have HV := Lib.hid hevs
          have HS := Lib.hid hsl
          have HC := Lib.hid hcap
          have HNI := Lib.hid hnil
          clear hevs hsl hcap hnil hown hk2'
          go_wp2_with fail
          go_ret2
          refine ⟨aa, cap, ?_, ?_, HNI.out, ?_, ?_⟩
          · rw [HV.out, HE.out]; rfl
          · rw [HV.out]; exact HC.out
          · rw [HV.out]; exact HS.out.below (Nat.le_refl _) (by (repeat' (first | (with_reducible exact Below.refl _ _) | (with_reducible assumption) | (with_reducible refine Below.call ?_ ?_ (by with_reducible assumption)) | (with_reducible refine Below.alloc ?_ ?_ _) | (with_reducible refine Below.drew ?_) | (with_reducible refine below_drewN ?_ _) | (with_reducible refine Below.setCell ?_ ?_ _) | (with_reducible exact Nat.le_refl _) | omega | (simp only [World.size_alloc, World.size_setCell, World.size_drew, World.heap_drewN] at *; omega))))
          · (repeat' (first | (with_reducible exact Below.refl _ _) | (with_reducible assumption) | (with_reducible refine Below.call ?_ ?_ (by with_reducible assumption)) | (with_reducible refine Below.alloc ?_ ?_ _) | (with_reducible refine Below.drew ?_) | (with_reducible refine below_drewN ?_ _) | (with_reducible refine Below.setCell ?_ ?_ _) | (with_reducible exact Nat.le_refl _) | omega | (simp only [World.size_alloc, World.size_setCell, World.size_drew, World.heap_drewN] at *; omega)))
      · have hkl : k = l.length := by omega
        obtain ⟨aa, cap, hv, hcap, hnil, hsl⟩ := own_bdS hown
        subst hv
        have hevs : evs ds l = (l.take k).map (evOne n ds) := by unfold evs; rw [HE.out, if_neg (by omega), hkl, List.take_of_length_le (by omega), List.take_of_length_le (Nat.le_refl _)]
        have HV := Lib.hid hevs
        have HS := Lib.hid hsl
        have HC := Lib.hid hcap
        have HNI := Lib.hid hnil
        clear hevs hsl hcap hnil hown hkl
        go_wp2_with fail
        go_ret2
        refine ⟨aa, cap, ?_, ?_, HNI.out, ?_, ?_⟩
        · rw [HV.out, HE.out]; rfl
        · rw [HV.out]; exact HC.out
        · rw [HV.out]; exact HS.out
        · exact hbel
theorem c_sEvents (ds : List Int) (a1 a2 : Option Addr) (cap1 cap2 : Nat) (l : List Bd) (w : World) (hc1 : ds.length ≤ cap1) (hm1 : cap1 ≤ 9223372036854775807) (hc2 : l.length ≤ cap2) (hm2 : cap2 ≤ 9223372036854775807) (hs1 : IntSlice w a1 ds) (hs2 : BdSlice w a2 l) :
    Calls Try.prog 46 #[.slice a1 ds.length cap1, .slice a2 l.length cap2] w (EvRes ds l w) := by
  by_cases h : ds.length < 2
  · exact c_sEvents_few ds a1 a2 cap1 cap2 l w hc2 hm2 hs2 h
  · exact c_sEvents_many (evN ds) ds a1 a2 cap1 cap2 l w hc1 hm1 hc2 hm2 hs1 hs2 (by unfold evN; omega) rfl
end Go.Proofs.Ytdpddidfdifbhaa
