/- The contract of (*discipline.Keeper).Read where it answers an interval. -/
import Derived.Test.YtdpddidfdifbhaaWalkRead
import Derived.Deep.RegionHeld3
set_option linter.unusedVariables false
set_option linter.unusedSimpArgs false
namespace Go.Proofs.Ytdpddidfdifbhaa
open Go.RowKit
def rdCells (l : List Rd) : List Value := l.flatMap fun s => [.int .i64 s.tk, .int .i64 s.lo, .int .i64 s.hi]
theorem rdCells_append (l m : List Rd) : rdCells (l ++ m) = rdCells l ++ rdCells m := by simp [rdCells]
theorem rdCells_get (l : List Rd) (k : Nat) (h : k < l.length) : (rdCells l)[k * 3]? = some (.int .i64 l[k].tk) ∧ (rdCells l)[k * 3 + 1]? = some (.int .i64 l[k].lo) ∧ (rdCells l)[k * 3 + 2]? = some (.int .i64 l[k].hi) := by
  induction l generalizing k with
  | nil => simp at h
  | cons a l ih =>
    cases k with
    | zero => simp [rdCells]
    | succ k =>
      have := ih k (by simpa using h)
      have e : rdCells (a :: l) = .int .i64 a.tk :: .int .i64 a.lo :: .int .i64 a.hi :: rdCells l := by simp [rdCells]
      rw [e, show (k + 1) * 3 = k * 3 + 1 + 1 + 1 by omega]
      simpa using this
theorem own_rd {w : World} {base : Nat} {v : Value} {l : List Rd} (h : w.ownsRow base 72 3 v l.length (rdCells l)) : ∃ a cap, v = .slice a l.length cap ∧ l.length ≤ cap ∧ RdSlice w a l := by
  rcases own_form h with ⟨h1, h2⟩ | ⟨g, cap', h1, h2, h3, h4, h5, h6, h7⟩
  · exact ⟨none, 0, by rw [h1, h2], by omega, fun k hk => absurd hk (by omega)⟩
  · refine ⟨some ⟨g, 0, none⟩, cap', h1, h2, fun k hk => ?_⟩
    obtain ⟨e1, e2, e3⟩ := rdCells_get l k hk
    refine ⟨g, 0, rfl, h5, ?_, ?_, ?_⟩
    · rw [Nat.zero_add, h6 _ (by omega), e1]
    · rw [Nat.zero_add, h6 _ (by omega), e2]
    · rw [Nat.zero_add, h6 _ (by omega), e3]
/-- The result's interval lies in block number w.heap.size; behind it all is new. -/
def Aft (w wr : World) : Prop := ∃ ws : World, ws.heap.size = w.heap.size + 1 ∧ SpAt ws w.heap.size 0 0 ∧ Below w.heap.size w ws ∧ Below ws.heap.size ws wr
theorem Aft.bel {w wr : World} (h : Aft w wr) : Below w.heap.size w wr := by
  obtain ⟨ws, h1, h2, h3, h4⟩ := h
  exact Below.call h3 h3.size h4
theorem Aft.sp {w wr : World} (h : Aft w wr) : SpAt wr w.heap.size 0 0 := by
  obtain ⟨ws, h1, h2, h3, h4⟩ := h
  exact h2.below h4
theorem Aft.size {w wr : World} (h : Aft w wr) : w.heap.size < wr.heap.size := by
  obtain ⟨ws, h1, h2, h3, h4⟩ := h
  have := h4.size
  omega
theorem Aft.call {w w1 w2 : World} (h : Aft w w1) (hb : Below w1.heap.size w1 w2) : Aft w w2 := by
  obtain ⟨ws, h1, h2, h3, h4⟩ := h
  exact ⟨ws, h1, h2, h3, Below.call h4 h4.size hb⟩
theorem Aft.grown {w w1 w2 : World} {row : Option Nat} (h : Aft w w1) (hg : w1.grownBy w2 row) (hr : ∀ k, row = some k → w.heap.size + 1 ≤ k) : Aft w w2 := by
  obtain ⟨ws, h1, h2, h3, h4⟩ := h
  exact ⟨ws, h1, h2, h3, Below.grown h4 hg h4.size (fun k hk => by have := hr k hk; omega)⟩
theorem info_rdA : (Try.prog.info? 72).map (fun i => (i.zero, i.size, i.bytes)) = some (some (.agg #[.int .i64 0, .int .i64 0, .int .i64 0]), 3, 24) := by kernel_rfl
/-- What source.All answers for valid readings. -/
def AllRes (d q : Int) (l : List Rd) (w : World) (e : Ending) (w' : World) : Prop := ∃ a' cap', e = .returned (.tuple #[.slice a' l.length cap', .int .i64 0]) ∧ l.length ≤ cap' ∧ SpSlice w' a' (l.map (rdMv d q)) ∧ Below w.heap.size w w'
theorem c_all_ok (d q : Int) (a : Option Addr) (cap : Nat) (l : List Rd) (w : World) (hc : l.length ≤ cap) (h40 : l.length ≤ 40) (hs : RdSlice w a l) (h0 : fe (rdErr d q) l = 0) :
    Calls Try.prog 61 #[.int .i64 d, .slice a l.length cap, .int .i64 q] w (AllRes d q l w) :=
  (c_all_some d q a cap l w hc h40 hs).mono fun e w' ⟨hb, h⟩ => by
    rcases h with ⟨h1, _⟩ | ⟨_, a', cap', h2, h3, h4⟩
    · exact absurd h0 h1
    · exact ⟨a', cap', h2, h3, h4, hb⟩
theorem c_Within_len (a : Option Addr) (m cap : Nat) (l : List Sp) (need : Int) (w : World) (hm : l.length = m) (hc : m ≤ cap) (hs : SpSlice w a l) (he : spsErr l = 0) (n1 : 1 ≤ need) (n2 : need ≤ (m : Int)) (lo hi x : Int)
    (ht : (∃ p q, wst l need l.length = (p, q, false) ∧ lo = 0 ∧ hi = 0 ∧ x = 6) ∨ (wst l need l.length = (lo, hi, true) ∧ x = 0)) :
    Calls Try.prog 21 #[.slice a m cap, .int .i64 need] w fun e w' => e = .returned (.tuple #[.agg #[.int .i64 lo, .int .i64 hi], .int .i64 x]) ∧ Below w.heap.size w w' := by
  subst hm
  exact c_Within_ok a cap l need w hc hs he n1 n2 lo hi x ht
set_option maxRecDepth 100000 in
set_option maxHeartbeats 2000000 in
theorem c_read_ok (b rb gb n : Nat) (d f last : Int) (R : Nat → Rd) (H : Nat → Bool) (q lo hi x : Int) (w : World) (hK : KeepAt w b rb gb n d f last R H) (hn : n ≤ 40) (hd : driftB d = true) (h : tickB q = true) (hl : last ≤ q) (hf1 : 0 ≤ f) (hh : 2 * f < (heardN H n : Int)) (hok : KOk n last R H)
    (ht : (∃ p q', wst ((kept R H n).map (rdMv d q)) (heardN H n - f) ((kept R H n).map (rdMv d q)).length = (p, q', false) ∧ lo = 0 ∧ hi = 0 ∧ x = 6) ∨ (wst ((kept R H n).map (rdMv d q)) (heardN H n - f) ((kept R H n).map (rdMv d q)).length = (lo, hi, true) ∧ x = 0)) :
    Calls Try.prog 42 #[.pointer (some ⟨b, 0, none⟩), .int .i64 q] w fun e w' => e = .returned (.tuple #[.agg #[.int .i64 lo, .int .i64 hi], .int .i64 x]) ∧ Below w.heap.size w w' := by
  obtain ⟨i0, hi0, hz0, hz1, hz2⟩ := info_parts info_rdA
  have c0 := hK.r0.cell (i := 0) (by omega)
  have c1 := hK.r0.cell (i := 1) (by omega)
  have c2 := hK.r0.cell (i := 2) (by omega)
  have c3 := hK.r0.cell (i := 3) (by omega)
  have c4 := hK.r0.cell (i := 4) (by omega)
  have hlt := hK.r0.lt
  have hlt1 := hK.r1.lt
  have hlt2 := hK.r2.lt
  simp only [kpF] at c0 c1 c2 c3 c4
  have hle := heardN_le H n
  have n0 : ¬ b = w.heap.size := by omega
  have n2 : ¬ w.heap.size = b := by omega
  have z1 : IntKind.i64.wrap (2 * f) = 2 * f := IntWalk.i64_in _ (by omega)
  rw [← heardN_kept R H n] at ht
  have HT := Lib.hid ht
  have HK := Lib.hid hK
  have HO := Lib.hid hok
  clear hK ht hok
  have hgen := sgen; have hgen2 := sgen2; have hgen3 := sgen3; go_enter Try.func42, Try.ntmps42
  go_wp2_with (go_at_call 60; refine (c_isTick _ _).mono ?_; rintro e w' ⟨rfl, rfl⟩)
  go_quiet ((go_at_call 43; exact Calls.quiet_of_same ((c_heardK _ _ _ _ _ _ _ _ _ _ (HK.out.below (by (repeat' (first | (with_reducible exact Below.refl _ _) | (with_reducible assumption) | (with_reducible refine Below.call ?_ ?_ (by with_reducible assumption)) | (with_reducible refine Below.alloc ?_ ?_ _) | (with_reducible refine Below.drew ?_) | (with_reducible refine below_drewN ?_ _) | (with_reducible refine Below.setCell ?_ ?_ _) | (with_reducible exact Nat.le_refl _) | omega | (simp only [World.size_alloc, World.size_setCell, World.size_drew, World.heap_drewN] at *; omega))))) hn).mono (fun e w' ⟨h1, h2⟩ => ⟨h1, h2.symm⟩))))
  go_wp2_with fail
  go_loopg [6, 39] n (fun gk x6 j wr => ∃ k : Nat, gk + k = n ∧ j = .int .i64 k ∧ Aft w wr ∧ wr.ownsRow (w.heap.size + 1) 72 3 x6 (kept R H k).length (rdCells (kept R H k)))
  case atStart =>
    refine ⟨0, by omega, rfl, ?_, World.ownsRow_nil _ _ _ _⟩
    refine ⟨_, ?_, ?_, ?_, Below.refl _ _⟩
    · simp
    · constructor <;> go_simp
    · (repeat' (first | (with_reducible exact Below.refl _ _) | (with_reducible assumption) | (with_reducible refine Below.call ?_ ?_ (by with_reducible assumption)) | (with_reducible refine Below.alloc ?_ ?_ _) | (with_reducible refine Below.drew ?_) | (with_reducible refine below_drewN ?_ _) | (with_reducible refine Below.setCell ?_ ?_ _) | (with_reducible exact Nat.le_refl _) | omega | (simp only [World.size_alloc, World.size_setCell, World.size_drew, World.heap_drewN] at *; omega)))
  case round =>
    obtain ⟨k, hk, rfl, hA, hown⟩ := hrel
    have hbel := hA.bel
    have hK := HK.out.below hbel
    have hsz := hA.size
    have e0 := hK.r0.cell (i := 0) (by omega)
    have e1 := hK.r0.cell (i := 1) (by omega)
    have e2 := hK.r0.cell (i := 2) (by omega)
    have e3 := hK.r0.cell (i := 3) (by omega)
    simp only [kpF] at e0 e1 e2 e3
    clear c0 c1 c2 c3 c4
    by_cases hkn : k < n
    · have hkz : (k : Int) < (n : Int) := by omega
      have d0 := hK.r1.cell (i := k * 3) (by omega)
      have d1 := hK.r1.cell (i := k * 3 + 1) (by omega)
      have d2 := hK.r1.cell (i := k * 3 + 2) (by omega)
      rw [rdF_0] at d0
      rw [rdF_1] at d1
      rw [rdF_2] at d2
      have i1 := hK.r2.cell hkn
      have b0 : b < wr.heap.size := hK.r0.lt
      have b1 : rb < wr.heap.size := hK.r1.lt
      have b2 : gb < wr.heap.size := hK.r2.lt
      have m0 : ¬ b = wr.heap.size := by omega
      have m1 : ¬ rb = wr.heap.size := by omega
      have m2 : ¬ gb = wr.heap.size := by omega
      have m3 : ¬ wr.heap.size = b := by omega
      have m4 : ¬ wr.heap.size = rb := by omega
      have m5 : ¬ wr.heap.size = gb := by omega
      have hkl := kept_len R H k
      have HA := Lib.hid hA
      have HW := Lib.hid hown
      clear hK hA hown
      obtain ⟨hv, hhv⟩ : ∃ hv, H k = hv := ⟨_, rfl⟩
      rw [hhv] at i1
      cases hv with
      | true =>
        have hks := kept_yes (R := R) hhv
        have HS := Lib.hid hks
        have HV := Lib.hid hhv
        clear hks hhv
        generalize R k = y at *
        go_wp2_with (at_builtin; refine wpList_append_own _ rfl (.tmp 51) (.tmp 53) 67 rfl (w.heap.size + 1) 72 i0 (.agg #[.int .i64 0, .int .i64 0, .int .i64 0]) 3 24 Try.underlying67 hi0 hz0 hz1 hz2 rfl (by decide) _ _ _ rfl ((HW.out.alloc _).alloc _) ⟨wr.heap.size + 1, 0, none⟩ 1 1 [.int .i64 y.tk, .int .i64 y.lo, .int .i64 y.hi] rfl rfl ?c1 ?c2 ?c3 ?c4 ?c5 ?_)
        case c1 =>
          intro j u hj
          match j, hj with
          | 0, hj => simp at hj; subst hj; go_simp
          | 1, hj => simp at hj; subst hj; simp only [Addr.add]; go_simp
          | 2, hj => simp at hj; subst hj; simp only [Addr.add]; go_simp
        case c2 => intro u hu; simp at hu; rcases hu with rfl | rfl | rfl <;> rfl
        case c3 => unfold maxLen; omega
        case c4 => omega
        case c5 => simp; omega
        intro v' w2 hown' hgrow hnil
        have hA2 : Aft w w2 := by
          refine Aft.grown (HA.out.call ?_) hgrow ?_
          · (repeat' (first | (with_reducible exact Below.refl _ _) | (with_reducible assumption) | (with_reducible refine Below.call ?_ ?_ (by with_reducible assumption)) | (with_reducible refine Below.alloc ?_ ?_ _) | (with_reducible refine Below.drew ?_) | (with_reducible refine below_drewN ?_ _) | (with_reducible refine Below.setCell ?_ ?_ _) | (with_reducible exact Nat.le_refl _) | omega | (simp only [World.size_alloc, World.size_setCell, World.size_drew, World.heap_drewN] at *; omega)))
          · intro g hg
            exact (HW.out.lt g hg).1
        have hown2 : w2.ownsRow (w.heap.size + 1) 72 3 v' (kept R H (k + 1)).length (rdCells (kept R H (k + 1))) := by
          rw [HS.out, rdCells_append, List.length_append]; exact hown'
        clear hown' hgrow hnil
        go_wp2_with fail
        go_roundg (n - (k + 1))
        case measure => omega
        case rel => exact ⟨k + 1, by omega, by go_num, hA2, hown2⟩
      | false =>
        have hks := kept_no (R := R) hhv
        have HS := Lib.hid hks
        clear hks hhv
        go_wp2_with fail
        go_roundg (n - (k + 1))
        case measure => omega
        case rel =>
          refine ⟨k + 1, by omega, by go_num, HA.out.call ?_, ?_⟩
          · (repeat' (first | (with_reducible exact Below.refl _ _) | (with_reducible assumption) | (with_reducible refine Below.call ?_ ?_ (by with_reducible assumption)) | (with_reducible refine Below.alloc ?_ ?_ _) | (with_reducible refine Below.drew ?_) | (with_reducible refine below_drewN ?_ _) | (with_reducible refine Below.setCell ?_ ?_ _) | (with_reducible exact Nat.le_refl _) | omega | (simp only [World.size_alloc, World.size_setCell, World.size_drew, World.heap_drewN] at *; omega)))
          · rw [HS.out]; exact HW.out.alloc _
    · obtain rfl : k = n := by omega
      have hlen := heardN_kept R H k
      obtain ⟨a, cap, rfl, hcap, hsl⟩ := own_rd hown
      have hz := kept_fe HO.out hd h hl
      have hsps := kept_sps HO.out hd h hl hn (by omega)
      have hlm : ((kept R H k).map (rdMv d q)).length = (kept R H k).length := List.length_map _
      have HZ := Lib.hid hz
      have HP := Lib.hid hsps
      have HS := Lib.hid hsl
      have HM := Lib.hid hlm
      obtain ⟨q0, q1, q2, q3, q4⟩ := hA.sp
      have HA := Lib.hid hA
      clear hz hsps hown hsl hlm hA
      have HE := Lib.hid e1
      have hlt0 : b < wr.heap.size := hK.r0.lt
      have HL := Lib.hid hlen
      have hlen1 : (kept R H k).length ≤ heardN H k := by omega
      have hlen2 : heardN H k ≤ (kept R H k).length := by omega
      clear hlen hK
      have z2 : IntKind.i64.wrap (((kept R H k).length : Int) - f) = ((kept R H k).length : Int) - f := IntWalk.i64_in _ (by omega)
      go_wp2_with (first | (go_at_call 61; (with_reducible refine (c_all_ok _ _ _ _ _ _ hcap (by omega) HS.out HZ.out).mono ?_); rintro e w1 ⟨aa, ca, rfl, hca, hsa, hb⟩; have hz := hb.size; (try simp only [World.size_alloc, World.size_setCell, World.size_drew, World.heap_drewN] at hz); (try have h_wr_0 : wr.heap.size < w1.heap.size := by omega); (try have e_wr_0 : ¬ wr.heap.size = w1.heap.size := by omega); (try have d_wr_0 : ¬ w1.heap.size = wr.heap.size := by omega); (try (refine bcUse (n := wr.heap.size) hb ?_ ?_; (focus ((try simp only [World.size_alloc, World.size_setCell, World.size_drew, World.heap_drewN]); omega)); intro _ _)); (try have h_w_0 : w.heap.size < w1.heap.size := by omega); (try have e_w_0 : ¬ w.heap.size = w1.heap.size := by omega); (try have d_w_0 : ¬ w1.heap.size = w.heap.size := by omega); (try (refine bcUse (n := w.heap.size) hb ?_ ?_; (focus ((try simp only [World.size_alloc, World.size_setCell, World.size_drew, World.heap_drewN]); omega)); intro _ _)); (try have h_bb_0 : b < w1.heap.size := by omega); (try have e_bb_0 : ¬ b = w1.heap.size := by omega); (try have d_bb_0 : ¬ w1.heap.size = b := by omega); (try (refine bcUse (n := b) hb ?_ ?_; (focus ((try simp only [World.size_alloc, World.size_setCell, World.size_drew, World.heap_drewN]); omega)); intro _ _))) | (go_at_call 21; (with_reducible refine (c_Within_len _ _ _ _ _ _ HM.out hca (hsa.below (Nat.le_refl _) (by (repeat' (first | (with_reducible exact Below.refl _ _) | (with_reducible assumption) | (with_reducible refine Below.call ?_ ?_ (by with_reducible assumption)) | (with_reducible refine Below.alloc ?_ ?_ _) | (with_reducible refine Below.drew ?_) | (with_reducible refine below_drewN ?_ _) | (with_reducible refine Below.setCell ?_ ?_ _) | (with_reducible exact Nat.le_refl _) | omega | (simp only [World.size_alloc, World.size_setCell, World.size_drew, World.heap_drewN] at *; omega))))) HP.out (by omega) (by omega) lo hi x HT.out).mono ?_); rintro e w2 ⟨rfl, hb⟩; have hz := hb.size; (try simp only [World.size_alloc, World.size_setCell, World.size_drew, World.heap_drewN] at hz); (try have h_wr_0 : wr.heap.size < w2.heap.size := by omega); (try have e_wr_0 : ¬ wr.heap.size = w2.heap.size := by omega); (try have d_wr_0 : ¬ w2.heap.size = wr.heap.size := by omega); (try (refine bcUse (n := wr.heap.size) hb ?_ ?_; (focus ((try simp only [World.size_alloc, World.size_setCell, World.size_drew, World.heap_drewN]); omega)); intro _ _)); (try have h_w_0 : w.heap.size < w2.heap.size := by omega); (try have e_w_0 : ¬ w.heap.size = w2.heap.size := by omega); (try have d_w_0 : ¬ w2.heap.size = w.heap.size := by omega); (try (refine bcUse (n := w.heap.size) hb ?_ ?_; (focus ((try simp only [World.size_alloc, World.size_setCell, World.size_drew, World.heap_drewN]); omega)); intro _ _)); (try have h_w1_0 : w1.heap.size < w2.heap.size := by omega); (try have e_w1_0 : ¬ w1.heap.size = w2.heap.size := by omega); (try have d_w1_0 : ¬ w2.heap.size = w1.heap.size := by omega); (try (refine bcUse (n := w1.heap.size) hb ?_ ?_; (focus ((try simp only [World.size_alloc, World.size_setCell, World.size_drew, World.heap_drewN]); omega)); intro _ _)); (try have h_bb_0 : b < w2.heap.size := by omega); (try have e_bb_0 : ¬ b = w2.heap.size := by omega); (try have d_bb_0 : ¬ w2.heap.size = b := by omega); (try (refine bcUse (n := b) hb ?_ ?_; (focus ((try simp only [World.size_alloc, World.size_setCell, World.size_drew, World.heap_drewN]); omega)); intro _ _))))
      refine bodyPost_ret (v := _) (by simp only [results, Try.results42]; go_simp) rfl ⟨rfl, ?_⟩
      (repeat' (first | (with_reducible exact Below.refl _ _) | (with_reducible assumption) | (with_reducible refine Below.call ?_ ?_ (by with_reducible assumption)) | (with_reducible refine Below.alloc ?_ ?_ _) | (with_reducible refine Below.drew ?_) | (with_reducible refine below_drewN ?_ _) | (with_reducible refine Below.setCell ?_ ?_ _) | (with_reducible exact Nat.le_refl _) | omega | (simp only [World.size_alloc, World.size_setCell, World.size_drew, World.heap_drewN] at *; omega)))
end Go.Proofs.Ytdpddidfdifbhaa
