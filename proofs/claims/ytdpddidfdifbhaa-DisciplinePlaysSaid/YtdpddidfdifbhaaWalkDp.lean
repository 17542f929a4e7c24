/- The walk through the law DisciplinePlays where the keeper is made. -/
import Derived.Test.YtdpddidfdifbhaaWalkFeed3
import Derived.Test.YtdpddidfdifbhaaWalkDw
import Derived.Test.YtdpddidfdifbhaaWalkRwithin
import Derived.Test.YtdpddidfdifbhaaIxInt1
import Derived.Test.YtdpddidfdifbhaaIxReading
import Derived.Deep.DeepCutAuto
import Derived.Deep.CutBlock
import Derived.Deep.LoopGhost
set_option linter.unusedVariables false
set_option linter.unusedSimpArgs false
namespace Go.Proofs.Ytdpddidfdifbhaa
open Go.RowKit
theorem info_intD : (Try.prog.info? 3).map (fun i => (i.zero, i.size, i.bytes)) = some (some (.int .i64 0), 1, 8) := by kernel_rfl
theorem Touch3.cell {b c g : Nat} {w w' : World} (h : Touch3 b c g w w') {k o : Nat} (h0 : k < w.heap.size) (h1 : k ≠ b) (h2 : k ≠ c) (h3 : k ≠ g) : w'.cell? ⟨k, o, none⟩ = w.cell? ⟨k, o, none⟩ := World.cell?_of_block (w := w) (h.block k h0 h1 h2 h3)
/-- The state of the law between two statements. -/
structure Dl (w0 wc : World) (b rb gb g n : Nat) (d f last : Int) (R : Nat → Rd) (H : Nat → Bool) (hd : Nat → Int) : Prop where
  bel : Below w0.heap.size w0 wc
  keep : KeepAt wc b rb gb n d f last R H
  row : wc.rowIs g 3 n (fun j => .int .i64 (hd j))
  nb1 : b ≠ g
  nb2 : rb ≠ g
  nb3 : gb ≠ g
  b1 : w0.heap.size ≤ b
  b2 : w0.heap.size ≤ rb
  b3 : w0.heap.size ≤ gb
  b4 : w0.heap.size ≤ g
theorem Dl.below {w0 wc wd : World} {b rb gb g n : Nat} {d f last : Int} {R : Nat → Rd} {H : Nat → Bool} {hd : Nat → Int} (h : Dl w0 wc b rb gb g n d f last R H hd) (hb : Below wc.heap.size wc wd) : Dl w0 wd b rb gb g n d f last R H hd :=
  ⟨Below.call h.bel h.bel.size hb, h.keep.below hb, rowIs_belK h.row hb, h.nb1, h.nb2, h.nb3, h.b1, h.b2, h.b3, h.b4⟩
theorem c_noneD (x : Int) (w : World) : Calls Try.prog 18 #[.agg #[.int .i64 0, .int .i64 0], .int .i64 x, .int .i64 x] w fun e w' => e = .returned (.bool true) ∧ Below w.heap.size w w' := by
  have hgen := sgen; have hgen2 := sgen2; have hgen3 := sgen3; go_enter Try.func18, Try.ntmps18
  go_wp2_with fail
  go_ret
  refine ⟨rfl, ?_⟩
  (repeat' (first | (with_reducible exact Below.refl _ _) | (with_reducible assumption) | (with_reducible refine Below.call ?_ ?_ (by with_reducible assumption)) | (with_reducible refine Below.alloc ?_ ?_ _) | (with_reducible refine Below.drew ?_) | (with_reducible refine below_drewN ?_ _) | (with_reducible refine Below.setCell ?_ ?_ _) | (with_reducible exact Nat.le_refl _) | omega | (simp only [World.size_alloc, World.size_setCell, World.size_drew, World.heap_drewN] at *; omega)))
theorem own_sp {w : World} {base : Nat} {v : Value} {l : List Sp} (h : w.ownsRow base 25 2 v l.length (spCells l)) : ∃ a cap, v = .slice a l.length cap ∧ l.length ≤ cap ∧ SpSlice w a l := by
  rcases own_form h with ⟨h1, h2⟩ | ⟨g, cap', h1, h2, h3, h4, h5, h6, h7⟩
  · exact ⟨none, 0, by rw [h1, h2], by omega, fun k hk => absurd hk (by omega)⟩
  · refine ⟨some ⟨g, 0, none⟩, cap', h1, h2, fun k hk => ?_⟩
    obtain ⟨e1, e2⟩ := spCells_get l k hk
    refine ⟨g, 0, rfl, h5, ?_, ?_⟩
    · rw [Nat.zero_add, h6 _ (by omega), e1]
    · rw [Nat.zero_add, h6 _ (by omega), e2]
theorem c_refWithin_len (a : Option Addr) (m cap : Nat) (l : List Sp) (need : Int) (w : World) (hm : l.length = m) (hc : l.length ≤ cap) (h40 : l.length ≤ 40) (hs : SpSlice w a l) (lo hi : Int) (x : Bool) (ht : wst l need l.length = (lo, hi, x)) :
    Calls Try.prog 22 #[.slice a m cap, .int .i64 need] w fun e w' => e = .returned (.tuple #[.agg #[.int .i64 lo, .int .i64 hi], .bool x]) ∧ Below w.heap.size w w' := by
  subst hm
  exact c_refWithin a cap l need w hc h40 hs lo hi x ht
theorem dl_keep {w0 w4 : World} {b rb gb g n : Nat} {d f last last0 : Int} {R R0 : Nat → Rd} {H H0 : Nat → Bool} {hd : Nat → Int} {wp : World} (h : Dl w0 wp b rb gb g n d f last0 R0 H0 hd) (bel : Below w0.heap.size w0 w4) (K : KeepAt w4 b rb gb n d f last R H) (row : w4.rowIs g 3 n (fun j => .int .i64 (hd j))) : Dl w0 w4 b rb gb g n d f last R H hd :=
  ⟨bel, K, row, h.nb1, h.nb2, h.nb3, h.b1, h.b2, h.b3, h.b4⟩
theorem dl_set {w0 w4 : World} {b rb gb g n : Nat} {d f last last0 : Int} {R R0 : Nat → Rd} {H H0 : Nat → Bool} {hd : Nat → Int} {wp : World} (h : Dl w0 wp b rb gb g n d f last0 R0 H0 hd) (bel : Below w0.heap.size w0 w4) (K : KeepAt w4 b rb gb n d f last R H) (row : w4.rowIs g 3 n (fun j => .int .i64 (hd j))) (mm : Nat) (v : Int) : Dl w0 (w4.setCell ⟨g, mm, none⟩ (.int .i64 v)) b rb gb g n d f last R H (upd hd mm v) := by
  refine ⟨?_, ⟨rowIs_other K.r0 h.nb1 _, rowIs_other K.r1 h.nb2 _, rowIs_other K.r2 h.nb3 _, K.ne1, K.ne2, K.ne3⟩, (row.set mm _).congr (fun i hi => ?_), h.nb1, h.nb2, h.nb3, h.b1, h.b2, h.b3, h.b4⟩
  · exact Below.setCell bel h.b4 _
  · unfold upd
    by_cases e : i = mm
    · rw [if_pos e, if_pos e]
    · rw [if_neg e, if_neg e]
set_option maxRecDepth 100000 in
set_option maxHeartbeats 4000000 in
theorem walk_dp (d f : Int) (n : Nat) (a1 a2 : Option Addr) (cap1 cap2 : Nat) (ns : List Int) (l : List Rd) (w : World) (hc1 : ns.length ≤ cap1) (hm1 : cap1 ≤ 9223372036854775807) (hc2 : l.length ≤ cap2) (hm2 : cap2 ≤ 9223372036854775807)
    (hs1 : IntSlice w a1 ns) (hs2 : RdSlice w a2 l) (hok : newOk d n f) :
    Calls Try.prog 12 #[.int .i64 d, .int .i64 n, .int .i64 f, .slice a1 ns.length cap1, .slice a2 l.length cap2] w fun e w' => e = .returned (.bool true) ∧ Below w.heap.size w w' := by
  have hok' := hok
  obtain ⟨h1, h2, h3, h4, h5⟩ := hok'
  obtain ⟨d1, d2⟩ := of_driftB h1
  have a5 : ¬ (n : Int) ≤ f := by omega
  have a6 : ¬ (n : Int) ≤ 2 * f := by omega
  have a7 : IntKind.i64.wrap (2 * f) = 2 * f := IntWalk.i64_in _ (by omega)
  have n40 : n ≤ 40 := by omega
  have hmk2 := run_make_row' (P := Try.prog) 38 3 (.int .i64 0) 8 Try.underlying38 info_intD rfl .i64 .i64 n (by omega) (by omega)
  have HN := Lib.hid hok
  have HD := Lib.hid h1
  clear hok h1
  have hgen := sgen; have hgen2 := sgen2; have hgen3 := sgen3; go_enter Try.func12, Try.ntmps12
  go_wp2_with (first | (go_at_call 38; (refine (c_disciplineWorks _).mono ?_); rintro e w1 ⟨rfl, hb⟩; have hz := hb.size; (try simp only [World.size_alloc, World.size_setCell, World.size_drew, World.heap_drewN] at hz); (try have h_w_0 : w.heap.size < w1.heap.size := by omega); (try have e_w_0 : ¬ w.heap.size = w1.heap.size := by omega); (try have d_w_0 : ¬ w1.heap.size = w.heap.size := by omega); (try (refine bcUse (n := w.heap.size) hb ?_ ?_; (focus ((try simp only [World.size_alloc, World.size_setCell, World.size_drew, World.heap_drewN]); omega)); intro _ _))) | (go_at_call 39; (with_reducible refine (c_new_keep _ _ n _ HN.out).mono ?_); rintro e w2 ⟨b, rb, gb, rfl, hb1, hb2, hb3, hK, hb⟩; have hz := hb.size; (try simp only [World.size_alloc, World.size_setCell, World.size_drew, World.heap_drewN] at hz); (try have h_w_0 : w.heap.size < w2.heap.size := by omega); (try have e_w_0 : ¬ w.heap.size = w2.heap.size := by omega); (try have d_w_0 : ¬ w2.heap.size = w.heap.size := by omega); (try (refine bcUse (n := w.heap.size) hb ?_ ?_; (focus ((try simp only [World.size_alloc, World.size_setCell, World.size_drew, World.heap_drewN]); omega)); intro _ _)); (try have h_w1_0 : w1.heap.size < w2.heap.size := by omega); (try have e_w1_0 : ¬ w1.heap.size = w2.heap.size := by omega); (try have d_w1_0 : ¬ w2.heap.size = w1.heap.size := by omega); (try (refine bcUse (n := w1.heap.size) hb ?_ ?_; (focus ((try simp only [World.size_alloc, World.size_setCell, World.size_drew, World.heap_drewN]); omega)); intro _ _))))
  have hbw1 : Below w.heap.size w w1 := by assumption
  have hbw2 : Below w.heap.size w w2 := by (repeat' (first | (with_reducible exact Below.refl _ _) | (with_reducible assumption) | (with_reducible refine Below.call ?_ ?_ (by with_reducible assumption)) | (with_reducible refine Below.alloc ?_ ?_ _) | (with_reducible refine Below.drew ?_) | (with_reducible refine below_drewN ?_ _) | (with_reducible refine Below.setCell ?_ ?_ _) | (with_reducible exact Nat.le_refl _) | omega | (simp only [World.size_alloc, World.size_setCell, World.size_drew, World.heap_drewN] at *; omega)))
  have hzw := hbw1.size
  have hzb := hK.r0.lt
  have hzr := hK.r1.lt
  have hzg := hK.r2.lt
  go_region
  go_wp2_with fail
  go_loopg [86] n (fun gk j wr => ∃ k : Nat, gk + k = n ∧ j = .int .i64 k ∧ Dl w wr b rb gb w2.heap.size n d f 0 (fun _ => ⟨0, 0, 0⟩) (fun _ => false) (fun j => if j < k then -1 else 0))
  case atStart =>
    refine ⟨0, by omega, rfl, ?_, ?_, ?_, by omega, by omega, by omega, by omega, by omega, by omega, by omega⟩
    · (repeat' (first | (with_reducible exact Below.refl _ _) | (with_reducible assumption) | (with_reducible refine Below.call ?_ ?_ (by with_reducible assumption)) | (with_reducible refine Below.alloc ?_ ?_ _) | (with_reducible refine Below.drew ?_) | (with_reducible refine below_drewN ?_ _) | (with_reducible refine Below.setCell ?_ ?_ _) | (with_reducible exact Nat.le_refl _) | omega | (simp only [World.size_alloc, World.size_setCell, World.size_drew, World.heap_drewN] at *; omega)))
    · exact hK.below (by (repeat' (first | (with_reducible exact Below.refl _ _) | (with_reducible assumption) | (with_reducible refine Below.call ?_ ?_ (by with_reducible assumption)) | (with_reducible refine Below.alloc ?_ ?_ _) | (with_reducible refine Below.drew ?_) | (with_reducible refine below_drewN ?_ _) | (with_reducible refine Below.setCell ?_ ?_ _) | (with_reducible exact Nat.le_refl _) | omega | (simp only [World.size_alloc, World.size_setCell, World.size_drew, World.heap_drewN] at *; omega))))
    · exact ((World.rowIs_made w2 (.int .i64 0) n 3).drew).congr (fun i _ => by simp)
  case round =>
    as_aux_lemma =>
      clear hmk2 hK
      obtain ⟨k, hk, rfl, P⟩ := hrel
      by_cases hkn : k < n
      · have hkz : (k : Int) < (n : Int) := by omega
        have v1 := P.row.cell hkn
        have v2 := P.row.frozen k
        simp only [Nat.lt_irrefl, if_false] at v1
        have HP := Lib.hid P
        clear P
        go_wp2_with fail
        go_roundg (n - (k + 1))
        case measure => omega
        case rel =>
          refine ⟨k + 1, by omega, by go_num, ?_⟩
          obtain ⟨p1, p2, p3, p4, p5, p6, p7, p8, p9, p10⟩ := HP.out
          refine ⟨?_, ⟨rowIs_other p2.r0 p4 _, rowIs_other p2.r1 p5 _, rowIs_other p2.r2 p6 _, p2.ne1, p2.ne2, p2.ne3⟩, (p3.set k _).congr (fun i hi => ?_), p4, p5, p6, p7, p8, p9, p10⟩
          · (repeat' (first | (with_reducible exact Below.refl _ _) | (with_reducible assumption) | (with_reducible refine Below.call ?_ ?_ (by with_reducible assumption)) | (with_reducible refine Below.alloc ?_ ?_ _) | (with_reducible refine Below.drew ?_) | (with_reducible refine below_drewN ?_ _) | (with_reducible refine Below.setCell ?_ ?_ _) | (with_reducible exact Nat.le_refl _) | omega | (simp only [World.size_alloc, World.size_setCell, World.size_drew, World.heap_drewN] at *; omega)))
          · by_cases e : i = k
            · subst e; rw [if_pos rfl, if_pos (by omega)]
            · rw [if_neg e]
              by_cases e2 : i < k
              · rw [if_pos e2, if_pos (by omega)]
              · rw [if_neg e2, if_neg (by omega)]
      · obtain rfl : k = n := by omega
        have P0 : Dl w wr b rb gb w2.heap.size k d f 0 (fun _ => ⟨0, 0, 0⟩) (fun _ => false) (fun _ => -1) := by
          obtain ⟨p1, p2, p3, p4, p5, p6, p7, p8, p9, p10⟩ := P
          exact ⟨p1, p2, p3.congr (fun i hi => by simp [hi]), p4, p5, p6, p7, p8, p9, p10⟩
        have HP := Lib.hid P0
        clear P P0
        go_wp2_with fail
        have S0 := sOk_start k l
        go_loopg [13, 15, 95] l.length (fun gk x13 x15 x95 wr => ∃ i : Nat, ∃ last : Int, ∃ R : Nat → Rd, ∃ H : Nat → Bool, ∃ hd : Nat → Int, gk + i = l.length ∧ x13 = .int .i64 last ∧ x15 = .int .i64 (heardN H k) ∧ x95 = .int .i64 i ∧ Dl w wr b rb gb w2.heap.size k d f last R H hd ∧ SOk k i l last R H hd)
        case atStart =>
          refine ⟨0, 0, fun _ => ⟨0, 0, 0⟩, fun _ => false, fun _ => -1, by omega, rfl, ?_, rfl, HP.out, S0⟩
          have e : heardN (fun _ => false) k = 0 := by unfold heardN; simp
          rw [e]; rfl
        case round =>
          as_aux_lemma =>
            clear S0 HP
            obtain ⟨i, last, R, H, hd, hi, rfl, rfl, rfl, P, S⟩ := hrel
            obtain ⟨wo, rfl⟩ : ∃ wo : World, wo = wr := ⟨_, rfl⟩
            by_cases hil : i < l.length
            · obtain ⟨c2, off2, ha2, hlt2, v0, v1, v2⟩ := (hs2.below (Nat.le_refl _) P.bel) i hil
              have ix2 := @ix_Rd a2 c2 off2 l.length cap2 i ha2 hil
              have hlt20 : c2 < w.heap.size := by
                obtain ⟨b2', off2', ha2', hblk', _⟩ := hs2 i hil
                rw [ha2] at ha2'; simp at ha2'; omega
              clear ha2
              have S1 := fun m => sOk_step S m hil
              have hgx : l[i]? = some l[i] := List.getElem?_eq_getElem hil
              generalize l[i] = x at *
              have HGX := Lib.hid hgx
              clear hgx
              by_cases hin : i < ns.length
              · obtain ⟨c1, off1, ha1, hlt1, y0⟩ := (hs1.below (Nat.le_refl _) P.bel) i hin
                have ix1 := @ix_Int a1 c1 off1 ns.length cap1 i ha1 hin
                clear ha1
                generalize ns[i] = m at *
                have HS1 := Lib.hid (S1 m)
                have HS := Lib.hid S
                have HP := Lib.hid P
                clear S1 S P
                go_upto_region 20 with (go_at_call 40; (with_reducible refine (c_refReadingErr _ _ _ _).mono ?_); rintro e w3 ⟨rfl, hb⟩; have hz := hb.size; (try simp only [World.size_alloc, World.size_setCell, World.size_drew, World.heap_drewN] at hz); (try have h_wo_0 : wo.heap.size < w3.heap.size := by omega); (try have e_wo_0 : ¬ wo.heap.size = w3.heap.size := by omega); (try have d_wo_0 : ¬ w3.heap.size = wo.heap.size := by omega); (try (refine bcUse (n := wo.heap.size) hb ?_ ?_; (focus ((try simp only [World.size_alloc, World.size_setCell, World.size_drew, World.heap_drewN]); omega)); intro _ _)); (try have h_bc2_0 : c2 < w3.heap.size := by omega); (try have e_bc2_0 : ¬ c2 = w3.heap.size := by omega); (try have d_bc2_0 : ¬ w3.heap.size = c2 := by omega); (try (refine bcUse (n := c2) hb ?_ ?_; (focus ((try simp only [World.size_alloc, World.size_setCell, World.size_drew, World.heap_drewN]); omega)); intro _ _)); (try have h_bc1_0 : c1 < w3.heap.size := by omega); (try have e_bc1_0 : ¬ c1 = w3.heap.size := by omega); (try have d_bc1_0 : ¬ w3.heap.size = c1 := by omega); (try (refine bcUse (n := c1) hb ?_ ?_; (focus ((try simp only [World.size_alloc, World.size_setCell, World.size_drew, World.heap_drewN]); omega)); intro _ _)))
                have hb3 : Below wo.heap.size wo w3 := by (repeat' (first | (with_reducible exact Below.refl _ _) | (with_reducible assumption) | (with_reducible refine Below.call ?_ ?_ (by with_reducible assumption)) | (with_reducible refine Below.alloc ?_ ?_ _) | (with_reducible refine Below.drew ?_) | (with_reducible refine below_drewN ?_ _) | (with_reducible refine Below.setCell ?_ ?_ _) | (with_reducible exact Nat.le_refl _) | omega | (simp only [World.size_alloc, World.size_setCell, World.size_drew, World.heap_drewN] at *; omega)))
                have t3 : w3.cell? ⟨wo.heap.size, 0, none⟩ = some (.int .i64 x.tk) := by go_simp
                go_cut [116] (fun x116 wc => x116 = .bool (numB k m) ∧ w3 = wc)
                case first =>
                  as_aux_lemma =>
                    by_cases hm0 : m < 0
                    · go_wp2_with fail
                      go_meet
                      exact ⟨by rw [numB_true (.inl hm0)], rfl⟩
                    · by_cases hm1 : (k : Int) ≤ m
                      · go_wp2_with fail
                        go_meet
                        exact ⟨by rw [numB_true (.inr hm1)], rfl⟩
                      · go_wp2_with fail
                        go_meet
                        exact ⟨by rw [numB_false (by omega)], rfl⟩
                case rest =>
                  as_aux_lemma =>
                    obtain ⟨rfl, rfl⟩ := hcut
                    go_upto_if 116 with fail
                    go_cut [20] (fun x20 wc => x20 = .int .i64 (fdErr k last m x) ∧ w3 = wc)
                    case first =>
                      as_aux_lemma =>
                        by_cases hm : m < 0 ∨ (k : Int) ≤ m
                        · have t1 : numB k m = true := numB_true hm
                          have HE : Hid (fdErr k last m x = 1) := Lib.hid (by unfold fdErr; rw [if_pos hm])
                          clear hm
                          simp only [t1]
                          go_wp2_with fail
                          go_meet
                          exact ⟨by rw [HE.out], rfl⟩
                        · have t1 : numB k m = false := numB_false hm
                          simp only [t1]
                          by_cases hr : readErr x.tk x.lo x.hi = 0
                          · have t2 : (readErr x.tk x.lo x.hi == 0) = true := by simp [hr]
                            have HR := Lib.hid hr
                            by_cases hl : x.tk < last
                            · have HE : Hid (fdErr k last m x = 9) := Lib.hid (by unfold fdErr; rw [if_neg hm, if_neg (fun q => q hr), if_pos hl])
                              clear hm hr
                              go_wp2_with fail
                              go_meet
                              exact ⟨by rw [HE.out], rfl⟩
                            · have HE : Hid (fdErr k last m x = 0) := Lib.hid (by unfold fdErr; rw [if_neg hm, if_neg (fun q => q hr), if_neg hl])
                              clear hm hr
                              go_wp2_with fail
                              go_meet
                              exact ⟨by rw [HE.out, HR.out], rfl⟩
                          · have t2 : (readErr x.tk x.lo x.hi == 0) = false := by simp [hr]
                            have HE : Hid (fdErr k last m x = readErr x.tk x.lo x.hi) := Lib.hid (by unfold fdErr; rw [if_neg hm, if_pos hr])
                            clear hm hr
                            go_wp2_with fail
                            go_meet
                            exact ⟨by rw [HE.out], rfl⟩
                    case rest =>
                      as_aux_lemma =>
                        obtain ⟨rfl, rfl⟩ := hcut
                        have P3 := HP.out.below hb3
                        have z3 := hb3.size
                        have HB3 := Lib.hid hb3
                        have HQ := Lib.hid P3.keep
                        have zb := P3.keep.r0.lt
                        have zr := P3.keep.r1.lt
                        have zg := P3.keep.r2.lt
                        clear hb3 P3
                        go_upto_if 132 with (go_at_call 41; (with_reducible refine (c_feed _ _ _ _ _ _ _ _ _ m x _ HQ.out n40).mono ?_); rintro e w4 ⟨rfl, hT, hK4⟩)
                        have z4 := hT.size
                        have P3 := HP.out.below HB3.out
                        have g3 := P3.row.lt
                        have hwr : w.heap.size ≤ wo.heap.size := HP.out.bel.size
                        have zb' := HP.out.keep.r0.lt
                        have zr' := HP.out.keep.r1.lt
                        have zg' := HP.out.keep.r2.lt
                        have zw' := HP.out.row.lt
                        have hle := heardN_le H k
                        have t0 : w4.cell? ⟨wo.heap.size, 0, none⟩ = some (.int .i64 x.tk) := (hT.cell (k := wo.heap.size) (by omega) (by omega) (by omega) (by omega)).trans t3
                        have row4 : w4.rowIs w2.heap.size 3 k (fun j => .int .i64 (hd j)) := P3.row.of_block (hT.block w2.heap.size g3 P3.nb1.symm P3.nb2.symm P3.nb3.symm)
                        have bel4 : Below w.heap.size w w4 := Touch3.below' P3.bel P3.b1 P3.b2 P3.b3 hT
                        have HK4 := Lib.hid hK4
                        have HR4 := Lib.hid row4
                        clear hT P3 hK4
                        go_cut [13, 15] (fun x13 x15 wc => x13 = .int .i64 (stLast k last m x) ∧ x15 = .int .i64 (heardN (stH k last m x H) k) ∧ Dl w wc b rb gb w2.heap.size k d f (stLast k last m x) (stR k last m x R) (stH k last m x H) (stHd k last m x i hd) ∧ w4.heap.size = wc.heap.size ∧ wc.cell? ⟨wo.heap.size, 0, none⟩ = some (.int .i64 x.tk))
                        case first =>
                          as_aux_lemma =>
                            by_cases hf0 : fdErr k last m x = 0
                            · obtain ⟨q1, q2, q3, q4⟩ := fdErr_zero hf0
                              obtain ⟨mm, rfl⟩ : ∃ mm : Nat, m = (mm : Int) := ⟨m.toNat, by omega⟩
                              have hmk : mm < k := by omega
                              have y1 := row4.cell hmk
                              have y2 := row4.frozen mm
                              have b0 : (fdErr k last mm x == 0) = true := by simp [hf0]
                              have HF := Lib.hid hf0
                              clear hf0 row4
                              simp only [b0]
                              cases hH : H mm with
                              | true =>
                                obtain ⟨m', n1, n2, n3⟩ := HS.out.yes mm hmk hH
                                rw [n2] at y1
                                have hl2 : (stLast k last mm x) = x.tk := by unfold stLast; rw [if_pos HF.out]
                                have hh2 : heardN (stH k last mm x H) k = heardN H k := by unfold stH; rw [if_pos HF.out]; exact heardN_old H hmk hH
                                have HL2 := Lib.hid hl2
                                have HH2 := Lib.hid hh2
                                have HH := Lib.hid hH
                                clear n2 n3 hH hl2 hh2
                                go_wp2_with fail
                                go_meet
                                refine ⟨by rw [HL2.out], by rw [HH2.out], ?_, by simp, by go_simp⟩
                                have e : stHd k last (mm : Int) x i hd = upd hd mm (i : Int) := by unfold stHd; rw [if_pos HF.out]; rfl
                                rw [e]
                                exact dl_set HP.out bel4 HK4.out HR4.out mm (i : Int)
                              | false =>
                                have n2 := HS.out.no mm hmk hH
                                rw [n2] at y1
                                have hl2 : (stLast k last mm x) = x.tk := by unfold stLast; rw [if_pos HF.out]
                                have hh2 : heardN (stH k last mm x H) k = heardN H k + 1 := by unfold stH; rw [if_pos HF.out]; exact heardN_new H hmk hH
                                have HL2 := Lib.hid hl2
                                have HH2 := Lib.hid hh2
                                have HH := Lib.hid hH
                                clear n2 hH hl2 hh2
                                go_wp2_with fail
                                go_meet
                                refine ⟨by rw [HL2.out], by rw [HH2.out]; go_num, ?_, by simp, by go_simp⟩
                                have e : stHd k last (mm : Int) x i hd = upd hd mm (i : Int) := by unfold stHd; rw [if_pos HF.out]; rfl
                                rw [e]
                                exact dl_set HP.out bel4 HK4.out HR4.out mm (i : Int)
                            · have b0 : (fdErr k last m x == 0) = false := by simp [hf0]
                              have HF := Lib.hid hf0
                              clear hf0 row4
                              simp only [b0]
                              go_wp2_with fail
                              go_meet
                              have el : stLast k last m x = last := by unfold stLast; rw [if_neg HF.out]
                              have eh : stH k last m x H = H := by unfold stH; rw [if_neg HF.out]
                              have ed : stHd k last m x i hd = hd := by unfold stHd; rw [if_neg HF.out]
                              refine ⟨by rw [el], by rw [eh], ?_, rfl, t0⟩
                              rw [ed]
                              exact dl_keep HP.out bel4 HK4.out HR4.out
                        case rest =>
                          as_aux_lemma =>
                            obtain ⟨rfl, rfl, P5, hz5, t5⟩ := hcut
                            obtain ⟨wd, rfl⟩ : ∃ wd : World, wd = wc := ⟨_, rfl⟩
                            have HS5 := Lib.hid HS1.out
                            generalize stLast k last m x = last' at *
                            generalize stR k last m x R = R' at *
                            generalize stH k last m x H = H' at *
                            generalize stHd k last m x i hd = hd' at *
                            clear HS1 HS HP HB3 HQ HK4 HR4 bel4 t0 t3 zb' zr' zg' zb zr zg row4
                            obtain ⟨q, hq⟩ : ∃ q, IntKind.i64.wrap (x.tk + 5) = q := ⟨_, rfl⟩
                            obtain ⟨lo, hi, e, ho⟩ : ∃ lo hi e, rdOut k d f last' q R' H' = (lo, hi, e) := ⟨_, _, _, rfl⟩
                            have HO := Lib.hid ho
                            have HP := Lib.hid P5
                            have ltw : wo.heap.size < wd.heap.size := by omega
                            have zb := P5.keep.r0.lt
                            have zr := P5.keep.r1.lt
                            have zg := P5.keep.r2.lt
                            have zw := P5.row.lt
                            clear ho P5
                            go_upto_block 4 with (go_at_call 42; (with_reducible refine (c_read _ _ _ _ _ _ _ _ _ _ lo hi e _ HP.out.keep n40 HD.out (by omega) (by omega) HS5.out.ok HO.out).mono ?_); rintro e w5 ⟨rfl, hb⟩; have hz := hb.size; (try simp only [World.size_alloc, World.size_setCell, World.size_drew, World.heap_drewN] at hz); (try have h_wd_0 : wd.heap.size < w5.heap.size := by omega); (try have e_wd_0 : ¬ wd.heap.size = w5.heap.size := by omega); (try have d_wd_0 : ¬ w5.heap.size = wd.heap.size := by omega); (try (refine bcUse (n := wd.heap.size) hb ?_ ?_; (focus ((try simp only [World.size_alloc, World.size_setCell, World.size_drew, World.heap_drewN]); omega)); intro _ _)); (try have h_wo_0 : wo.heap.size < w5.heap.size := by omega); (try have e_wo_0 : ¬ wo.heap.size = w5.heap.size := by omega); (try have d_wo_0 : ¬ w5.heap.size = wo.heap.size := by omega); (try (refine bcUse (n := wo.heap.size) hb ?_ ?_; (focus ((try simp only [World.size_alloc, World.size_setCell, World.size_drew, World.heap_drewN]); omega)); intro _ _)); (try have h_bb_0 : b < w5.heap.size := by omega); (try have e_bb_0 : ¬ b = w5.heap.size := by omega); (try have d_bb_0 : ¬ w5.heap.size = b := by omega); (try (refine bcUse (n := b) hb ?_ ?_; (focus ((try simp only [World.size_alloc, World.size_setCell, World.size_drew, World.heap_drewN]); omega)); intro _ _)); (try have h_brb_0 : rb < w5.heap.size := by omega); (try have e_brb_0 : ¬ rb = w5.heap.size := by omega); (try have d_brb_0 : ¬ w5.heap.size = rb := by omega); (try (refine bcUse (n := rb) hb ?_ ?_; (focus ((try simp only [World.size_alloc, World.size_setCell, World.size_drew, World.heap_drewN]); omega)); intro _ _)); (try have h_bgb_0 : gb < w5.heap.size := by omega); (try have e_bgb_0 : ¬ gb = w5.heap.size := by omega); (try have d_bgb_0 : ¬ w5.heap.size = gb := by omega); (try (refine bcUse (n := gb) hb ?_ ?_; (focus ((try simp only [World.size_alloc, World.size_setCell, World.size_drew, World.heap_drewN]); omega)); intro _ _)))
                            have hb5 : Below wd.heap.size wd w5 := by (repeat' (first | (with_reducible exact Below.refl _ _) | (with_reducible assumption) | (with_reducible refine Below.call ?_ ?_ (by with_reducible assumption)) | (with_reducible refine Below.alloc ?_ ?_ _) | (with_reducible refine Below.drew ?_) | (with_reducible refine below_drewN ?_ _) | (with_reducible refine Below.setCell ?_ ?_ _) | (with_reducible exact Nat.le_refl _) | omega | (simp only [World.size_alloc, World.size_setCell, World.size_drew, World.heap_drewN] at *; omega)))
                            have z5 : wo.heap.size < w5.heap.size := by have := hb5.size; omega
                            have hle' := heardN_le H' k
                            have P6 := (HP.out.below hb5).below (Below.alloc (Below.refl _ _) (Nat.le_refl _) (.cells #[.int .i64 lo, .int .i64 hi] 25))
                            have HP6 := Lib.hid P6
                            clear P6
                            go_cut [23] (fun x23 wc => x23 = .int .i64 (yErr q last' (heardN H' k) f) ∧ Dl w wc b rb gb w2.heap.size k d f last' R' H' hd' ∧ SpAt wc w5.heap.size lo hi ∧ wc.cell? ⟨wo.heap.size, 0, none⟩ = some (.int .i64 x.tk))
                            case first =>
                              as_aux_lemma =>
                                by_cases g0 : q < 0
                                · have HE : Hid (yErr q last' (heardN H' k) f = 3) := Lib.hid (by unfold yErr; rw [if_pos (.inl g0)])
                                  go_wp2_with fail
                                  go_meet
                                  refine ⟨by rw [HE.out], HP6.out, ?_, by go_simp⟩
                                  constructor <;> go_simp
                                · by_cases g1 : 1000000000000 < q
                                  · have HE : Hid (yErr q last' (heardN H' k) f = 3) := Lib.hid (by unfold yErr; rw [if_pos (.inr g1)])
                                    go_wp2_with fail
                                    go_meet
                                    refine ⟨by rw [HE.out], HP6.out, ?_, by go_simp⟩
                                    constructor <;> go_simp
                                  · by_cases g2 : q < last'
                                    · have HE : Hid (yErr q last' (heardN H' k) f = 9) := Lib.hid (by unfold yErr; rw [if_neg (by omega), if_pos g2])
                                      go_wp2_with fail
                                      go_meet
                                      refine ⟨by rw [HE.out], HP6.out, ?_, by go_simp⟩
                                      constructor <;> go_simp
                                    · by_cases g3 : (heardN H' k : Int) ≤ 2 * f
                                      · have HE : Hid (yErr q last' (heardN H' k) f = 10) := Lib.hid (by unfold yErr; rw [if_neg (by omega), if_neg g2, if_pos g3])
                                        go_wp2_with fail
                                        go_meet
                                        refine ⟨by rw [HE.out], HP6.out, ?_, by go_simp⟩
                                        constructor <;> go_simp
                                      · have HE : Hid (yErr q last' (heardN H' k) f = 0) := Lib.hid (by unfold yErr; rw [if_neg (by omega), if_neg g2, if_neg g3])
                                        go_wp2_with fail
                                        go_meet
                                        refine ⟨by rw [HE.out], HP6.out, ?_, by go_simp⟩
                                        constructor <;> go_simp
                            case rest =>
                              as_aux_lemma =>
                                obtain ⟨rfl, P7, hSp, t7⟩ := hcut
                                obtain ⟨we, rfl⟩ : ∃ we : World, we = wc := ⟨_, rfl⟩
                                have HP := Lib.hid P7
                                have HSp := Lib.hid hSp
                                have zb := P7.keep.r0.lt
                                have zr := P7.keep.r1.lt
                                have zg := P7.keep.r2.lt
                                have zw := P7.row.lt
                                have zs := hSp.lt
                                have ltw : wo.heap.size < we.heap.size := by omega
                                obtain ⟨s0, s1, s2, s3, s4⟩ := hSp
                                clear P7 hb5 HP6 hle
                                by_cases hy : yErr q last' (heardN H' k) f = 0
                                · have ho := HO.out
                                  unfold rdOut at ho
                                  rw [if_neg (fun a => a hy)] at ho
                                  obtain ⟨yp, yq, is, hw⟩ : ∃ yp yq is, rdRes k d f q R' H' = (yp, yq, is) := ⟨_, _, _, rfl⟩
                                  rw [hw] at ho
                                  simp only at ho
                                  unfold rdRes at hw
                                  have HW := Lib.hid hw
                                  have HR := Lib.hid ho
                                  clear ho hw HO
                                  generalize yErr q last' (heardN H' k) f = y at *
                                  subst hy
                                  obtain ⟨i0, hi0, hz0, hz1, hz2⟩ := info_parts info_span
                                  go_wp2_with (go_at_call 43; (with_reducible refine (c_heardK _ _ _ _ _ _ _ _ _ _ HP.out.keep n40).mono ?_); rintro e w6 ⟨rfl, rfl⟩)
                                  go_loopg [25, 186] k (fun gk x25 j wr => ∃ c : Nat, gk + c = k ∧ j = .int .i64 c ∧ Below we.heap.size we wr ∧ wr.ownsRow we.heap.size 25 2 x25 (kept R' H' c).length (spCells ((kept R' H' c).map (rdMv d q))))
                                  case atStart => exact ⟨0, by omega, rfl, Below.refl _ _, World.ownsRow_nil _ _ _ _⟩
                                  case round =>
                                    as_aux_lemma =>
                                      obtain ⟨c, hcg, rfl, hbv, hown⟩ := hrel
                                      have PV := HP.out.below hbv
                                      have zv := hbv.size
                                      by_cases hck : c < k
                                      · have hcz : (c : Int) < (k : Int) := by omega
                                        have r0 := PV.row.cell hck
                                        have HW2 := Lib.hid hown
                                        have hkl := kept_len R' H' c
                                        have t7' : wr.cell? ⟨wo.heap.size, 0, none⟩ = some (.int .i64 x.tk) := (hbv.cell (p := ⟨wo.heap.size, 0, none⟩) ltw).trans t7
                                        clear hown
                                        cases hH : H' c with
                                        | true =>
                                          obtain ⟨mm, q1, q2, q3⟩ := HS5.out.yes c hck hH
                                          rw [q2] at r0
                                          obtain ⟨hml, q4⟩ := List.getElem?_eq_some_iff.1 q3
                                          obtain ⟨c3, off3, ha3, hlt3, v0, v1, v2⟩ := (hs2.below (Nat.le_refl _) PV.bel) mm hml
                                          have ix3 := @ix_Rd a2 c3 off3 l.length cap2 mm ha3 hml
                                          have hlt30 : c3 < w.heap.size := by
                                            obtain ⟨b2', off2', ha2', hblk', _⟩ := hs2 mm hml
                                            rw [ha3] at ha2'; simp at ha2'; omega
                                          rw [q4] at v0 v1 v2
                                          have hks := kept_yes (R := R') hH
                                          have HK := Lib.hid hks
                                          clear hks q2 q3 q4 hH ha3 PV
                                          generalize R' c = xx at *
                                          have m1 : ¬ c3 = wr.heap.size := by omega
                                          have m2 : ¬ wr.heap.size = c3 := by omega
                                          have m3 : ¬ wo.heap.size = wr.heap.size := by omega
                                          have m4 : ¬ wr.heap.size = wo.heap.size := by omega
                                          have m5 : wo.heap.size < wr.heap.size := by omega
                                          go_wp2_with fail
                                          go_region_held3 (fun w' => w'.cell? ⟨c3, off3 + mm * 3, none⟩ = some (.int .i64 xx.tk) ∧ w'.cell? ⟨c3, off3 + mm * 3 + 1, none⟩ = some (.int .i64 xx.lo) ∧ w'.cell? ⟨c3, off3 + mm * 3 + 2, none⟩ = some (.int .i64 xx.hi) ∧ w'.cell? ⟨wo.heap.size, 0, none⟩ = some (.int .i64 x.tk)) (go_keep) (first | (go_at_call 44; (with_reducible refine (c_refMoved _ _ _ _ _ _).mono ?_); rintro e w8 ⟨rfl, hb⟩; have hz := hb.size; (try simp only [World.size_alloc, World.size_setCell, World.size_drew, World.heap_drewN] at hz); (try have h_wr_0 : wr.heap.size < w8.heap.size := by omega); (try have e_wr_0 : ¬ wr.heap.size = w8.heap.size := by omega); (try have d_wr_0 : ¬ w8.heap.size = wr.heap.size := by omega); (try (refine bcUse (n := wr.heap.size) hb ?_ ?_; (focus ((try simp only [World.size_alloc, World.size_setCell, World.size_drew, World.heap_drewN]); omega)); intro _ _)); (try have h_wr_1 : wr.heap.size + 1 < w8.heap.size := by omega); (try have e_wr_1 : ¬ wr.heap.size + 1 = w8.heap.size := by omega); (try have d_wr_1 : ¬ w8.heap.size = wr.heap.size + 1 := by omega); (try (refine bcUse (n := wr.heap.size + 1) hb ?_ ?_; (focus ((try simp only [World.size_alloc, World.size_setCell, World.size_drew, World.heap_drewN]); omega)); intro _ _)); (try have h_wo_0 : wo.heap.size < w8.heap.size := by omega); (try have e_wo_0 : ¬ wo.heap.size = w8.heap.size := by omega); (try have d_wo_0 : ¬ w8.heap.size = wo.heap.size := by omega); (try (refine bcUse (n := wo.heap.size) hb ?_ ?_; (focus ((try simp only [World.size_alloc, World.size_setCell, World.size_drew, World.heap_drewN]); omega)); intro _ _)); (try have h_we_0 : we.heap.size < w8.heap.size := by omega); (try have e_we_0 : ¬ we.heap.size = w8.heap.size := by omega); (try have d_we_0 : ¬ w8.heap.size = we.heap.size := by omega); (try (refine bcUse (n := we.heap.size) hb ?_ ?_; (focus ((try simp only [World.size_alloc, World.size_setCell, World.size_drew, World.heap_drewN]); omega)); intro _ _)); (try have h_bc3_0 : c3 < w8.heap.size := by omega); (try have e_bc3_0 : ¬ c3 = w8.heap.size := by omega); (try have d_bc3_0 : ¬ w8.heap.size = c3 := by omega); (try (refine bcUse (n := c3) hb ?_ ?_; (focus ((try simp only [World.size_alloc, World.size_setCell, World.size_drew, World.heap_drewN]); omega)); intro _ _))))
                                          · go_wp2_with (at_builtin; refine wpList_append_own _ rfl (.tmp 204) (.tmp 206) 22 rfl we.heap.size 25 i0 (.agg #[.int .i64 0, .int .i64 0]) 2 16 Try.underlying22 hi0 hz0 hz1 hz2 rfl (by decide) _ _ _ rfl (own_below HW2.out (by (repeat' (first | (with_reducible exact Below.refl _ _) | (with_reducible assumption) | (with_reducible refine Below.call ?_ ?_ (by with_reducible assumption)) | (with_reducible refine Below.alloc ?_ ?_ _) | (with_reducible refine Below.drew ?_) | (with_reducible refine below_drewN ?_ _) | (with_reducible refine Below.setCell ?_ ?_ _) | (with_reducible exact Nat.le_refl _) | omega | (simp only [World.size_alloc, World.size_setCell, World.size_drew, World.heap_drewN] at *; omega))))) ⟨w8.heap.size + 1, 0, none⟩ 1 1 [.int .i64 (mvLo d xx.tk xx.lo xx.hi q), .int .i64 (mvHi d xx.tk xx.lo xx.hi q)] rfl rfl ?c1a ?c2a ?c3a ?c4a ?c5a ?_)
                                            case c1a =>
                                              intro j u hj
                                              match j, hj with
                                              | 0, hj => simp at hj; subst hj; go_simp
                                              | 1, hj => simp at hj; subst hj; simp only [Addr.add]; go_simp
                                            case c2a => intro u hu; simp at hu; rcases hu with rfl | rfl <;> rfl
                                            case c3a => unfold maxLen; omega
                                            case c4a => omega
                                            case c5a => simp; omega
                                            intro v' w9 hown' hgrow hnil
                                            have hb9 : Below we.heap.size we w9 := by
                                              refine Below.grown ?_ hgrow ?_ ?_
                                              · (repeat' (first | (with_reducible exact Below.refl _ _) | (with_reducible assumption) | (with_reducible refine Below.call ?_ ?_ (by with_reducible assumption)) | (with_reducible refine Below.alloc ?_ ?_ _) | (with_reducible refine Below.drew ?_) | (with_reducible refine below_drewN ?_ _) | (with_reducible refine Below.setCell ?_ ?_ _) | (with_reducible exact Nat.le_refl _) | omega | (simp only [World.size_alloc, World.size_setCell, World.size_drew, World.heap_drewN] at *; omega)))
                                              · simp; omega
                                              · intro g hg
                                                exact (HW2.out.lt g hg).1
                                            have hown2 : w9.ownsRow we.heap.size 25 2 v' (kept R' H' (c + 1)).length (spCells ((kept R' H' (c + 1)).map (rdMv d q))) := by
                                              rw [HK.out, List.map_append, spCells_append, List.length_append]; exact hown'
                                            clear hown' hgrow hnil
                                            go_wp2_with fail
                                            go_roundg (k - (c + 1))
                                            case measure => omega
                                            case rel => exact ⟨c + 1, by omega, by go_num, hb9, hown2⟩
                                          · go_wp2_with (at_builtin; refine wpList_append_own _ rfl (.tmp 204) (.tmp 206) 22 rfl we.heap.size 25 i0 (.agg #[.int .i64 0, .int .i64 0]) 2 16 Try.underlying22 hi0 hz0 hz1 hz2 rfl (by decide) _ _ _ rfl (own_below HW2.out (by (repeat' (first | (with_reducible exact Below.refl _ _) | (with_reducible assumption) | (with_reducible refine Below.call ?_ ?_ (by with_reducible assumption)) | (with_reducible refine Below.alloc ?_ ?_ _) | (with_reducible refine Below.drew ?_) | (with_reducible refine below_drewN ?_ _) | (with_reducible refine Below.setCell ?_ ?_ _) | (with_reducible exact Nat.le_refl _) | omega | (simp only [World.size_alloc, World.size_setCell, World.size_drew, World.heap_drewN] at *; omega))))) ⟨w8.heap.size, 0, none⟩ 1 1 [.int .i64 (mvLo d xx.tk xx.lo xx.hi q), .int .i64 (mvHi d xx.tk xx.lo xx.hi q)] rfl rfl ?c1b ?c2b ?c3b ?c4b ?c5b ?_)
                                            case c1b =>
                                              intro j u hj
                                              match j, hj with
                                              | 0, hj => simp at hj; subst hj; go_simp
                                              | 1, hj => simp at hj; subst hj; simp only [Addr.add]; go_simp
                                            case c2b => intro u hu; simp at hu; rcases hu with rfl | rfl <;> rfl
                                            case c3b => unfold maxLen; omega
                                            case c4b => omega
                                            case c5b => simp; omega
                                            intro v' w9 hown' hgrow hnil
                                            have hb9 : Below we.heap.size we w9 := by
                                              refine Below.grown ?_ hgrow ?_ ?_
                                              · (repeat' (first | (with_reducible exact Below.refl _ _) | (with_reducible assumption) | (with_reducible refine Below.call ?_ ?_ (by with_reducible assumption)) | (with_reducible refine Below.alloc ?_ ?_ _) | (with_reducible refine Below.drew ?_) | (with_reducible refine below_drewN ?_ _) | (with_reducible refine Below.setCell ?_ ?_ _) | (with_reducible exact Nat.le_refl _) | omega | (simp only [World.size_alloc, World.size_setCell, World.size_drew, World.heap_drewN] at *; omega)))
                                              · simp; omega
                                              · intro g hg
                                                exact (HW2.out.lt g hg).1
                                            have hown2 : w9.ownsRow we.heap.size 25 2 v' (kept R' H' (c + 1)).length (spCells ((kept R' H' (c + 1)).map (rdMv d q))) := by
                                              rw [HK.out, List.map_append, spCells_append, List.length_append]; exact hown'
                                            clear hown' hgrow hnil
                                            go_wp2_with fail
                                            go_roundg (k - (c + 1))
                                            case measure => omega
                                            case rel => exact ⟨c + 1, by omega, by go_num, hb9, hown2⟩
                                        | false =>
                                          have q2 := HS5.out.no c hck hH
                                          rw [q2] at r0
                                          have hks := kept_no (R := R') hH
                                          have HK := Lib.hid hks
                                          clear hks q2 hH PV
                                          go_wp2_with fail
                                          go_roundg (k - (c + 1))
                                          case measure => omega
                                          case rel => exact ⟨c + 1, by omega, by go_num, hbv, by rw [HK.out]; exact HW2.out⟩
                                      · obtain rfl : c = k := by omega
                                        have hlen := heardN_kept R' H' c
                                        rw [← List.length_map (f := rdMv d q)] at hown
                                        obtain ⟨aa, cap, hv, hcap, hsl⟩ := own_sp hown
                                        rw [List.length_map] at hv
                                        subst hv
                                        have HSL := Lib.hid hsl
                                        have hl1 : (kept R' H' c).length ≤ heardN H' c := by omega
                                        have hl2 : heardN H' c ≤ (kept R' H' c).length := by omega
                                        have e0 : wr.cell? ⟨w5.heap.size, 0, none⟩ = some (.int .i64 lo) := (hbv.cell (p := ⟨w5.heap.size, 0, none⟩) zs).trans s1
                                        have e1 : wr.cell? ⟨w5.heap.size, 1, none⟩ = some (.int .i64 hi) := (hbv.cell (p := ⟨w5.heap.size, 1, none⟩) zs).trans s2
                                        have zs' : w5.heap.size < wr.heap.size := by omega
                                        have hlm : ((kept R' H' c).map (rdMv d q)).length ≤ 40 := by rw [List.length_map]; omega
                                        have HPV := Lib.hid PV
                                        clear hsl hown hlen PV s0 s1 s2 s3 s4
                                        have z9 : IntKind.i64.wrap ((heardN H' c : Int) - f) = (heardN H' c : Int) - f := IntWalk.i64_in _ (by omega)
                                        have hr := HR.out
                                        cases is with
                                        | false =>
                                          simp only [Bool.false_eq_true, if_false, Prod.mk.injEq] at hr
                                          obtain ⟨rfl, rfl, rfl⟩ := hr
                                          go_wp2_with (first | (go_at_call 22; (with_reducible refine (c_refWithin_len _ _ _ _ _ _ (List.length_map _) hcap (by omega) HSL.out _ _ _ HW.out).mono ?_); rintro e w8 ⟨rfl, hb⟩; have hz := hb.size; (try simp only [World.size_alloc, World.size_setCell, World.size_drew, World.heap_drewN] at hz); (try have h_wr_0 : wr.heap.size < w8.heap.size := by omega); (try have e_wr_0 : ¬ wr.heap.size = w8.heap.size := by omega); (try have d_wr_0 : ¬ w8.heap.size = wr.heap.size := by omega); (try (refine bcUse (n := wr.heap.size) hb ?_ ?_; (focus ((try simp only [World.size_alloc, World.size_setCell, World.size_drew, World.heap_drewN]); omega)); intro _ _)); (try have h_we_0 : we.heap.size < w8.heap.size := by omega); (try have e_we_0 : ¬ we.heap.size = w8.heap.size := by omega); (try have d_we_0 : ¬ w8.heap.size = we.heap.size := by omega); (try (refine bcUse (n := we.heap.size) hb ?_ ?_; (focus ((try simp only [World.size_alloc, World.size_setCell, World.size_drew, World.heap_drewN]); omega)); intro _ _)); (try have h_wo_0 : wo.heap.size < w8.heap.size := by omega); (try have e_wo_0 : ¬ wo.heap.size = w8.heap.size := by omega); (try have d_wo_0 : ¬ w8.heap.size = wo.heap.size := by omega); (try (refine bcUse (n := wo.heap.size) hb ?_ ?_; (focus ((try simp only [World.size_alloc, World.size_setCell, World.size_drew, World.heap_drewN]); omega)); intro _ _)); (try have h_w5_0 : w5.heap.size < w8.heap.size := by omega); (try have e_w5_0 : ¬ w5.heap.size = w8.heap.size := by omega); (try have d_w5_0 : ¬ w8.heap.size = w5.heap.size := by omega); (try (refine bcUse (n := w5.heap.size) hb ?_ ?_; (focus ((try simp only [World.size_alloc, World.size_setCell, World.size_drew, World.heap_drewN]); omega)); intro _ _))) | (go_at_call 18; (with_reducible refine (c_noneD _ _).mono ?_); rintro e w9 ⟨rfl, hb⟩; have hz := hb.size; (try simp only [World.size_alloc, World.size_setCell, World.size_drew, World.heap_drewN] at hz); (try have h_wr_0 : wr.heap.size < w9.heap.size := by omega); (try have e_wr_0 : ¬ wr.heap.size = w9.heap.size := by omega); (try have d_wr_0 : ¬ w9.heap.size = wr.heap.size := by omega); (try (refine bcUse (n := wr.heap.size) hb ?_ ?_; (focus ((try simp only [World.size_alloc, World.size_setCell, World.size_drew, World.heap_drewN]); omega)); intro _ _)); (try have h_we_0 : we.heap.size < w9.heap.size := by omega); (try have e_we_0 : ¬ we.heap.size = w9.heap.size := by omega); (try have d_we_0 : ¬ w9.heap.size = we.heap.size := by omega); (try (refine bcUse (n := we.heap.size) hb ?_ ?_; (focus ((try simp only [World.size_alloc, World.size_setCell, World.size_drew, World.heap_drewN]); omega)); intro _ _)); (try have h_wo_0 : wo.heap.size < w9.heap.size := by omega); (try have e_wo_0 : ¬ wo.heap.size = w9.heap.size := by omega); (try have d_wo_0 : ¬ w9.heap.size = wo.heap.size := by omega); (try (refine bcUse (n := wo.heap.size) hb ?_ ?_; (focus ((try simp only [World.size_alloc, World.size_setCell, World.size_drew, World.heap_drewN]); omega)); intro _ _)); (try have h_w5_0 : w5.heap.size < w9.heap.size := by omega); (try have e_w5_0 : ¬ w5.heap.size = w9.heap.size := by omega); (try have d_w5_0 : ¬ w9.heap.size = w5.heap.size := by omega); (try (refine bcUse (n := w5.heap.size) hb ?_ ?_; (focus ((try simp only [World.size_alloc, World.size_setCell, World.size_drew, World.heap_drewN]); omega)); intro _ _)); (try have h_w8_0 : w8.heap.size < w9.heap.size := by omega); (try have e_w8_0 : ¬ w8.heap.size = w9.heap.size := by omega); (try have d_w8_0 : ¬ w9.heap.size = w8.heap.size := by omega); (try (refine bcUse (n := w8.heap.size) hb ?_ ?_; (focus ((try simp only [World.size_alloc, World.size_setCell, World.size_drew, World.heap_drewN]); omega)); intro _ _))))
                                          go_roundg (l.length - (i + 1))
                                          case measure => omega
                                          case rel =>
                                            refine ⟨i + 1, last', R', H', hd', by omega, rfl, rfl, by go_num, HPV.out.below ?_, HS5.out⟩
                                            (repeat' (first | (with_reducible exact Below.refl _ _) | (with_reducible assumption) | (with_reducible refine Below.call ?_ ?_ (by with_reducible assumption)) | (with_reducible refine Below.alloc ?_ ?_ _) | (with_reducible refine Below.drew ?_) | (with_reducible refine below_drewN ?_ _) | (with_reducible refine Below.setCell ?_ ?_ _) | (with_reducible exact Nat.le_refl _) | omega | (simp only [World.size_alloc, World.size_setCell, World.size_drew, World.heap_drewN] at *; omega)))
                                        | true =>
                                          simp only [if_true, Prod.mk.injEq] at hr
                                          obtain ⟨rfl, rfl, rfl⟩ := hr
                                          go_wp2_with (first | (go_at_call 22; (with_reducible refine (c_refWithin_len _ _ _ _ _ _ (List.length_map _) hcap (by omega) HSL.out _ _ _ HW.out).mono ?_); rintro e w8 ⟨rfl, hb⟩; have hz := hb.size; (try simp only [World.size_alloc, World.size_setCell, World.size_drew, World.heap_drewN] at hz); (try have h_wr_0 : wr.heap.size < w8.heap.size := by omega); (try have e_wr_0 : ¬ wr.heap.size = w8.heap.size := by omega); (try have d_wr_0 : ¬ w8.heap.size = wr.heap.size := by omega); (try (refine bcUse (n := wr.heap.size) hb ?_ ?_; (focus ((try simp only [World.size_alloc, World.size_setCell, World.size_drew, World.heap_drewN]); omega)); intro _ _)); (try have h_we_0 : we.heap.size < w8.heap.size := by omega); (try have e_we_0 : ¬ we.heap.size = w8.heap.size := by omega); (try have d_we_0 : ¬ w8.heap.size = we.heap.size := by omega); (try (refine bcUse (n := we.heap.size) hb ?_ ?_; (focus ((try simp only [World.size_alloc, World.size_setCell, World.size_drew, World.heap_drewN]); omega)); intro _ _)); (try have h_wo_0 : wo.heap.size < w8.heap.size := by omega); (try have e_wo_0 : ¬ wo.heap.size = w8.heap.size := by omega); (try have d_wo_0 : ¬ w8.heap.size = wo.heap.size := by omega); (try (refine bcUse (n := wo.heap.size) hb ?_ ?_; (focus ((try simp only [World.size_alloc, World.size_setCell, World.size_drew, World.heap_drewN]); omega)); intro _ _)); (try have h_w5_0 : w5.heap.size < w8.heap.size := by omega); (try have e_w5_0 : ¬ w5.heap.size = w8.heap.size := by omega); (try have d_w5_0 : ¬ w8.heap.size = w5.heap.size := by omega); (try (refine bcUse (n := w5.heap.size) hb ?_ ?_; (focus ((try simp only [World.size_alloc, World.size_setCell, World.size_drew, World.heap_drewN]); omega)); intro _ _))) | (go_at_call 18; (with_reducible refine (c_noneD _ _).mono ?_); rintro e w9 ⟨rfl, hb⟩; have hz := hb.size; (try simp only [World.size_alloc, World.size_setCell, World.size_drew, World.heap_drewN] at hz); (try have h_wr_0 : wr.heap.size < w9.heap.size := by omega); (try have e_wr_0 : ¬ wr.heap.size = w9.heap.size := by omega); (try have d_wr_0 : ¬ w9.heap.size = wr.heap.size := by omega); (try (refine bcUse (n := wr.heap.size) hb ?_ ?_; (focus ((try simp only [World.size_alloc, World.size_setCell, World.size_drew, World.heap_drewN]); omega)); intro _ _)); (try have h_we_0 : we.heap.size < w9.heap.size := by omega); (try have e_we_0 : ¬ we.heap.size = w9.heap.size := by omega); (try have d_we_0 : ¬ w9.heap.size = we.heap.size := by omega); (try (refine bcUse (n := we.heap.size) hb ?_ ?_; (focus ((try simp only [World.size_alloc, World.size_setCell, World.size_drew, World.heap_drewN]); omega)); intro _ _)); (try have h_wo_0 : wo.heap.size < w9.heap.size := by omega); (try have e_wo_0 : ¬ wo.heap.size = w9.heap.size := by omega); (try have d_wo_0 : ¬ w9.heap.size = wo.heap.size := by omega); (try (refine bcUse (n := wo.heap.size) hb ?_ ?_; (focus ((try simp only [World.size_alloc, World.size_setCell, World.size_drew, World.heap_drewN]); omega)); intro _ _)); (try have h_w5_0 : w5.heap.size < w9.heap.size := by omega); (try have e_w5_0 : ¬ w5.heap.size = w9.heap.size := by omega); (try have d_w5_0 : ¬ w9.heap.size = w5.heap.size := by omega); (try (refine bcUse (n := w5.heap.size) hb ?_ ?_; (focus ((try simp only [World.size_alloc, World.size_setCell, World.size_drew, World.heap_drewN]); omega)); intro _ _)); (try have h_w8_0 : w8.heap.size < w9.heap.size := by omega); (try have e_w8_0 : ¬ w8.heap.size = w9.heap.size := by omega); (try have d_w8_0 : ¬ w9.heap.size = w8.heap.size := by omega); (try (refine bcUse (n := w8.heap.size) hb ?_ ?_; (focus ((try simp only [World.size_alloc, World.size_setCell, World.size_drew, World.heap_drewN]); omega)); intro _ _))))
                                          go_roundg (l.length - (i + 1))
                                          case measure => omega
                                          case rel =>
                                            refine ⟨i + 1, last', R', H', hd', by omega, rfl, rfl, by go_num, HPV.out.below ?_, HS5.out⟩
                                            (repeat' (first | (with_reducible exact Below.refl _ _) | (with_reducible assumption) | (with_reducible refine Below.call ?_ ?_ (by with_reducible assumption)) | (with_reducible refine Below.alloc ?_ ?_ _) | (with_reducible refine Below.drew ?_) | (with_reducible refine below_drewN ?_ _) | (with_reducible refine Below.setCell ?_ ?_ _) | (with_reducible exact Nat.le_refl _) | omega | (simp only [World.size_alloc, World.size_setCell, World.size_drew, World.heap_drewN] at *; omega)))
                                · have ho := HO.out
                                  unfold rdOut at ho
                                  rw [if_pos hy] at ho
                                  simp only [Prod.mk.injEq] at ho
                                  obtain ⟨rfl, rfl, rfl⟩ := ho
                                  clear HO
                                  generalize yErr q last' (heardN H' k) f = y at *
                                  have y1 : (y != 0) = true := by simp [hy]
                                  clear hy
                                  go_wp2_with (first | (go_at_call 43; (with_reducible refine (c_heardK _ _ _ _ _ _ _ _ _ _ HP.out.keep n40).mono ?_); rintro e w6 ⟨rfl, rfl⟩) | (go_at_call 18; (with_reducible refine (c_noneD _ _).mono ?_); rintro e w7 ⟨rfl, hb⟩; have hz := hb.size; (try simp only [World.size_alloc, World.size_setCell, World.size_drew, World.heap_drewN] at hz); (try have h_we_0 : we.heap.size < w7.heap.size := by omega); (try have e_we_0 : ¬ we.heap.size = w7.heap.size := by omega); (try have d_we_0 : ¬ w7.heap.size = we.heap.size := by omega); (try (refine bcUse (n := we.heap.size) hb ?_ ?_; (focus ((try simp only [World.size_alloc, World.size_setCell, World.size_drew, World.heap_drewN]); omega)); intro _ _))))
                                  go_roundg (l.length - (i + 1))
                                  case measure => omega
                                  case rel => exact ⟨i + 1, last', R', H', hd', by omega, rfl, rfl, by go_num, HP.out.below (by assumption), HS5.out⟩
              · have hinz : ns.length ≤ i := by omega
                clear S1 S
                go_wp2_with fail
                go_ret
                exact ⟨rfl, P.bel.alloc (P.bel.size) _⟩
            · have hiz : l.length ≤ i := by omega
              go_wp2_with fail
              go_ret
              exact ⟨rfl, P.bel⟩
end Go.Proofs.Ytdpddidfdifbhaa
