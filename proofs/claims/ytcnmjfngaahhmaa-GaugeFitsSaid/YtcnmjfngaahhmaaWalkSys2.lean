/- The walk through gauge.system. -/
import Derived.Test.YtcnmjfngaahhmaaWalkSys
import Derived.Test.YtcnmjfngaahhmaaWalkGch3
set_option linter.unusedVariables false
set_option linter.unusedSimpArgs false
namespace Go.Proofs.Ytcnmjfngaahhmaa
open Go.RowKit
def hF (l : List Int) (i : Nat) : Int := l.getD i 0
theorem hF_get {l : List Int} {i : Nat} (h : i < l.length) : hF l i = l[i] := by
  unfold hF
  rw [List.getD_eq_getElem?_getD, List.getElem?_eq_getElem h, Option.getD_some]
theorem sys_start1 (w : World) (n : Nat) : Sys ((w.alloc (.cells (madeCells #[.slice none 0 0] n) 23)).alloc (.cells (madeCells #[.int .i64 0] n) 3)) w.heap.size w.heap.size (w.heap.size + 1) n 0 (fun _ _ => 0) (fun _ => 0) := by
  have h2 := World.rowIs_made (w.alloc (.cells (madeCells #[.slice none 0 0] n) 23)) (.int .i64 0) n 3
  rw [show (w.alloc (.cells (madeCells #[.slice none 0 0] n) 23)).heap.size = w.heap.size + 1 from by simp] at h2
  exact ⟨by simp, ((World.rowIs_made w (.slice none 0 0) n 23).alloc _).congr (fun j _ => by simp), fun i hi => absurd hi (Nat.not_lt_zero _), h2⟩
theorem sys_start2 (w : World) (n : Nat) : Sys ((w.alloc (.cells (madeCells #[.int .i64 0] n) 3)).alloc (.cells (madeCells #[.slice none 0 0] n) 23)) w.heap.size (w.heap.size + 1) w.heap.size n 0 (fun _ _ => 0) (fun _ => 0) := by
  have h2 := World.rowIs_made (w.alloc (.cells (madeCells #[.int .i64 0] n) 3)) (.slice none 0 0) n 23
  rw [show (w.alloc (.cells (madeCells #[.int .i64 0] n) 3)).heap.size = w.heap.size + 1 from by simp] at h2
  exact ⟨by simp, h2.congr (fun j _ => by simp), fun i hi => absurd hi (Nat.not_lt_zero _), (World.rowIs_made w (.int .i64 0) n 3).alloc _⟩
/-- A row that came in, with its place. -/
structure RowX (w : World) (a : Option Addr) (N cap n : Nat) (R : Nat → Nat → Int) (k b1 off1 : Nat) (a1 : Option Addr) (cap1 : Nat) : Prop where
  lt : b1 < w.heap.size
  c : w.cell? ⟨b1, off1 + k, none⟩ = some (.slice a1 n cap1)
  ix : ∀ w' : World, (Instr.indexAt 22 (.slice a N cap) (.int .i64 k)).run Try.prog w' = .ok (.pointer (some ⟨b1, off1 + k, none⟩)) w'
  e : ∀ j, j < n → ∃ b5 off5, b5 < w.heap.size ∧ w.cell? ⟨b5, off5 + j, none⟩ = some (.int .i64 (R k j)) ∧ ∀ w' : World, (Instr.indexAt 23 (.slice a1 n cap1) (.int .i64 j)).run Try.prog w' = .ok (.pointer (some ⟨b5, off5 + j, none⟩)) w'
theorem RowX.below {w w' : World} {a : Option Addr} {N cap n : Nat} {R : Nat → Nat → Int} {k b1 off1 : Nat} {a1 : Option Addr} {cap1 : Nat} (h : RowX w a N cap n R k b1 off1 a1 cap1) (hb : Below w.heap.size w w') : RowX w' a N cap n R k b1 off1 a1 cap1 :=
  ⟨Nat.lt_of_lt_of_le h.lt hb.size, (hb.cell (p := ⟨b1, _, none⟩) h.lt).trans h.c, h.ix, fun j hj => by
    obtain ⟨b5, off5, h1, h2, h3⟩ := h.e j hj
    exact ⟨b5, off5, Nat.lt_of_lt_of_le h1 hb.size, (hb.cell (p := ⟨b5, _, none⟩) h1).trans h2, h3⟩⟩
theorem row_x {w : World} {a : Option Addr} {L : List (List Int)} {cap k : Nat} (hM : MatSlice w a L) (hk : ∀ r ∈ L, r.length = k) {i : Nat} (hi : i < L.length) : ∃ b1 off1 a1 cap1, RowX w a L.length cap k (rwF L) i b1 off1 a1 cap1 := by
  obtain ⟨b, off, v, ha, hb, c0, ⟨a', cap', e, hc, hr⟩⟩ := hM i hi
  have hl := hk L[i] (List.getElem_mem hi)
  subst e
  rw [hl] at c0
  refine ⟨b, off, a', cap', hb, c0, @ix_Row a b off L.length cap i ha hi, fun j hj => ?_⟩
  obtain ⟨b5, off5, ha5, hb5, c5⟩ := hr j (by omega)
  refine ⟨b5, off5, hb5, ?_, @ix_Int a' b5 off5 k cap' j ha5 hj⟩
  have e : rwF L i j = (L[i])[j]'(by omega) := by
    unfold rwF
    simp only [List.getD_eq_getElem?_getD, List.getElem?_eq_getElem hi, Option.getD_some]
    rw [List.getElem?_eq_getElem (by omega), Option.getD_some]
  rw [e]
  exact c5
def syM (R : Nat → Nat → Int) (N r k j : Nat) : Nat → Nat → Int := fun i q => if i < r then gmM R N i q else if i = r then (if q < j then gmM R (k + 1) i q else gmM R k i q) else 0
def syV (R : Nat → Nat → Int) (H : Nat → Int) (N r k : Nat) : Nat → Int := fun i => if i < r then gmR R H N i else if i = r then gmR R H k i else 0
set_option maxRecDepth 100000 in
set_option maxHeartbeats 6400000 in
theorem c_system (n : Nat) (n1 : 1 ≤ n) (n3 : n ≤ 3) (a : Option Addr) (cap : Nat) (L : List (List Int)) (ah : Option Addr) (ch : Nat) (HL : List Int) (w : World) (N1 : 0 < L.length) (N8 : L.length ≤ 8) (hM : MatSlice w a L) (hk : ∀ r ∈ L, r.length = n) (hH : IntSlice w ah HL) (hl : HL.length = L.length) (hB : rowsB n L.length (rwF L) (hF HL)) :
    Calls Try.prog 24 #[.slice a L.length cap, .slice ah L.length ch] w (SysIs w n (gmM (rwF L) L.length) (gmR (rwF L) (hF HL) L.length)) := by
  have hmk1 := run_make_row' (P := Try.prog) 22 23 (.slice none 0 0) 24 Try.underlying22 info_ints rfl .i64 .i64 n (by omega) (by omega)
  have hmk2 := run_make_row' (P := Try.prog) 23 3 (.int .i64 0) 8 Try.underlying23 info_int' rfl .i64 .i64 n (by omega) (by omega)
  obtain ⟨b, off, a0, cap0, c0, ix0, -⟩ := (row_k (cap := cap) hM hk N1).ex
  simp only [Int.natCast_zero, Nat.add_zero] at c0 ix0
  obtain ⟨N, hN⟩ : ∃ N, N = L.length := ⟨_, rfl⟩
  have HRK : Hid (∀ i, i < N → ∃ b1 off1 a1 cap1, RowX w a N cap n (rwF L) i b1 off1 a1 cap1) := Lib.hid (fun i hi => by
    rw [hN] at hi ⊢
    exact row_x hM hk hi)
  have HHK : Hid (∀ w', Below w.heap.size w w' → ∀ i, i < N → ∃ b off, w'.cell? ⟨b, off + i, none⟩ = some (.int .i64 (hF HL i)) ∧ ∀ w1 : World, (Instr.indexAt 23 (.slice ah N ch) (.int .i64 i)).run Try.prog w1 = .ok (.pointer (some ⟨b, off + i, none⟩)) w1) := Lib.hid (fun w' hb i hi => by
    obtain ⟨b, off, e, hb2, c⟩ := (hH.below (Nat.le_refl _) hb) i (by omega)
    exact ⟨b, off, by rw [hF_get (by omega)]; exact c, @ix_Int ah b off N ch i e hi⟩)
  have HB : Hid (rowsB n N (rwF L) (hF HL)) := Lib.hid (by rw [hN]; exact hB)
  rw [← hN] at ix0 N1 N8 ⊢
  clear hM hk hH hl hB hN
  generalize rwF L = R at *
  generalize hF HL = H at *
  have hgen := sgen; have hgen2 := sgen2; have hgen3 := sgen3; go_enter Try.func24, Try.ntmps24
  go_wp2_with fail
  go_upto_region 2 with fail
  go_cut [7, 8] (fun x7 x8 wc => ∃ bm br, x7 = .slice (some ⟨bm, 0, none⟩) n n ∧ x8 = .slice (some ⟨br, 0, none⟩) n n ∧ BmBr w.heap.size bm br ∧ Below w.heap.size w wc ∧ Sys wc w.heap.size bm br n 0 (fun _ _ => 0) (fun _ => 0))
  case first =>
    go_region
    all_goals go_wp2_with fail
    all_goals go_meet
    · exact ⟨_, _, rfl, rfl, .inl ⟨rfl, rfl⟩, by exact belz, (sys_start1 w n).drew⟩
    · exact ⟨_, _, rfl, rfl, .inr ⟨rfl, rfl⟩, by exact belz, (sys_start2 w n).drew⟩
  case rest =>
    obtain ⟨bm, br, rfl, rfl, hbb, hbel0, hS0⟩ := hcut
    obtain ⟨wd, rfl⟩ : ∃ wd : World, wd = wc := ⟨_, rfl⟩
    have HBB := Lib.hid hbb
    have hbmw : w.heap.size ≤ bm := by rcases hbb with ⟨h1, h2⟩ | ⟨h1, h2⟩ <;> omega
    have hbrw : w.heap.size ≤ br := by rcases hbb with ⟨h1, h2⟩ | ⟨h1, h2⟩ <;> omega
    clear hmk1 hbb
    go_wp2_with fail
    go_loopg [22] n (fun gk i wr => ∃ r : Nat, gk + r = n ∧ i = .int .i64 (r : Int) ∧ Below w.heap.size w wr ∧ Sys wr w.heap.size bm br n r (gmM R N) (fun i => if i < r then gmR R H N i else 0))
    case atStart => exact ⟨0, by omega, rfl, hbel0, hS0.congr (fun i j hi => absurd hi (Nat.not_lt_zero _)) (fun i _ => by simp)⟩
    case round =>
      clear hS0 hbel0
      obtain ⟨r, hr, rfl, hbel, hS⟩ := hrel
      obtain ⟨wo, rfl⟩ : ∃ wo : World, wo = wr := ⟨_, rfl⟩
      obtain ⟨ga, hga⟩ : ∃ ga, ga = gk := ⟨gk, rfl⟩
      by_cases hrn : r < n
      · have hrz : (r : Int) < (n : Int) := by omega
        have hst1 : ∀ o, (wo.alloc o).cell? ⟨bm, r, none⟩ = some (.slice none 0 0) := fun o => by
          have := (hS.top.alloc o).cell hrn
          rwa [if_neg (Nat.lt_irrefl r)] at this
        have hst2 : ∀ o, (wo.alloc o).frozen? ⟨bm, r, none⟩ = false := fun o => (hS.top.alloc o).frozen r
        have hsz := hS.size
        have hS1 : Sys wo w.heap.size bm br n r (fun i q => if i < r then gmM R N i q else 0) (fun i => if i < r then gmR R H N i else 0) := hS.congr (fun i j hi _ => by rw [if_pos hi]) (fun i _ => rfl)
        have hS2 := sys_row hS1 HBB.out (fun j => by rw [if_neg (Nat.lt_irrefl r)])
        clear hS hS1
        go_upto_region 7 with fail
        have hb2 : Below w.heap.size w ((wo.alloc (.cells (madeCells #[.int .i64 0] n) 3)).setCell ⟨bm, r, none⟩ (.slice (some ⟨w.heap.size + 2 + r, 0, none⟩) n n)) := by exact belz
        clear hst1 hst2
        generalize (wo.alloc (.cells (madeCells #[.int .i64 0] n) 3)).setCell ⟨bm, r, none⟩ (.slice (some ⟨w.heap.size + 2 + r, 0, none⟩) n n) = w2 at *
        go_wp2_with fail
        go_loopg [32] N (fun gk i wr => ∃ k : Nat, gk + k = N ∧ i = .int .i64 (k : Int) ∧ Below w.heap.size w wr ∧ Sys wr w.heap.size bm br n (r + 1) (fun i q => if i < r then gmM R N i q else gmM R k i q) (fun i => if i < r then gmR R H N i else if i = r then gmR R H k i else 0))
        case atStart => exact ⟨0, by omega, rfl, hb2, hS2.congr (fun i j hi _ => by by_cases e : i < r; rw [if_pos e, if_pos e]; rw [if_neg e, if_neg e]; rfl) (fun i _ => by by_cases e : i < r; rw [if_pos e, if_pos e]; rw [if_neg e, if_neg e]; by_cases e2 : i = r; rw [if_pos e2]; rfl; rw [if_neg e2])⟩
        case round =>
          clear hS2 hb2
          obtain ⟨k, hk, rfl, hbel2, hS⟩ := hrel
          obtain ⟨wp, rfl⟩ : ∃ wp : World, wp = wr := ⟨_, rfl⟩
          obtain ⟨gb, hgb⟩ : ∃ gb, gb = gk := ⟨gk, rfl⟩
          by_cases hkN : k < N
          · have hkz : (k : Int) < (N : Int) := by omega
            obtain ⟨b1, off1, a1, cap1, hRX⟩ := HRK.out k hkN
            have HX := Lib.hid hRX
            have c1 := (hRX.below hbel2).c
            have ix1 := hRX.ix
            clear hRX
            go_wp2_with fail
            go_loopg [38] n (fun gk i wr => ∃ j : Nat, gk + j = n ∧ i = .int .i64 (j : Int) ∧ Below w.heap.size w wr ∧ Sys wr w.heap.size bm br n (r + 1) (fun i q => if i < r then gmM R N i q else if q < j then gmM R (k + 1) i q else gmM R k i q) (fun i => if i < r then gmR R H N i else if i = r then gmR R H k i else 0))
            case atStart => exact ⟨0, by omega, rfl, hbel2, hS.congr (fun i j _ _ => by simp) (fun i _ => rfl)⟩
            case round =>
              clear hS hbel2 c1 ix1
              obtain ⟨j, hj, rfl, hbel2, hS⟩ := hrel
              by_cases hjn : j < n
              · have hjz : (j : Int) < (n : Int) := by omega
                obtain ⟨b5, off5, -, d1, jx1⟩ := (HX.out.below hbel2).e r hrn
                obtain ⟨b6, off6, -, d2, jx2⟩ := (HX.out.below hbel2).e j hjn
                have g1 := hS.c0 hrn (by omega)
                have g2 : wr.cell? ⟨w.heap.size + 2 + r, j, none⟩ = some (.int .i64 (gmM R k r j)) := by
                  have := hS.c1 (i := r) (j := j) (by omega) hjn
                  rwa [if_neg (Nat.lt_irrefl r), if_neg (Nat.lt_irrefl j)] at this
                have g3 := hS.f1 (i := r) (by omega) j
                have hsz := hS.size
                have v1 := HB.out.1 k r hkN hrn
                have v2 := HB.out.1 k j hkN hjn
                have v3 := mul_bd v1 v2
                have v4 := gmM_bd HB.out N8 hrn hjn k (by omega)
                have HG : Hid (gmM R (k + 1) r j = gmM R k r j + R k r * R k j) := Lib.hid rfl
                have HS := Lib.hid hS
                clear hS
                generalize gmM R k r j = G at *
                generalize R k r = p at *
                generalize R k j = q at *
                have ew1 : IntKind.i64.wrap (p * q) = p * q := IntWalk.i64_in _ (by omega)
                have ew2 : IntKind.i64.wrap (G + p * q) = G + p * q := IntWalk.i64_in _ (by omega)
                go_upto_region 13 with fail
                (refine Go.wp_region_still_tail 18 (by kernel_rfl) (by kernel_rfl) ?_; simp only [List.take_succ_cons, List.take_zero, List.drop_succ_cons, List.drop_zero]; change Go.wpStill _ _ (World.drew _) (fun a' => wpList _ _ _ _ a' (World.drew _)) _ _; (repeat still_step); refine Go.wpStill_nil ?_)
                clear ew1 ew2
                go_wp2_with fail
                go_roundg (n - (j + 1))
                case measure => go_light; omega
                case rel =>
                  go_light
                  refine ⟨j + 1, by omega, by go_num, ?_, ?_⟩
                  · exact belz
                  · refine ((HS.out.set HBB.out r j _).drew).congr (fun x y hx hy => ?_) (fun i _ => rfl)
                    by_cases e1 : x < r
                    · rw [if_neg (by omega), if_pos e1, if_pos e1]
                    · obtain rfl : x = r := by omega
                      rw [if_neg e1, if_neg e1]
                      by_cases e2 : y = j
                      · subst e2
                        rw [if_pos ⟨rfl, rfl⟩, if_pos (by omega), HG.out]
                      · rw [if_neg (fun h => e2 h.2)]
                        by_cases e3 : y < j
                        · rw [if_pos e3, if_pos (by omega)]
                        · rw [if_neg e3, if_neg (by omega)]
              · obtain rfl : j = n := by omega
                obtain ⟨b5, off5, -, d1, jx1⟩ := (HX.out.below hbel2).e r hrn
                obtain ⟨b6, off6, d2, jx2⟩ := HHK.out wr hbel2 k hkN
                have g2 : wr.cell? ⟨br, r, none⟩ = some (.int .i64 (gmR R H k r)) := by
                  have := hS.rt.cell hrn
                  rwa [if_neg (Nat.lt_irrefl r), if_pos rfl] at this
                have g3 := hS.rt.frozen r
                have v1 := HB.out.1 k r hkN hrn
                have v2 := HB.out.2 k hkN
                have v3 := mul_bd v1 v2
                have v4 := gmR_bd HB.out N8 hrn k (by omega)
                have HG : Hid (gmR R H (k + 1) r = gmR R H k r + R k r * H k) := Lib.hid rfl
                have HS := Lib.hid hS
                clear hS
                generalize gmR R H k r = G at *
                generalize R k r = p at *
                generalize H k = q at *
                have ew1 : IntKind.i64.wrap (p * q) = p * q := IntWalk.i64_in _ (by omega)
                have ew2 : IntKind.i64.wrap (G + p * q) = G + p * q := IntWalk.i64_in _ (by omega)
                go_upto_region 15 with fail
                (refine Go.wp_region_still_tail 15 (by kernel_rfl) (by kernel_rfl) ?_; simp only [List.take_succ_cons, List.take_zero, List.drop_succ_cons, List.drop_zero]; change Go.wpStill _ _ (World.drew _) (fun a' => wpList _ _ _ _ a' (World.drew _)) _ _; (repeat still_step); refine Go.wpStill_nil ?_)
                clear ew1 ew2
                go_wp2_with fail
                go_roundg (N - (k + 1))
                case measure => go_light; omega
                case rel =>
                  go_light
                  refine ⟨k + 1, by omega, by go_num, ?_, ?_⟩
                  · exact belz
                  · refine ((HS.out.setV HBB.out r _).drew).congr (fun x y hx hy => ?_) (fun i _ => ?_)
                    · by_cases e1 : x < r
                      · rw [if_pos e1, if_pos e1]
                      · rw [if_neg e1, if_neg e1, if_pos hy]
                    · by_cases e1 : i = r
                      · subst e1
                        rw [if_pos rfl, if_neg (Nat.lt_irrefl _), if_pos rfl, HG.out]
                      · rw [if_neg e1]
                        by_cases e2 : i < r
                        · rw [if_pos e2, if_pos e2]
                        · rw [if_neg e2, if_neg e2, if_neg e1, if_neg e1]
          · obtain rfl : k = N := by omega
            go_wp2_with fail
            go_roundg (n - (r + 1))
            case measure => go_light; omega
            case rel =>
              go_light
              refine ⟨r + 1, by omega, by go_num, hbel2, hS.congr (fun x y hx hy => ?_) (fun i _ => ?_)⟩
              · by_cases e1 : x < r
                · rw [if_pos e1]
                · rw [if_neg e1]
              · by_cases e1 : i < r
                · rw [if_pos e1, if_pos (by omega)]
                · by_cases e2 : i = r
                  · rw [if_neg e1, if_pos e2, if_pos (by omega)]
                  · rw [if_neg e1, if_neg e2, if_neg (by omega)]
      · obtain rfl : r = n := by omega
        go_wp2_with fail
        refine bodyPost_ret (v := .tuple #[.slice (some ⟨bm, 0, none⟩) r r, .slice (some ⟨br, 0, none⟩) r r]) (by simp only [results, Try.results24]; go_simp) rfl ?_
        exact ⟨bm, br, rfl, hbmw, hbrw, hS.mat, hS.rt.congr (fun i hi => by rw [if_pos hi]), hbel⟩
end Go.Proofs.Ytcnmjfngaahhmaa
