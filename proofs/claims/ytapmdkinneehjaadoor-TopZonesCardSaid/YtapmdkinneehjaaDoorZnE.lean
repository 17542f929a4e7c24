/- Contracts of line.Split, zone.check, zone.offset and zone.Local. The contract of zone.Local. -/
import Derived.Test.YtapmdkinneehjaaDoorZnB
import Derived.Test.YtapmdkinneehjaaDoorWalkInt
set_option linter.unusedVariables false
set_option linter.unusedSimpArgs false
namespace Go.Proofs.YtapmdkinneehjaaDoor
section
open Go.RowKit
theorem c_lSplit (t : Int) (w : World) (h0 : -9223372036854775808 ≤ t) (h1 : t ≤ 9223372036854775807) :
    Calls Tryd.prog 20 #[.int .i64 t] w fun e w' => e = .returned (if dayZ (t / 86400000) = true then .tuple #[.int .i64 (t / 86400000), .int .i64 (t % 86400000), .int .i64 0] else .tuple #[.int .i64 0, .int .i64 0, .int .i64 3]) ∧ Below w.heap.size w w' := by
  have HD := Lib.hid (fun w1 => calls_belowZ (c_div t 86400000 w1 (by omega) h0 h1 (by omega)))
  have hl := fun w1 => c_lineIsZ (t / 86400000) w1
  generalize t / 86400000 = d at *
  generalize t % 86400000 = m at *
  cases hq : dayZ d
  case true =>
    rw [hq] at hl
    have HL := Lib.hid hl
    rw [if_pos rfl]
    clear hl hq
    have hgen := sgen; have hgen2 := sgen2; have hgen3 := sgen3; go_enter Tryd.func20, Tryd.ntmps20
    go_wp2_with (first | (go_at_call 13; (with_reducible refine (HD.out _).mono ?_); rintro e w1 ⟨rfl, hb⟩; have hz := hb.size; (try simp only [szA, szS, szD, szN] at hz); (try (refine bcB (n := w.heap.size) hb ?_; intro h_w_0 e_w_0 d_w_0 _ _))) | (go_at_call 21; (refine (HL.out _).mono ?_); rintro e w2 ⟨rfl, rfl⟩))
    refine bodyPost_ret (v := .tuple #[.int .i64 d, .int .i64 m, .int .i64 0]) (by simp only [results, Tryd.results20]; go_simp) rfl ⟨rfl, ?_⟩
    exact belz
  case false =>
    rw [hq] at hl
    have HL := Lib.hid hl
    rw [if_neg (by decide)]
    clear hl hq
    have hgen := sgen; have hgen2 := sgen2; have hgen3 := sgen3; go_enter Tryd.func20, Tryd.ntmps20
    go_wp2_with (first | (go_at_call 13; (with_reducible refine (HD.out _).mono ?_); rintro e w1 ⟨rfl, hb⟩; have hz := hb.size; (try simp only [szA, szS, szD, szN] at hz); (try (refine bcB (n := w.heap.size) hb ?_; intro h_w_0 e_w_0 d_w_0 _ _))) | (go_at_call 21; (refine (HL.out _).mono ?_); rintro e w2 ⟨rfl, rfl⟩))
    refine bodyPost_ret (v := .tuple #[.int .i64 0, .int .i64 0, .int .i64 3]) (by simp only [results, Tryd.results20]; go_simp) rfl ⟨rfl, ?_⟩
    exact belz
set_option maxRecDepth 100000 in
set_option maxHeartbeats 2000000 in
theorem c_zck (nm : ByteArray) (f : Int) (a : Option Addr) (cap : Nat) (l : List Zc) (t : Int) (w : World) (hsz : nm.size ≤ 9223372036854775807) (hc : l.length ≤ cap) (hs : ZcSlice w a l) (hwf : ∀ y ∈ l, (-9223372036854775808 ≤ y.t ∧ y.t ≤ 9223372036854775807) ∧ y.lb.size ≤ 9223372036854775807) (h : zE nm f l = 0) (h0 : -9223372036854775808 ≤ t) (h1 : t ≤ 9223372036854775807) :
    Calls Tryd.prog 18 #[.agg #[.string nm, .int .i64 f, .slice a l.length cap], .int .i64 t] w fun e w' => e = .returned (.int .i64 (if instZ t = true then 0 else 3)) ∧ Below w.heap.size w w' := by
  have hck := fun w1 (h1 : ZcSlice w1 a l) => c_zCheck nm f a cap l w1 hsz hc h1 hwf
  rw [h] at hck
  have HC := Lib.hid hck
  have HS := Lib.hid hs
  have hi := fun w1 => calls_belowZ (c_isInstZ t w1 h0 h1)
  clear hck hs hwf h
  cases hq : instZ t
  case true =>
    rw [hq] at hi
    have HI := Lib.hid hi
    rw [if_pos rfl]
    clear hi hq
    have hgen := sgen; have hgen2 := sgen2; have hgen3 := sgen3; go_enter Tryd.func18, Tryd.ntmps18
    go_wp2_with (first | (go_at_call 10; (with_reducible refine (HC.out _ (HS.out.below (Nat.le_refl _) (by exact belz))).mono ?_); rintro e w1 ⟨rfl, hb⟩; have hz := hb.size; (try simp only [szA, szS, szD, szN] at hz); (try (refine bcB (n := w.heap.size) hb ?_; intro h_w_0 e_w_0 d_w_0 _ _)); (try (refine bcB (n := w.heap.size + 1) hb ?_; intro h_w_1 e_w_1 d_w_1 _ _))) | (go_at_call 22; (with_reducible refine (HI.out _).mono ?_); rintro e w2 ⟨rfl, hb⟩; have hz := hb.size; (try simp only [szA, szS, szD, szN] at hz); (try (refine bcB (n := w.heap.size) hb ?_; intro h_w_0 e_w_0 d_w_0 _ _)); (try (refine bcB (n := w1.heap.size) hb ?_; intro h_w1_0 e_w1_0 d_w1_0 _ _))))
    refine bodyPost_ret (v := .int .i64 0) (by simp only [results, Tryd.results18]; go_simp) rfl ⟨rfl, ?_⟩
    exact belz
  case false =>
    rw [hq] at hi
    have HI := Lib.hid hi
    rw [if_neg (by decide)]
    clear hi hq
    have hgen := sgen; have hgen2 := sgen2; have hgen3 := sgen3; go_enter Tryd.func18, Tryd.ntmps18
    go_wp2_with (first | (go_at_call 10; (with_reducible refine (HC.out _ (HS.out.below (Nat.le_refl _) (by exact belz))).mono ?_); rintro e w1 ⟨rfl, hb⟩; have hz := hb.size; (try simp only [szA, szS, szD, szN] at hz); (try (refine bcB (n := w.heap.size) hb ?_; intro h_w_0 e_w_0 d_w_0 _ _)); (try (refine bcB (n := w.heap.size + 1) hb ?_; intro h_w_1 e_w_1 d_w_1 _ _))) | (go_at_call 22; (with_reducible refine (HI.out _).mono ?_); rintro e w2 ⟨rfl, hb⟩; have hz := hb.size; (try simp only [szA, szS, szD, szN] at hz); (try (refine bcB (n := w.heap.size) hb ?_; intro h_w_0 e_w_0 d_w_0 _ _)); (try (refine bcB (n := w1.heap.size) hb ?_; intro h_w1_0 e_w1_0 d_w1_0 _ _))))
    refine bodyPost_ret (v := .int .i64 3) (by simp only [results, Tryd.results18]; go_simp) rfl ⟨rfl, ?_⟩
    exact belz
set_option maxRecDepth 100000 in
set_option maxHeartbeats 2000000 in
theorem c_zoff (nm : ByteArray) (f : Int) (a : Option Addr) (cap : Nat) (l : List Zc) (t : Int) (w : World) (h200 : l.length ≤ 200) (hs : ZcSlice w a l) (hp : l.Pairwise (fun c d => c.t < d.t)) :
    Calls Tryd.prog 19 #[.agg #[.string nm, .int .i64 f, .slice a l.length cap], .int .i64 t] w fun e w' => e = .returned (.tuple #[.int .i64 (ofZ f l (zk l t)), .string (lbZ l (zk l t))]) ∧ Below w.heap.size w w' := by
  have HS := Lib.hid hs
  have HP := Lib.hid hp
  obtain ⟨K, hK⟩ : ∃ K, K = zk l t := ⟨_, rfl⟩
  have hKl : K ≤ l.length := by rw [hK]; exact zk_le l t
  rw [← hK]
  have HKe := Lib.hid hK
  clear hs hp hK
  have hgen := sgen; have hgen2 := sgen2; have hgen3 := sgen3; go_enter Tryd.func19, Tryd.ntmps19
  go_wp2
  go_loopg [6, 7, 15] l.length (fun gk x6 x7 x15 wr => ∃ k : Nat, gk + k = l.length ∧ x15 = .int .i64 k ∧ x6 = .int .i64 (ofZ f l k) ∧ x7 = .string (lbZ l k) ∧ k ≤ K ∧ Below w.heap.size w wr)
  case atStart => exact ⟨0, by omega, rfl, by rw [ofZ_zero], by rw [lbZ_zero], Nat.zero_le _, by exact belz⟩
  case round =>
    obtain ⟨k, hk, rfl, rfl, rfl, hkz, hbel⟩ := hrel
    have hszr := hbel.size
    by_cases hlt : k < l.length
    · obtain ⟨bb, off, ha, hbb, y0, y1, y2⟩ := (HS.out.below (Nat.le_refl _) hbel) k hlt
      have ix := @ix_Zc a bb off l.length cap k ha hlt
      have hat := zk_at l t HP.out k hlt
      rw [← HKe.out] at hat
      have ho := ofZ_succ f l k hlt
      have hlb := lbZ_succ l k hlt
      clear ha
      generalize l[k] = c at *
      obtain ⟨t1, o1, lb1⟩ := c
      dsimp only at y0 y1 y2 hat ho hlb
      by_cases hq : t < t1
      · have g := decide_eq_true hq
        obtain rfl : K = k := by omega
        clear hat ho hlb hkz
        go_wp2_with fail
        refine bodyPost_ret (v := .tuple #[.int .i64 (ofZ f l K), .string (lbZ l K)]) (by simp only [results, Tryd.results19]; go_simp) rfl ⟨rfl, ?_⟩
        exact belz
      · have g := decide_eq_false hq
        have HN := Lib.hid (show k + 1 ≤ K by omega)
        have HO := Lib.hid ho
        have HLb := Lib.hid hlb
        clear hat ho hlb
        go_upto_region 6 with fail
        go_region_held3 (fun w9 => w9.cell? ⟨wr.heap.size, 1, none⟩ = some (.int .i64 o1) ∧ w9.cell? ⟨wr.heap.size, 2, none⟩ = some (.string lb1)) (refine ⟨?_, ?_⟩ <;> (first | (go_simp; done) | go_keep)) (fail)
        go_wp2_with fail
        go_roundg (l.length - (k + 1))
        case measure => omega
        case rel => exact ⟨k + 1, by omega, by go_num, by rw [HO.out], by rw [HLb.out], HN.out, by exact belz⟩
    · obtain rfl : k = l.length := by omega
      obtain rfl : K = l.length := by omega
      clear hkz hlt
      go_wp2_with fail
      refine bodyPost_ret (v := .tuple #[.int .i64 (ofZ f l l.length), .string (lbZ l l.length)]) (by simp only [results, Tryd.results19]; go_simp) rfl ⟨rfl, ?_⟩
      exact hbel
end
section
open Go.RowKit
def zWf (l : List Zc) : Prop := ∀ y ∈ l, (-9223372036854775808 ≤ y.t ∧ y.t ≤ 9223372036854775807) ∧ y.lb.size ≤ 9223372036854775807
theorem ofZ_le {f : Int} {l : List Zc} (h : offB f = true) (hl : ∀ c ∈ l, offB c.o = true) (k : Nat) : -64800000 ≤ ofZ f l k ∧ ofZ f l k ≤ 64800000 := by
  unfold ofZ
  split
  · exact off_le h
  · by_cases hk : k - 1 < l.length
    · rw [List.getElem?_eq_getElem hk]
      exact off_le (hl _ (List.getElem_mem hk))
    · rw [List.getElem?_eq_none (by omega)]
      exact ⟨by decide, by decide⟩
set_option maxRecDepth 100000 in
set_option maxHeartbeats 2000000 in
theorem c_zLocal (nm : ByteArray) (f : Int) (a : Option Addr) (cap : Nat) (l : List Zc) (t : Int) (w : World) (hsz : nm.size ≤ 9223372036854775807) (hc : l.length ≤ cap) (hs : ZcSlice w a l) (hwf : zWf l) (h : zE nm f l = 0) (h0 : -9223372036854775808 ≤ t) (h1 : t ≤ 9223372036854775807) :
    Calls Tryd.prog 6 #[.agg #[.string nm, .int .i64 f, .slice a l.length cap], .int .i64 t] w fun e w' => e = .returned (if instZ t = true ∧ dayZ ((t + ofZ f l (zk l t)) / 86400000) = true then .tuple #[.int .i64 ((t + ofZ f l (zk l t)) / 86400000), .int .i64 ((t + ofZ f l (zk l t)) % 86400000), .int .i64 0] else .tuple #[.int .i64 0, .int .i64 0, .int .i64 3]) ∧ Below w.heap.size w w' := by
  obtain ⟨k1, k2, k3, k4, k5⟩ := zE_ok h
  have hck := fun w1 (h2 : ZcSlice w1 a l) => c_zck nm f a cap l t w1 hsz hc h2 hwf h h0 h1
  have ho := ofZ_le k2 (fun c hc => (k4 c hc).2.1) (zk l t)
  have HO := Lib.hid (fun w1 h2 => c_zoff nm f a cap l t w1 k3 h2 k5)
  have HS := Lib.hid hs
  clear hs hwf k1 k2 k4 k5 h
  generalize ofZ f l (zk l t) = o at *
  generalize lbZ l (zk l t) = lb at *
  cases hq : instZ t
  case false =>
    rw [hq, if_neg (by decide)] at hck
    have HC := Lib.hid hck
    rw [if_neg (by simp)]
    clear hck hq
    have hgen := sgen; have hgen2 := sgen2; have hgen3 := sgen3; go_enter Tryd.func6, Tryd.ntmps6
    go_wp2_with (go_at_call 18; (with_reducible refine (HC.out _ (HS.out.below (Nat.le_refl _) (by exact belz))).mono ?_); rintro e w1 ⟨rfl, hb⟩; have hz := hb.size; (try simp only [szA, szS, szD, szN] at hz); (try (refine bcB (n := w.heap.size) hb ?_; intro h_w_0 e_w_0 d_w_0 _ _)); (try (refine bcB (n := w.heap.size + 1) hb ?_; intro h_w_1 e_w_1 d_w_1 _ _)))
    refine bodyPost_ret (v := .tuple #[.int .i64 0, .int .i64 0, .int .i64 3]) (by simp only [results, Tryd.results6]; go_simp) rfl ⟨rfl, ?_⟩
    exact belz
  case true =>
    obtain ⟨t1, t2⟩ := inst_le hq
    rw [hq, if_pos rfl] at hck
    have HC := Lib.hid hck
    have hp := fun w1 => c_lSplit (t + o) w1 (by omega) (by omega)
    have v1 : IntKind.i64.wrap (t + o) = t + o := IntWalk.i64_in _ (by omega)
    clear hck hq
    cases hd : dayZ ((t + o) / 86400000)
    case false =>
      rw [hd, if_neg (by decide)] at hp
      have HP := Lib.hid hp
      rw [if_neg (by simp)]
      clear hp hd
      have hgen := sgen; have hgen2 := sgen2; have hgen3 := sgen3; go_enter Tryd.func6, Tryd.ntmps6
      go_wp2_with (first | (go_at_call 18; (with_reducible refine (HC.out _ (HS.out.below (Nat.le_refl _) (by exact belz))).mono ?_); rintro e w1 ⟨rfl, hb⟩; have hz := hb.size; (try simp only [szA, szS, szD, szN] at hz); (try (refine bcB (n := w.heap.size) hb ?_; intro h_w_0 e_w_0 d_w_0 _ _)); (try (refine bcB (n := w.heap.size + 1) hb ?_; intro h_w_1 e_w_1 d_w_1 _ _))) | (go_at_call 19; (with_reducible refine (HO.out _ (HS.out.below (Nat.le_refl _) (by exact belz))).mono ?_); rintro e w2 ⟨rfl, hb⟩; have hz := hb.size; (try simp only [szA, szS, szD, szN] at hz); (try (refine bcB (n := w.heap.size) hb ?_; intro h_w_0 e_w_0 d_w_0 _ _)); (try (refine bcB (n := w1.heap.size) hb ?_; intro h_w1_0 e_w1_0 d_w1_0 _ _))) | (go_at_call 20; (with_reducible refine (HP.out _).mono ?_); rintro e w3 ⟨rfl, hb⟩; have hz := hb.size; (try simp only [szA, szS, szD, szN] at hz); (try (refine bcB (n := w.heap.size) hb ?_; intro h_w_0 e_w_0 d_w_0 _ _)); (try (refine bcB (n := w1.heap.size) hb ?_; intro h_w1_0 e_w1_0 d_w1_0 _ _)); (try (refine bcB (n := w2.heap.size) hb ?_; intro h_w2_0 e_w2_0 d_w2_0 _ _))))
      refine bodyPost_ret (v := .tuple #[.int .i64 0, .int .i64 0, .int .i64 3]) (by simp only [results, Tryd.results6]; go_simp) rfl ⟨rfl, ?_⟩
      exact belz
    case true =>
      rw [hd, if_pos rfl] at hp
      have HP := Lib.hid hp
      rw [if_pos ⟨rfl, rfl⟩]
      clear hp hd
      generalize (t + o) / 86400000 = d9 at *
      generalize (t + o) % 86400000 = m9 at *
      have hgen := sgen; have hgen2 := sgen2; have hgen3 := sgen3; go_enter Tryd.func6, Tryd.ntmps6
      go_wp2_with (first | (go_at_call 18; (with_reducible refine (HC.out _ (HS.out.below (Nat.le_refl _) (by exact belz))).mono ?_); rintro e w1 ⟨rfl, hb⟩; have hz := hb.size; (try simp only [szA, szS, szD, szN] at hz); (try (refine bcB (n := w.heap.size) hb ?_; intro h_w_0 e_w_0 d_w_0 _ _)); (try (refine bcB (n := w.heap.size + 1) hb ?_; intro h_w_1 e_w_1 d_w_1 _ _))) | (go_at_call 19; (with_reducible refine (HO.out _ (HS.out.below (Nat.le_refl _) (by exact belz))).mono ?_); rintro e w2 ⟨rfl, hb⟩; have hz := hb.size; (try simp only [szA, szS, szD, szN] at hz); (try (refine bcB (n := w.heap.size) hb ?_; intro h_w_0 e_w_0 d_w_0 _ _)); (try (refine bcB (n := w1.heap.size) hb ?_; intro h_w1_0 e_w1_0 d_w1_0 _ _))) | (go_at_call 20; (with_reducible refine (HP.out _).mono ?_); rintro e w3 ⟨rfl, hb⟩; have hz := hb.size; (try simp only [szA, szS, szD, szN] at hz); (try (refine bcB (n := w.heap.size) hb ?_; intro h_w_0 e_w_0 d_w_0 _ _)); (try (refine bcB (n := w1.heap.size) hb ?_; intro h_w1_0 e_w1_0 d_w1_0 _ _)); (try (refine bcB (n := w2.heap.size) hb ?_; intro h_w2_0 e_w2_0 d_w2_0 _ _))))
      refine bodyPost_ret (v := .tuple #[.int .i64 d9, .int .i64 m9, .int .i64 0]) (by simp only [results, Tryd.results6]; go_simp) rfl ⟨rfl, ?_⟩
      exact belz
end
end Go.Proofs.YtapmdkinneehjaaDoor
