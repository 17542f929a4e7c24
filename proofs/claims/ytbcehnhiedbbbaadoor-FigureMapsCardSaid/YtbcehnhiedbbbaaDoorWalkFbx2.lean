/- The contract of figure.Box. -/
import Derived.Test.YtbcehnhiedbbbaaDoorWalkFbx
import Derived.Test.YtbcehnhiedbbbaaDoorWalkFg
import Derived.Test.YtbcehnhiedbbbaaDoorPlainFbx
import Derived.Deep.DeepCutAuto
set_option linter.unusedVariables false
set_option linter.unusedSimpArgs false
namespace Go.Proofs.YtbcehnhiedbbbaaDoor
open Go.RowKit
theorem c_Box_bad (a b : Option Addr) (ca cb : Nat) (P : List Fp) (L : List (List Int)) (w : World) (hP : FpSlice w a P) (hL : MatSlice w b L) (hca : P.length ≤ ca) (hcb : L.length ≤ cb) (h : fgE P L ≠ 0) :
    Calls Tryd.prog 33 #[.agg #[.slice a P.length ca, .slice b L.length cb]] w fun e w' => e = .returned (.tuple #[.agg #[.int .i64 0, .int .i64 0, .int .i64 0, .int .i64 0], .agg #[.int .i64 0, .int .i64 0, .int .i64 0, .int .i64 0], .int .i64 (fgE P L)]) ∧ Below w.heap.size w w' := by
  have HC := Lib.hid (fun w1 (h1 : FpSlice w1 a P) (h2 : MatSlice w1 b L) => c_fgCheck a b ca cb P L w1 h1 h2 hca hcb)
  generalize fgE P L = x at *
  have g : (x == 0) = false := by simpa using h
  have g2 : (x != 0) = true := by simpa using h
  have HP := Lib.hid hP
  have HL := Lib.hid hL
  clear hP hL
  have hgen := sgen; have hgen2 := sgen2; have hgen3 := sgen3; go_enter Tryd.func33, Tryd.ntmps33
  go_upto_region 4 with (go_at_call 29; (with_reducible refine (HC.out _ (HP.out.below (Nat.le_refl _) (by exact belz)) (HL.out.below (Nat.le_refl _) (by exact belz))).mono ?_); rintro e w1 ⟨rfl, hb⟩; have hz := hb.size; (try simp only [szA, szS, szD, szN] at hz); (try (refine bcB (n := w.heap.size) hb ?_; intro h_w_0 e_w_0 d_w_0 _ _)); (try (refine bcB (n := w.heap.size + 1) hb ?_; intro h_w_1 e_w_1 d_w_1 _ _)); (try (refine bcB (n := w.heap.size + 1 + 1) hb ?_; intro h_w_2 e_w_2 d_w_2 _ _)); (try (refine bcB (n := w.heap.size + 1 + 1 + 1) hb ?_; intro h_w_3 e_w_3 d_w_3 _ _)); (try (refine bcB (n := w.heap.size + 1 + 1 + 1 + 1) hb ?_; intro h_w_4 e_w_4 d_w_4 _ _)))
  go_region
  all_goals go_wp2
  all_goals refine bodyPost_ret (v := .tuple #[.agg #[.int .i64 0, .int .i64 0, .int .i64 0, .int .i64 0], .agg #[.int .i64 0, .int .i64 0, .int .i64 0, .int .i64 0], .int .i64 x]) (by simp only [results, Tryd.results33]; go_simp) rfl ⟨rfl, ?_⟩
  all_goals exact belz
theorem c_Box_none (a b : Option Addr) (ca cb : Nat) (P : List Fp) (L : List (List Int)) (w : World) (hP : FpSlice w a P) (hL : MatSlice w b L) (hca : P.length ≤ ca) (hcb : L.length ≤ cb) (h : fgE P L = 0) (h0 : P.length = 0) :
    Calls Tryd.prog 33 #[.agg #[.slice a P.length ca, .slice b L.length cb]] w fun e w' => e = .returned (.tuple #[.agg #[.int .i64 0, .int .i64 0, .int .i64 0, .int .i64 0], .agg #[.int .i64 0, .int .i64 0, .int .i64 0, .int .i64 0], .int .i64 6]) ∧ Below w.heap.size w w' := by
  have hc := fun w1 (h1 : FpSlice w1 a P) (h2 : MatSlice w1 b L) => c_fgCheck a b ca cb P L w1 h1 h2 hca hcb
  rw [h] at hc
  have HC := Lib.hid hc
  have HP := Lib.hid hP
  have HL := Lib.hid hL
  have g : ((P.length : Int) == 0) = true := by rw [h0]; rfl
  clear hP hL hc h h0
  have hgen := sgen; have hgen2 := sgen2; have hgen3 := sgen3; go_enter Tryd.func33, Tryd.ntmps33
  go_upto_region 6 with (go_at_call 29; (with_reducible refine (HC.out _ (HP.out.below (Nat.le_refl _) (by exact belz)) (HL.out.below (Nat.le_refl _) (by exact belz))).mono ?_); rintro e w1 ⟨rfl, hb⟩; have hz := hb.size; (try simp only [szA, szS, szD, szN] at hz); (try (refine bcB (n := w.heap.size) hb ?_; intro h_w_0 e_w_0 d_w_0 _ _)); (try (refine bcB (n := w.heap.size + 1) hb ?_; intro h_w_1 e_w_1 d_w_1 _ _)); (try (refine bcB (n := w.heap.size + 1 + 1) hb ?_; intro h_w_2 e_w_2 d_w_2 _ _)); (try (refine bcB (n := w.heap.size + 1 + 1 + 1) hb ?_; intro h_w_3 e_w_3 d_w_3 _ _)); (try (refine bcB (n := w.heap.size + 1 + 1 + 1 + 1) hb ?_; intro h_w_4 e_w_4 d_w_4 _ _)))
  go_region
  all_goals go_wp2
  all_goals refine bodyPost_ret (v := .tuple #[.agg #[.int .i64 0, .int .i64 0, .int .i64 0, .int .i64 0], .agg #[.int .i64 0, .int .i64 0, .int .i64 0, .int .i64 0], .int .i64 6]) (by simp only [results, Tryd.results33]; go_simp) rfl ⟨rfl, ?_⟩
  all_goals exact belz
structure FpAt (w : World) (b : Nat) (p : Fp) : Prop where
  c0 : w.cell? ⟨b, 0, none⟩ = some (.int .i64 p.xn)
  c1 : w.cell? ⟨b, 1, none⟩ = some (.int .i64 p.xd)
  c2 : w.cell? ⟨b, 2, none⟩ = some (.int .i64 p.yn)
  c3 : w.cell? ⟨b, 3, none⟩ = some (.int .i64 p.yd)
  f0 : w.frozen? ⟨b, 0, none⟩ = false
  f1 : w.frozen? ⟨b, 1, none⟩ = false
  f2 : w.frozen? ⟨b, 2, none⟩ = false
  f3 : w.frozen? ⟨b, 3, none⟩ = false
structure BxAt (w : World) (B : Nat) (a b : Option Addr) (ca cb n m : Nat) (lo hi : Fp) : Prop where
  b0 : w.cell? ⟨B, 0, none⟩ = some (.slice a n ca)
  b1 : w.cell? ⟨B, 1, none⟩ = some (.slice b m cb)
  r0 : FpAt w (B + 1) ⟨0, 0, 0, 0⟩
  r1 : FpAt w (B + 1 + 1) ⟨0, 0, 0, 0⟩
  lo : FpAt w (B + 1 + 1 + 1) lo
  hi : FpAt w (B + 1 + 1 + 1 + 1) hi
  sz : B + 1 + 1 + 1 + 1 < w.heap.size
structure BxS (w : World) (B q : Nat) (a b : Option Addr) (ca cb n m : Nat) (lo hi x : Fp) : Prop where
  bx : BxAt w B a b ca cb n m lo hi
  p : FpAt w q x
  lt : q < w.heap.size
  lp : B + 1 + 1 + 1 + 1 < q
set_option maxRecDepth 100000 in
set_option maxHeartbeats 4000000 in
theorem c_Box_ok (a b : Option Addr) (ca cb : Nat) (P : List Fp) (L : List (List Int)) (w : World) (hP : FpSlice w a P) (hL : MatSlice w b L) (hca : P.length ≤ ca) (hcb : L.length ≤ cb) (h : fgE P L = 0) (h0 : P.length ≠ 0) :
    Calls Tryd.prog 33 #[.agg #[.slice a P.length ca, .slice b L.length cb]] w fun e w' => e = .returned (.tuple #[.agg #[.int .i64 (lows P).xn, .int .i64 (lows P).xd, .int .i64 (lows P).yn, .int .i64 (lows P).yd], .agg #[.int .i64 (highs P).xn, .int .i64 (highs P).xd, .int .i64 (highs P).yn, .int .i64 (highs P).yd], .int .i64 0]) ∧ Below w.heap.size w w' := by
  have hc := fun w1 (h1 : FpSlice w1 a P) (h2 : MatSlice w1 b L) => c_fgCheck a b ca cb P L w1 h1 h2 hca hcb
  rw [h] at hc
  have HC := Lib.hid hc
  obtain ⟨hp60, hl40, hep, hel⟩ := fgE_ok h
  have HP := Lib.hid hP
  have HL := Lib.hid hL
  have g : ((P.length : Int) == 0) = false := by simpa using h0
  have g1 : (0 : Int) < (P.length : Int) := by omega
  clear hL hc h hP
  have hhd : P[0]'(by omega) = P.head! := by cases P with
    | nil => exact absurd rfl h0
    | cons x l => rfl
  have hok0 := ptE_zero (fe_zero hep 0 (by omega))
  rw [hhd] at hok0
  have HH := Lib.hid hhd
  clear hhd
  have hgen := sgen; have hgen2 := sgen2; have hgen3 := sgen3; go_enter Tryd.func33, Tryd.ntmps33
  go_upto_region 7 with (go_at_call 29; (with_reducible refine (HC.out _ (HP.out.below (Nat.le_refl _) (by exact belz)) (HL.out.below (Nat.le_refl _) (by exact belz))).mono ?_); rintro e w1 ⟨rfl, hb⟩; have hz := hb.size; (try simp only [szA, szS, szD, szN] at hz); (try (refine bcB (n := w.heap.size) hb ?_; intro h_w_0 e_w_0 d_w_0 _ _)); (try (refine bcB (n := w.heap.size + 1) hb ?_; intro h_w_1 e_w_1 d_w_1 _ _)); (try (refine bcB (n := w.heap.size + 1 + 1) hb ?_; intro h_w_2 e_w_2 d_w_2 _ _)); (try (refine bcB (n := w.heap.size + 1 + 1 + 1) hb ?_; intro h_w_3 e_w_3 d_w_3 _ _)); (try (refine bcB (n := w.heap.size + 1 + 1 + 1 + 1) hb ?_; intro h_w_4 e_w_4 d_w_4 _ _)))
  have hb0 : Below w.heap.size w w1 := by exact belz
  obtain ⟨bb, off, ha, hbw, p0, p1, p2, p3⟩ := HP.out 0 (by omega)
  rw [← hb0.cell (p := ⟨bb, _, none⟩) hbw] at p0 p1 p2 p3
  have ne3 : ¬ bb = w.heap.size + 1 + 1 + 1 := by omega
  have ne4 : ¬ bb = w.heap.size + 1 + 1 + 1 + 1 := by omega
  have ne5 : ¬ w.heap.size + 1 + 1 + 1 = bb := by omega
  have ne6 : ¬ w.heap.size + 1 + 1 + 1 + 1 = bb := by omega
  have hb1 : bb < w1.heap.size := Nat.lt_of_lt_of_le hbw hb0.size
  have ix0 := @ix_Fp a bb off P.length ca 0 ha (by omega)
  rw [HH.out] at p0 p1 p2 p3
  have eadd : off + 0 * 4 = off := by omega
  rw [eadd] at ix0 p0 p1 p2 p3
  have ix9 : ∀ w, (Instr.indexAt 54 (.slice a P.length ca) (.int .i64 0)).run Tryd.prog w = .ok (.pointer (some ⟨bb, off, none⟩)) w := ix0
  clear ix0 ha
  generalize hh1 : P.head! = h1 at *
  go_region
  all_goals go_wp2
  all_goals go_loopg [35] P.length (fun gk i wr => ∃ k : Nat, gk + k = P.length ∧ i = .int .i64 k ∧ BxAt wr w.heap.size a b ca cb P.length L.length ((P.take k).foldl low P.head!) ((P.take k).foldl high P.head!) ∧ Below w.heap.size w wr)
  case atStart =>
    refine ⟨0, by omega, rfl, ?_, by exact belz⟩
    rw [hh1]
    constructor
    case sz => go_simp
    case r0 => constructor <;> ((try dsimp only); first | (go_simp; done) | go_keep)
    case r1 => constructor <;> ((try dsimp only); first | (go_simp; done) | go_keep)
    case lo => constructor <;> ((try dsimp only [List.take, List.foldl]); first | (go_simp; done) | go_keep)
    case hi => constructor <;> ((try dsimp only [List.take, List.foldl]); first | (go_simp; done) | go_keep)
    all_goals (first | (go_simp; done) | go_keep)
  case round =>
    obtain ⟨k, hk, rfl, hX, hbel⟩ := hrel
    by_cases hlt : k < P.length
    · obtain ⟨bb, off, ha, hbx, c0, c1, c2, c3⟩ := (HP.out.below (Nat.le_refl _) hbel) k hlt
      have ix1 := @ix_Fp a bb off P.length ca k ha hlt
      have hat := ptE_zero (fe_zero hep k hlt)
      have hin : ∀ p ∈ P.take k, ptOk p := fun p hp => ptE_zero (fe_mem0 hep (List.mem_of_mem_take hp))
      rw [hh1] at hX
      have hlo := fold_ok low low_ok (P.take k) h1 hok0 hin
      have hhi := fold_ok high high_ok (P.take k) h1 hok0 hin
      have hsl := fold_at low h1 P k hlt
      have hsh := fold_at high h1 P k hlt
      clear ha
      generalize (P.take k).foldl low h1 = lo at *
      generalize (P.take k).foldl high h1 = hi at *
      generalize P[k] = x at *
      obtain ⟨xn, xd, yn, yd⟩ := x
      obtain ⟨l0, l1, l2, l3⟩ := lo
      obtain ⟨h0, h1', h2, h3⟩ := hi
      rw [low_eq] at hsl
      rw [high_eq] at hsh
      have hc1 := fun w1 => c_less xn xd l0 l1 w1 hat.1 hlo.1
      have hc2 := fun w1 => c_less yn yd l2 l3 w1 hat.2 hlo.2
      have hc3 := fun w1 => c_less h0 h1' xn xd w1 hhi.1 hat.1
      have hc4 := fun w1 => c_less h2 h3 yn yd w1 hhi.2 hat.2
      clear hat hlo hhi
      generalize decide (xn * l1 < l0 * xd) = t1 at *
      generalize decide (yn * l3 < l2 * yd) = t2 at *
      generalize decide (h0 * xd < xn * h1') = t3 at *
      generalize decide (h2 * yd < yn * h3) = t4 at *
      obtain ⟨b0, b1, ⟨r0, r1, r2, r3, rf0, rf1, rf2, rf3⟩, ⟨s0, s1, s2, s3, sf0, sf1, sf2, sf3⟩, ⟨e0, e1, e2, e3, ef0, ef1, ef2, ef3⟩, ⟨g0, g1', g2, g3, gf0, gf1, gf2, gf3⟩, n4⟩ := hX
      dsimp only at *
      have n0 : w.heap.size < wr.heap.size := (by omega); have n1 : w.heap.size + 1 < wr.heap.size := (by omega); have n2 : w.heap.size + 1 + 1 < wr.heap.size := (by omega); have n3 : w.heap.size + 1 + 1 + 1 < wr.heap.size := (by omega); have m0 := Nat.ne_of_lt n0; have m1 := Nat.ne_of_lt n1; have m2 := Nat.ne_of_lt n2; have m3 := Nat.ne_of_lt n3; have m4 := Nat.ne_of_lt n4
      have HSl := Lib.hid hsl
      have HSh := Lib.hid hsh
      have HC1 := Lib.hid hc1
      have HC2 := Lib.hid hc2
      have HC3 := Lib.hid hc3
      have HC4 := Lib.hid hc4
      clear hc1 hc2 hc3 hc4 hsl hsh
      go_upto_if 44 with (go_at_call 59; (with_reducible refine (HC1.out _).mono ?_); rintro e y1 ⟨rfl, hb⟩; have hz := hb.size; (try simp only [szA, szS, szD, szN] at hz); (try (refine bcB (n := w.heap.size) hb ?_; intro h_w_0 e_w_0 d_w_0 _ _)); (try (refine bcB (n := w.heap.size + 1) hb ?_; intro h_w_1 e_w_1 d_w_1 _ _)); (try (refine bcB (n := w.heap.size + 1 + 1) hb ?_; intro h_w_2 e_w_2 d_w_2 _ _)); (try (refine bcB (n := w.heap.size + 1 + 1 + 1) hb ?_; intro h_w_3 e_w_3 d_w_3 _ _)); (try (refine bcB (n := w.heap.size + 1 + 1 + 1 + 1) hb ?_; intro h_w_4 e_w_4 d_w_4 _ _)); (try (refine bcB (n := wr.heap.size) hb ?_; intro h_wr_0 e_wr_0 d_wr_0 _ _)))
      go_cut [] (fun wc => BxS wc w.heap.size wr.heap.size a b ca cb P.length L.length ⟨bif t1 then xn else l0, bif t1 then xd else l1, l2, l3⟩ ⟨h0, h1', h2, h3⟩ ⟨xn, xd, yn, yd⟩ ∧ Below w.heap.size w wc)
      case first =>
        cases t1
        all_goals go_wp2
        all_goals go_meet
        all_goals
          (try dsimp only)
          refine ⟨⟨⟨?_, ?_, ?_, ?_, ?_, ?_, ?_⟩, ?_, ?_, ?_⟩, ?_⟩; (focus (first | (go_simp; done) | go_keep)); (focus (first | (go_simp; done) | go_keep)); (focus (constructor <;> (first | (go_simp; done) | go_keep))); (focus (constructor <;> (first | (go_simp; done) | go_keep))); (focus (constructor <;> (first | (go_simp; done) | go_keep))); (focus (constructor <;> (first | (go_simp; done) | go_keep))); (focus ((try simp only [szA, szS, szD, szN] at *); omega)); (focus (constructor <;> (first | (go_simp; done) | go_keep))); (focus ((try simp only [szA, szS, szD, szN] at *); omega)); (focus omega); exact belz
      obtain ⟨hS, hbel2⟩ := hcut
      obtain ⟨v1, rfl⟩ : ∃ v : World, v = wc := ⟨_, rfl⟩
      obtain ⟨⟨b0, b1, ⟨r0, r1, r2, r3, rf0, rf1, rf2, rf3⟩, ⟨s0, s1, s2, s3, sf0, sf1, sf2, sf3⟩, ⟨e0, e1, e2, e3, ef0, ef1, ef2, ef3⟩, ⟨g0, g1', g2, g3, gf0, gf1, gf2, gf3⟩, hsz⟩, ⟨p0, p1, p2, p3, pf0, pf1, pf2, pf3⟩, hp1, hp2⟩ := hS; dsimp only at *
      go_upto_if 53 with (go_at_call 59; (with_reducible refine (HC2.out _).mono ?_); rintro e y2 ⟨rfl, hb⟩; have hz := hb.size; (try simp only [szA, szS, szD, szN] at hz); (try (refine bcB (n := w.heap.size) hb ?_; intro h_w_0 e_w_0 d_w_0 _ _)); (try (refine bcB (n := w.heap.size + 1) hb ?_; intro h_w_1 e_w_1 d_w_1 _ _)); (try (refine bcB (n := w.heap.size + 1 + 1) hb ?_; intro h_w_2 e_w_2 d_w_2 _ _)); (try (refine bcB (n := w.heap.size + 1 + 1 + 1) hb ?_; intro h_w_3 e_w_3 d_w_3 _ _)); (try (refine bcB (n := w.heap.size + 1 + 1 + 1 + 1) hb ?_; intro h_w_4 e_w_4 d_w_4 _ _)); (try (refine bcB (n := wr.heap.size) hb ?_; intro h_wr_0 e_wr_0 d_wr_0 _ _)))
      go_cut [] (fun wc => BxS wc w.heap.size wr.heap.size a b ca cb P.length L.length ⟨bif t1 then xn else l0, bif t1 then xd else l1, bif t2 then yn else l2, bif t2 then yd else l3⟩ ⟨h0, h1', h2, h3⟩ ⟨xn, xd, yn, yd⟩ ∧ Below w.heap.size w wc)
      case first =>
        cases t2
        all_goals go_wp2
        all_goals go_meet
        all_goals
          (try dsimp only)
          refine ⟨⟨⟨?_, ?_, ?_, ?_, ?_, ?_, ?_⟩, ?_, ?_, ?_⟩, ?_⟩; (focus (first | (go_simp; done) | go_keep)); (focus (first | (go_simp; done) | go_keep)); (focus (constructor <;> (first | (go_simp; done) | go_keep))); (focus (constructor <;> (first | (go_simp; done) | go_keep))); (focus (constructor <;> (first | (go_simp; done) | go_keep))); (focus (constructor <;> (first | (go_simp; done) | go_keep))); (focus ((try simp only [szA, szS, szD, szN] at *); omega)); (focus (constructor <;> (first | (go_simp; done) | go_keep))); (focus ((try simp only [szA, szS, szD, szN] at *); omega)); (focus omega); exact belz
      obtain ⟨hS, hbel3⟩ := hcut
      obtain ⟨v2, rfl⟩ : ∃ v : World, v = wc := ⟨_, rfl⟩
      obtain ⟨⟨b0, b1, ⟨r0, r1, r2, r3, rf0, rf1, rf2, rf3⟩, ⟨s0, s1, s2, s3, sf0, sf1, sf2, sf3⟩, ⟨e0, e1, e2, e3, ef0, ef1, ef2, ef3⟩, ⟨g0, g1', g2, g3, gf0, gf1, gf2, gf3⟩, hsz⟩, ⟨p0, p1, p2, p3, pf0, pf1, pf2, pf3⟩, hp1, hp2⟩ := hS; dsimp only at *
      go_upto_if 62 with (go_at_call 59; (with_reducible refine (HC3.out _).mono ?_); rintro e y3 ⟨rfl, hb⟩; have hz := hb.size; (try simp only [szA, szS, szD, szN] at hz); (try (refine bcB (n := w.heap.size) hb ?_; intro h_w_0 e_w_0 d_w_0 _ _)); (try (refine bcB (n := w.heap.size + 1) hb ?_; intro h_w_1 e_w_1 d_w_1 _ _)); (try (refine bcB (n := w.heap.size + 1 + 1) hb ?_; intro h_w_2 e_w_2 d_w_2 _ _)); (try (refine bcB (n := w.heap.size + 1 + 1 + 1) hb ?_; intro h_w_3 e_w_3 d_w_3 _ _)); (try (refine bcB (n := w.heap.size + 1 + 1 + 1 + 1) hb ?_; intro h_w_4 e_w_4 d_w_4 _ _)); (try (refine bcB (n := wr.heap.size) hb ?_; intro h_wr_0 e_wr_0 d_wr_0 _ _)))
      go_cut [] (fun wc => BxS wc w.heap.size wr.heap.size a b ca cb P.length L.length ⟨bif t1 then xn else l0, bif t1 then xd else l1, bif t2 then yn else l2, bif t2 then yd else l3⟩ ⟨bif t3 then xn else h0, bif t3 then xd else h1', h2, h3⟩ ⟨xn, xd, yn, yd⟩ ∧ Below w.heap.size w wc)
      case first =>
        cases t3
        all_goals go_wp2
        all_goals go_meet
        all_goals
          (try dsimp only)
          refine ⟨⟨⟨?_, ?_, ?_, ?_, ?_, ?_, ?_⟩, ?_, ?_, ?_⟩, ?_⟩; (focus (first | (go_simp; done) | go_keep)); (focus (first | (go_simp; done) | go_keep)); (focus (constructor <;> (first | (go_simp; done) | go_keep))); (focus (constructor <;> (first | (go_simp; done) | go_keep))); (focus (constructor <;> (first | (go_simp; done) | go_keep))); (focus (constructor <;> (first | (go_simp; done) | go_keep))); (focus ((try simp only [szA, szS, szD, szN] at *); omega)); (focus (constructor <;> (first | (go_simp; done) | go_keep))); (focus ((try simp only [szA, szS, szD, szN] at *); omega)); (focus omega); exact belz
      obtain ⟨hS, hbel4⟩ := hcut
      obtain ⟨v3, rfl⟩ : ∃ v : World, v = wc := ⟨_, rfl⟩
      obtain ⟨⟨b0, b1, ⟨r0, r1, r2, r3, rf0, rf1, rf2, rf3⟩, ⟨s0, s1, s2, s3, sf0, sf1, sf2, sf3⟩, ⟨e0, e1, e2, e3, ef0, ef1, ef2, ef3⟩, ⟨g0, g1', g2, g3, gf0, gf1, gf2, gf3⟩, hsz⟩, ⟨p0, p1, p2, p3, pf0, pf1, pf2, pf3⟩, hp1, hp2⟩ := hS; dsimp only at *
      go_upto_if 71 with (go_at_call 59; (with_reducible refine (HC4.out _).mono ?_); rintro e y4 ⟨rfl, hb⟩; have hz := hb.size; (try simp only [szA, szS, szD, szN] at hz); (try (refine bcB (n := w.heap.size) hb ?_; intro h_w_0 e_w_0 d_w_0 _ _)); (try (refine bcB (n := w.heap.size + 1) hb ?_; intro h_w_1 e_w_1 d_w_1 _ _)); (try (refine bcB (n := w.heap.size + 1 + 1) hb ?_; intro h_w_2 e_w_2 d_w_2 _ _)); (try (refine bcB (n := w.heap.size + 1 + 1 + 1) hb ?_; intro h_w_3 e_w_3 d_w_3 _ _)); (try (refine bcB (n := w.heap.size + 1 + 1 + 1 + 1) hb ?_; intro h_w_4 e_w_4 d_w_4 _ _)); (try (refine bcB (n := wr.heap.size) hb ?_; intro h_wr_0 e_wr_0 d_wr_0 _ _)))
      cases t4
      · go_wp2
        go_roundg (P.length - (k + 1))
        case measure => omega
        case rel =>
          refine ⟨k + 1, by omega, by go_num, ?_, ?_⟩
          · rw [hh1, HSl.out, HSh.out]
            (try dsimp only)
            refine ⟨?_, ?_, ?_, ?_, ?_, ?_, ?_⟩; (focus (first | (go_simp; done) | go_keep)); (focus (first | (go_simp; done) | go_keep)); (focus (constructor <;> (first | (go_simp; done) | go_keep))); (focus (constructor <;> (first | (go_simp; done) | go_keep))); (focus (constructor <;> (first | (go_simp; done) | go_keep))); (focus (constructor <;> (first | (go_simp; done) | go_keep))); (focus ((try simp only [szA, szS, szD, szN] at *); omega))
          · exact belz
      · go_wp2
        go_roundg (P.length - (k + 1))
        case measure => omega
        case rel =>
          refine ⟨k + 1, by omega, by go_num, ?_, ?_⟩
          · rw [hh1, HSl.out, HSh.out]
            (try dsimp only)
            refine ⟨?_, ?_, ?_, ?_, ?_, ?_, ?_⟩; (focus (first | (go_simp; done) | go_keep)); (focus (first | (go_simp; done) | go_keep)); (focus (constructor <;> (first | (go_simp; done) | go_keep))); (focus (constructor <;> (first | (go_simp; done) | go_keep))); (focus (constructor <;> (first | (go_simp; done) | go_keep))); (focus (constructor <;> (first | (go_simp; done) | go_keep))); (focus ((try simp only [szA, szS, szD, szN] at *); omega))
          · exact belz
    · obtain rfl : k = P.length := by omega
      rw [List.take_of_length_le (Nat.le_refl _)] at hX
      change BxAt wr w.heap.size a b ca cb P.length L.length (lows P) (highs P) at hX
      clear hlt
      rcases hlo : lows P with ⟨l0, l1, l2, l3⟩
      rcases hhi : highs P with ⟨h0, h1', h2, h3⟩
      rw [hlo, hhi] at hX
      have HLo := Lib.hid hlo
      have HHi := Lib.hid hhi
      clear hlo hhi
      obtain ⟨b0, b1, ⟨r0, r1, r2, r3, rf0, rf1, rf2, rf3⟩, ⟨s0, s1, s2, s3, sf0, sf1, sf2, sf3⟩, ⟨e0, e1, e2, e3, ef0, ef1, ef2, ef3⟩, ⟨g0, g1', g2, g3, gf0, gf1, gf2, gf3⟩, n4⟩ := hX
      dsimp only at *
      go_upto_region 21 with fail
      go_region
      all_goals go_wp2
      all_goals refine bodyPost_ret (v := .tuple #[.agg #[.int .i64 l0, .int .i64 l1, .int .i64 l2, .int .i64 l3], .agg #[.int .i64 h0, .int .i64 h1', .int .i64 h2, .int .i64 h3], .int .i64 0]) (by simp only [results, Tryd.results33]; go_simp) rfl ⟨by rw [HLo.out, HHi.out], ?_⟩
      all_goals exact belz
end Go.Proofs.YtbcehnhiedbbbaaDoor
