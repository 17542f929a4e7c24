/- The walk through the law FigureMaps. -/
import Derived.Test.YtbcehnhiedbbbaaDoorWalkMpe
import Derived.Test.YtbcehnhiedbbbaaDoorWalkFgW
import Derived.Test.YtbcehnhiedbbbaaDoorWalkFgE
import Derived.Test.YtbcehnhiedbbbaaDoorWalkFrd
set_option linter.unusedVariables false
set_option linter.unusedSimpArgs false
namespace Go.Proofs.YtbcehnhiedbbbaaDoor
open Go.RowKit
theorem c_lnX (m : M6) (xn xd yn yd : Int) (w : World) (hm : mE m = 0) (hx : okF (xn, xd)) (hy : okF (yn, yd)) :
    Calls Tryd.prog 37 #[.agg #[.int .i64 (m 0).1, .int .i64 (m 0).2], .agg #[.int .i64 xn, .int .i64 xd], .agg #[.int .i64 (m 1).1, .int .i64 (m 1).2], .agg #[.int .i64 yn, .int .i64 yd], .agg #[.int .i64 (m 2).1, .int .i64 (m 2).2]] w fun e w' => ∃ n d, e = .returned (.tuple #[.agg #[.int .i64 n, .int .i64 d], .int .i64 (mX m ⟨xn, xd, yn, yd⟩).e]) ∧ ((mX m ⟨xn, xd, yn, yd⟩).e = 0 → n = (mX m ⟨xn, xd, yn, yd⟩).n ∧ d = (mX m ⟨xn, xd, yn, yd⟩).d) ∧ Below w.heap.size w w' :=
  c_line (m 0).1 (m 0).2 xn xd (m 1).1 (m 1).2 yn yd (m 2).1 (m 2).2 w (mE_ok hm 0 (by decide)) hx (mE_ok hm 1 (by decide)) hy (mE_ok hm 2 (by decide))
theorem c_lnY (m : M6) (xn xd yn yd : Int) (w : World) (hm : mE m = 0) (hx : okF (xn, xd)) (hy : okF (yn, yd)) :
    Calls Tryd.prog 37 #[.agg #[.int .i64 (m 3).1, .int .i64 (m 3).2], .agg #[.int .i64 xn, .int .i64 xd], .agg #[.int .i64 (m 4).1, .int .i64 (m 4).2], .agg #[.int .i64 yn, .int .i64 yd], .agg #[.int .i64 (m 5).1, .int .i64 (m 5).2]] w fun e w' => ∃ n d, e = .returned (.tuple #[.agg #[.int .i64 n, .int .i64 d], .int .i64 (mY m ⟨xn, xd, yn, yd⟩).e]) ∧ ((mY m ⟨xn, xd, yn, yd⟩).e = 0 → n = (mY m ⟨xn, xd, yn, yd⟩).n ∧ d = (mY m ⟨xn, xd, yn, yd⟩).d) ∧ Below w.heap.size w w' :=
  c_line (m 3).1 (m 3).2 xn xd (m 4).1 (m 4).2 yn yd (m 5).1 (m 5).2 w (mE_ok hm 3 (by decide)) hx (mE_ok hm 4 (by decide)) hy (mE_ok hm 5 (by decide))
/-- The law's error. -/
def mpErr (m : M6) (P : List Fp) (L : List (List Int)) : Int := if fgE P L ≠ 0 then fgE P L else if mE m ≠ 0 then mE m else fe (mpE m) P
structure GOut (m : M6) (P : List Fp) (L : List (List Int)) (w : World) (B : Nat) (ga gb : Option Addr) (gn gc hn hc : Nat) : Prop where
  bad : mpErr m P L ≠ 0 → ga = none ∧ gn = 0 ∧ gc = 0 ∧ gb = none ∧ hn = 0 ∧ hc = 0
  good : mpErr m P L = 0 → gn = P.length ∧ hn = L.length ∧ FigOwn w B (.slice ga (P.map (mpP m)).length gc) (.slice gb L.length hc) (P.map (mpP m)) L
theorem c_Mapped (a b : Option Addr) (ca cb : Nat) (P : List Fp) (L : List (List Int)) (m : M6) (w : World) (hP : FpSlice w a P) (hL : MatSlice w b L) (hca : P.length ≤ ca) (hcb : L.length ≤ cb) :
    Calls Tryd.prog 35 #[.agg #[.slice a P.length ca, .slice b L.length cb], .agg #[.int .i64 (m 0).1, .int .i64 (m 0).2, .int .i64 (m 1).1, .int .i64 (m 1).2, .int .i64 (m 2).1, .int .i64 (m 2).2, .int .i64 (m 3).1, .int .i64 (m 3).2, .int .i64 (m 4).1, .int .i64 (m 4).2, .int .i64 (m 5).1, .int .i64 (m 5).2]] w fun e w' => ∃ ga gn gc gb hn hc, e = .returned (.tuple #[.agg #[.slice ga gn gc, .slice gb hn hc], .int .i64 (mpErr m P L)]) ∧ GOut m P L w' w.heap.size ga gb gn gc hn hc ∧ Below w.heap.size w w' := by
  by_cases h1 : fgE P L = 0
  · by_cases h2 : mE m = 0
    · have e0 : mpErr m P L = fe (mpE m) P := by unfold mpErr; rw [if_neg (by omega), if_neg (by omega)]
      refine (c_Mapped_ok a b ca cb P L m w hP hL hca hcb h1 h2).mono fun e w' ⟨h3, h4⟩ => ?_
      unfold MpRes at h3
      by_cases h5 : fe (mpE m) P = 0
      · rw [if_pos h5] at h3
        obtain ⟨ga, gb, gc, hc, he, hf⟩ := h3
        exact ⟨ga, _, gc, gb, _, hc, by rw [e0, h5]; exact he, ⟨fun h => absurd (e0.trans h5) h, fun _ => ⟨by simp, rfl, hf⟩⟩, h4⟩
      · rw [if_neg h5] at h3
        exact ⟨none, 0, 0, none, 0, 0, by rw [e0]; exact h3, ⟨fun _ => ⟨rfl, rfl, rfl, rfl, rfl, rfl⟩, fun h => absurd (e0.symm.trans h) h5⟩, h4⟩
    · have e0 : mpErr m P L = mE m := by unfold mpErr; rw [if_neg (by omega), if_pos h2]
      refine (c_Mapped_m a b ca cb P L m w hP hL hca hcb h1 h2).mono fun e w' ⟨h3, h4⟩ => ?_
      exact ⟨none, 0, 0, none, 0, 0, by rw [e0]; exact h3, ⟨fun _ => ⟨rfl, rfl, rfl, rfl, rfl, rfl⟩, fun h => absurd (e0.symm.trans h) h2⟩, h4⟩
  · have e0 : mpErr m P L = fgE P L := by unfold mpErr; rw [if_pos h1]
    refine (c_Mapped_bad a b ca cb P L m w hP hL hca hcb h1).mono fun e w' ⟨h3, h4⟩ => ?_
    exact ⟨none, 0, 0, none, 0, 0, by rw [e0]; exact h3, ⟨fun _ => ⟨rfl, rfl, rfl, rfl, rfl, rfl⟩, fun h => absurd (e0.symm.trans h) h1⟩, h4⟩
structure FmAt (w : World) (B q : Nat) (a b ga gb : Option Addr) (np nl ca cb gn gc hn hc : Nat) (m : M6) : Prop where
  c0 : w.cell? ⟨B, 0, none⟩ = some (.slice a np ca)
  c1 : w.cell? ⟨B, 1, none⟩ = some (.slice b nl cb)
  d0 : w.cell? ⟨B + 1, 0, none⟩ = some (.int .i64 (m 0).1)
  d1 : w.cell? ⟨B + 1, 1, none⟩ = some (.int .i64 (m 0).2)
  d2 : w.cell? ⟨B + 1, 2, none⟩ = some (.int .i64 (m 1).1)
  d3 : w.cell? ⟨B + 1, 3, none⟩ = some (.int .i64 (m 1).2)
  d4 : w.cell? ⟨B + 1, 4, none⟩ = some (.int .i64 (m 2).1)
  d5 : w.cell? ⟨B + 1, 5, none⟩ = some (.int .i64 (m 2).2)
  d6 : w.cell? ⟨B + 1, 6, none⟩ = some (.int .i64 (m 3).1)
  d7 : w.cell? ⟨B + 1, 7, none⟩ = some (.int .i64 (m 3).2)
  d8 : w.cell? ⟨B + 1, 8, none⟩ = some (.int .i64 (m 4).1)
  d9 : w.cell? ⟨B + 1, 9, none⟩ = some (.int .i64 (m 4).2)
  d10 : w.cell? ⟨B + 1, 10, none⟩ = some (.int .i64 (m 5).1)
  d11 : w.cell? ⟨B + 1, 11, none⟩ = some (.int .i64 (m 5).2)
  g0 : w.cell? ⟨q, 0, none⟩ = some (.slice ga gn gc)
  g1 : w.cell? ⟨q, 1, none⟩ = some (.slice gb hn hc)
  lt : B + 1 < w.heap.size
  lq : q < w.heap.size
theorem FmAt.below {w w' : World} {B q K : Nat} {a b ga gb : Option Addr} {np nl ca cb gn gc hn hc : Nat} {m : M6} (h : FmAt w B q a b ga gb np nl ca cb gn gc hn hc m) (hb : Below K w w') (hK : B + 1 < K) (hq : q < K) : FmAt w' B q a b ga gb np nl ca cb gn gc hn hc m :=
  ⟨(hb.cell (p := ⟨B, 0, none⟩) (by show B < _; omega)).trans h.c0, (hb.cell (p := ⟨B, 1, none⟩) (by show B < _; omega)).trans h.c1, (hb.cell (p := ⟨B + 1, 0, none⟩) (by show B + 1 < _; omega)).trans h.d0, (hb.cell (p := ⟨B + 1, 1, none⟩) (by show B + 1 < _; omega)).trans h.d1, (hb.cell (p := ⟨B + 1, 2, none⟩) (by show B + 1 < _; omega)).trans h.d2, (hb.cell (p := ⟨B + 1, 3, none⟩) (by show B + 1 < _; omega)).trans h.d3, (hb.cell (p := ⟨B + 1, 4, none⟩) (by show B + 1 < _; omega)).trans h.d4, (hb.cell (p := ⟨B + 1, 5, none⟩) (by show B + 1 < _; omega)).trans h.d5, (hb.cell (p := ⟨B + 1, 6, none⟩) (by show B + 1 < _; omega)).trans h.d6, (hb.cell (p := ⟨B + 1, 7, none⟩) (by show B + 1 < _; omega)).trans h.d7, (hb.cell (p := ⟨B + 1, 8, none⟩) (by show B + 1 < _; omega)).trans h.d8, (hb.cell (p := ⟨B + 1, 9, none⟩) (by show B + 1 < _; omega)).trans h.d9, (hb.cell (p := ⟨B + 1, 10, none⟩) (by show B + 1 < _; omega)).trans h.d10, (hb.cell (p := ⟨B + 1, 11, none⟩) (by show B + 1 < _; omega)).trans h.d11, (hb.cell (p := ⟨q, 0, none⟩) hq).trans h.g0, (hb.cell (p := ⟨q, 1, none⟩) hq).trans h.g1, Nat.lt_of_lt_of_le h.lt hb.size, Nat.lt_of_lt_of_le h.lq hb.size⟩
structure QIn (w : World) (B : Nat) (xn xd yn yd q0 q1 q2 q3 : Int) : Prop where
  p0 : w.cell? ⟨B, 0, none⟩ = some (.int .i64 xn)
  p1 : w.cell? ⟨B, 1, none⟩ = some (.int .i64 xd)
  p2 : w.cell? ⟨B, 2, none⟩ = some (.int .i64 yn)
  p3 : w.cell? ⟨B, 3, none⟩ = some (.int .i64 yd)
  q0 : w.cell? ⟨B + 1, 0, none⟩ = some (.int .i64 q0)
  q1 : w.cell? ⟨B + 1, 1, none⟩ = some (.int .i64 q1)
  q2 : w.cell? ⟨B + 1, 2, none⟩ = some (.int .i64 q2)
  q3 : w.cell? ⟨B + 1, 3, none⟩ = some (.int .i64 q3)
  f0 : w.frozen? ⟨B + 1, 0, none⟩ = false
  f1 : w.frozen? ⟨B + 1, 1, none⟩ = false
  f2 : w.frozen? ⟨B + 1, 2, none⟩ = false
  f3 : w.frozen? ⟨B + 1, 3, none⟩ = false
  lt : B + 1 < w.heap.size
def InvQ (xk : Int) (X Y : FrR) (j : Nat) (x q0 q1 q2 q3 : Int) : Prop := match j with
  | 0 => x = xk
  | 1 => x = (if xk = 0 then X.e else xk) ∧ (x = 0 → q0 = X.n ∧ q1 = X.d)
  | _ => x = (if xk = 0 then (if X.e ≠ 0 then X.e else Y.e) else xk) ∧ (x = 0 → q0 = X.n ∧ q1 = X.d ∧ q2 = Y.n ∧ q3 = Y.d)
set_option maxRecDepth 100000 in
set_option maxHeartbeats 4000000 in
theorem walk_FigureMaps (a b : Option Addr) (ca cb : Nat) (P : List Fp) (L : List (List Int)) (m : M6) (w : World) (hT : NTab w) (hE : NEr w) (hM : NMx w) (hP : FpSlice w a P) (hL : MatSlice w b L) (hca : P.length ≤ ca) (hcb : L.length ≤ cb) :
    Calls Tryd.prog 10 #[.agg #[.slice a P.length ca, .slice b L.length cb], .agg #[.int .i64 (m 0).1, .int .i64 (m 0).2, .int .i64 (m 1).1, .int .i64 (m 1).2, .int .i64 (m 2).1, .int .i64 (m 2).2, .int .i64 (m 3).1, .int .i64 (m 3).2, .int .i64 (m 4).1, .int .i64 (m 4).2, .int .i64 (m 5).1, .int .i64 (m 5).2]] w fun e w' => e = .returned (.bool true) ∧ Below w.heap.size w w' := by
  have HMp := Lib.hid (fun w1 h1 h2 => c_Mapped a b ca cb P L m w1 h1 h2 hca hcb)
  have HEr := Lib.hid (fun w1 (h1 : FpSlice w1 a P) (h2 : MatSlice w1 b L) => c_fgErr a b ca cb P L w1 h1 h2 hca hcb)
  obtain ⟨E, hEr⟩ : ∃ E, E = mpErr m P L := ⟨_, rfl⟩
  rw [← hEr] at HMp
  have HErr := Lib.hid hEr
  obtain ⟨i0, hi0, hz0, hz1, hz2⟩ := info_parts (show (Tryd.prog.info? 63).map (fun i => (i.zero, i.size, i.bytes)) = some (some (.agg #[.int .i64 0, .int .i64 0, .int .i64 0, .int .i64 0]), 4, 32) by kernel_rfl)
  have HP := Lib.hid hP
  have HL := Lib.hid hL
  have HT := Lib.hid hT
  have HE := Lib.hid hE
  have HM := Lib.hid hM
  clear hP hL hT hE hM hEr
  have hgen := sgen; have hgen2 := sgen2; have hgen3 := sgen3; go_enter Tryd.func10, Tryd.ntmps10
  go_wp2_with (first | (go_at_call 26; (with_reducible refine (c_fgWorks _ (HT.out.below (by exact belz)) (HE.out.below (by exact belz)) (HM.out.below (by exact belz))).mono ?_); rintro e w1 ⟨rfl, hb⟩; have hz := hb.size; (try simp only [szA, szS, szD, szN] at hz); (try (refine bcB (n := w.heap.size) hb ?_; intro h_w_0 e_w_0 d_w_0 _ _)); (try (refine bcB (n := w.heap.size + 1) hb ?_; intro h_w_1 e_w_1 d_w_1 _ _))) | (go_at_call 35; (with_reducible refine (HMp.out _ (HP.out.below (Nat.le_refl _) (by exact belz)) (HL.out.below (Nat.le_refl _) (by exact belz))).mono ?_); rintro e w2 ⟨ga, gn, gc, gb, hn, hc, rfl, hG, hb⟩; have hz := hb.size; (try simp only [szA, szS, szD, szN] at hz); (try (refine bcB (n := w.heap.size) hb ?_; intro h_w_0 e_w_0 d_w_0 _ _)); (try (refine bcB (n := w.heap.size + 1) hb ?_; intro h_w_1 e_w_1 d_w_1 _ _))) | (go_at_call 28; (with_reducible refine (HEr.out _ (HP.out.below (Nat.le_refl _) (by exact belz)) (HL.out.below (Nat.le_refl _) (by exact belz))).mono ?_); rintro e w3 ⟨rfl, hb⟩; have hz := hb.size; (try simp only [szA, szS, szD, szN] at hz); (try (refine bcB (n := w.heap.size) hb ?_; intro h_w_0 e_w_0 d_w_0 _ _)); (try (refine bcB (n := w.heap.size + 1) hb ?_; intro h_w_1 e_w_1 d_w_1 _ _)); (try (refine bcB (n := w2.heap.size) hb ?_; intro h_w2_0 e_w2_0 d_w2_0 _ _))))
  have hb0 : Below w.heap.size w w3 := by exact belz
  have hlw : w.heap.size + 1 < w3.heap.size := by assumption
  have hl2 : w2.heap.size < w3.heap.size := by assumption
  have hFm : FmAt w3 w.heap.size w2.heap.size a b ga gb P.length L.length ca cb gn gc hn hc m := by
    constructor
    case lt => assumption
    case lq => assumption
    all_goals first | (go_simp; done) | go_keep
  have HG := Lib.hid hG
  have hB2 : Below w2.heap.size w2 w3 := by (clear hb0; exact belz)
  clear hG
  obtain ⟨F, hF⟩ : ∃ F, F = fgE P L := ⟨_, rfl⟩
  have HF0 := Lib.hid hF
  rw [← hF] at HEr ⊢
  clear hF
  go_loopg [7, 26] 6 (fun gk x7 i wr => ∃ (j : Nat) (x : Int), gk + j = 6 ∧ i = .int .i64 j ∧ x7 = .int .i64 x ∧ x = (if F = 0 then fe (fun c => fcE c.1 c.2) ((mL m).take j) else F) ∧ Below w3.heap.size w3 wr)
  case atStart => exact ⟨0, F, by omega, rfl, rfl, by split; (rename_i h; exact h); rfl, Below.refl _ _⟩
  case round =>
    obtain ⟨j, x, hj, rfl, rfl, hx, hbel⟩ := hrel
    have hsz := hbel.size
    by_cases hj6 : j < 6
    · have ixm := ix6 m j hj6
      have hsn := fe_snoc (fun c : Int × Int => fcE c.1 c.2) (mL m) j hj6
      rw [mL_at m j hj6] at hsn
      have hk := fun w1 => c_fcCheck (m j).1 (m j).2 w1
      (try dsimp only at hsn)
      generalize fcE (m j).1 (m j).2 = y at *
      have HF := Lib.hid hk
      clear hk
      by_cases h0 : x = 0
      · have hn : y = (if F = 0 then fe (fun c : Int × Int => fcE c.1 c.2) ((mL m).take (j + 1)) else F) := by
          by_cases hF : F = 0
          · rw [if_pos hF] at hx ⊢
            rw [hsn, if_pos (hx.symm.trans h0)]
          · rw [if_neg hF] at hx; exact absurd (hx.symm.trans h0) hF
        subst h0
        clear hx hsn
        have HN := Lib.hid hn
        clear hn
        go_wp2_with (go_at_call 36; (with_reducible refine (HF.out _).mono ?_); rintro e w4 ⟨rfl, hb⟩; have hz := hb.size; (try simp only [szA, szS, szD, szN] at hz); (try (refine bcB (n := wr.heap.size) hb ?_; intro h_wr_0 e_wr_0 d_wr_0 _ _)))
        go_roundg (6 - (j + 1))
        case measure => omega
        case rel => exact ⟨j + 1, y, by omega, by go_num, rfl, HN.out, hbel.trans ((show Below wr.heap.size wr w4 by (clear hbel hb0 hB2; exact belz)).mono hbel.size)⟩
      · have hn : x = (if F = 0 then fe (fun c : Int × Int => fcE c.1 c.2) ((mL m).take (j + 1)) else F) := by
          by_cases hF : F = 0
          · rw [if_pos hF] at hx ⊢
            rw [hsn, if_neg (fun h => h0 (hx.trans h))]; exact hx
          · rw [if_neg hF] at hx ⊢; exact hx
        have g : (x == 0) = false := by simpa using h0
        have HN := Lib.hid hn
        clear hn hx hsn
        go_wp2_with fail
        go_roundg (6 - (j + 1))
        case measure => omega
        case rel => exact ⟨j + 1, x, by omega, by go_num, rfl, HN.out, hbel.trans ((show Below wr.heap.size wr _ by (clear hbel hb0 hB2; exact belz)).mono hbel.size)⟩
    · obtain rfl : j = 6 := by omega
      have hx1 : x = if F = 0 then mE m else F := hx
      have hEx : E = if F ≠ 0 then F else if mE m ≠ 0 then mE m else fe (mpE m) P := by rw [HErr.out, HF0.out]; rfl
      have hFo := hFm.below hbel (by omega) (by omega)
      have hbo : Below w.heap.size w wr := hb0.trans (hbel.mono (by omega))
      have hB3 : Below w2.heap.size w2 wr := hB2.trans (hbel.mono (by omega))
      obtain ⟨wo, rfl⟩ : ∃ wo : World, wo = wr := ⟨_, rfl⟩
      clear hx hj6 hb0 hB2 hbel hFm
      by_cases h0 : x = 0
      · subst h0
        have hF : F = 0 := by
          by_cases hF : F = 0
          · exact hF
          · rw [if_neg hF] at hx1; exact hx1.symm
        rw [if_pos hF] at hx1
        have hm : mE m = 0 := hx1.symm
        have hE : E = fe (mpE m) P := by rw [hEx, if_neg (fun h => h hF), if_neg (fun h => h hm)]
        obtain ⟨hp60, hl40, hep, hel⟩ := fgE_ok (HF0.out.symm.trans hF)
        have HE2 := Lib.hid hE
        clear hE hEx hx1
        subst hF
        have HFo := Lib.hid hFo
        have hlto := hFo.lt
        have hlqo := hFo.lq
        have t1 : ¬ w2.heap.size = wo.heap.size := by omega
        have t2 : ¬ wo.heap.size = w2.heap.size := by omega
        have t3 : ¬ w.heap.size + 1 = wo.heap.size := by omega
        have t4 : ¬ wo.heap.size = w.heap.size + 1 := by omega
        have t5 : ¬ w.heap.size = wo.heap.size := by omega
        have t6 : ¬ wo.heap.size = w.heap.size := by omega
        have t7 : w.heap.size < wo.heap.size := by omega
        obtain ⟨c0, c1, d0, d1, d2, d3, d4, d5, d6, d7, d8, d9, d10, d11, z0, z1, hlt, hlq⟩ := hFo
        go_wp2_with fail
        clear c0 c1 d0 d1 d2 d3 d4 d5 d6 d7 d8 d9 d10 d11 z0 z1 hlt hlq
        go_loopg [7, 39] P.length (fun gk x7 i wr => ∃ (k : Nat) (x : Int) (Q : List Fp) (v1 : Value), gk + k = P.length ∧ i = .int .i64 k ∧ x7 = .int .i64 x ∧ x = fe (mpE m) (P.take k) ∧ Q.length = k ∧ (x = 0 → Q = (P.take k).map (mpP m)) ∧ FgAt wr wo.heap.size (wo.heap.size + 1) v1 (.slice none 0 0) Q [] ∧ Below wo.heap.size wo wr)
        case atStart =>
          refine ⟨0, 0, [], .slice none 0 0, by omega, rfl, rfl, rfl, rfl, fun _ => rfl, ?_, by (clear hbo hB3; exact belz)⟩
          refine ⟨?_, ?_, ?_, ?_, ?_, World.ownsRow_nil _ _ _ _, [], World.ownsRow_nil _ _ _ _, fun k h => by simp at h⟩
          case refine_5 => go_simp
          all_goals first | (go_simp; done) | go_keep
        case round =>
          obtain ⟨k, x, Q, v1, hk, rfl, rfl, hx, hql, hqx, hFg, hbel⟩ := hrel
          have hFw := HFo.out.below hbel (by omega) (by omega)
          obtain ⟨c0, c1, d0, d1, d2, d3, d4, d5, d6, d7, d8, d9, d10, d11, z0, z1, hlt, hlq⟩ := hFw
          obtain ⟨f0, f1, ff0, ff1, flt, hp, xs, hxs, hxr⟩ := hFg
          have hbw : Below w.heap.size w wr := hbo.trans (hbel.mono (by omega))
          have hsz2 := hbel.size
          have HO1 := Lib.hid hp
          by_cases hlk : k < P.length
          · obtain ⟨bb, off, ha, hb1, p0, p1, p2, p3⟩ := (HP.out.below (Nat.le_refl _) hbw) k hlk
            have ix1 := @ix_Fp a bb off P.length ca k ha hlk
            have hat := ptE_zero (fe_zero hep k hlk)
            have hsn := fe_snoc (mpE m) P k hlk
            have hmp : (P.take (k + 1)).map (mpP m) = (P.take k).map (mpP m) ++ [mpP m P[k]] := by rw [List.take_succ_eq_append_getElem hlk, List.map_append]; rfl
            clear ha
            generalize P[k] = pt at *
            obtain ⟨xn, xd, yn, yd⟩ := pt
            dsimp only at p0 p1 p2 p3 hat
            have hX := fun w1 => c_lnX m xn xd yn yd w1 hm hat.1 hat.2
            have hY := fun w1 => c_lnY m xn xd yn yd w1 hm hat.1 hat.2
            have hEq : mpE m ⟨xn, xd, yn, yd⟩ = if (mX m ⟨xn, xd, yn, yd⟩).e ≠ 0 then (mX m ⟨xn, xd, yn, yd⟩).e else (mY m ⟨xn, xd, yn, yd⟩).e := rfl
            have hPp : mpP m ⟨xn, xd, yn, yd⟩ = ⟨(mX m ⟨xn, xd, yn, yd⟩).n, (mX m ⟨xn, xd, yn, yd⟩).d, (mY m ⟨xn, xd, yn, yd⟩).n, (mY m ⟨xn, xd, yn, yd⟩).d⟩ := rfl
            rw [hPp] at hmp
            rw [hEq] at hsn
            clear hEq hPp hat
            generalize mX m ⟨xn, xd, yn, yd⟩ = X at *
            generalize mY m ⟨xn, xd, yn, yd⟩ = Y at *
            rw [← hx] at hsn
            have HX := Lib.hid hX
            have HY := Lib.hid hY
            have HMP := Lib.hid hmp
            have HSN := Lib.hid hsn
            have HQX := Lib.hid hqx
            clear hX hY hmp hsn hqx hx
            obtain ⟨wq, rfl⟩ : ∃ wq : World, wq = wr := ⟨_, rfl⟩
            have hFq : FmAt wq w.heap.size w2.heap.size a b ga gb P.length L.length ca cb gn gc hn hc m := HFo.out.below hbel (by omega) (by omega)
            have HFq := Lib.hid hFq
            clear hFq c0 c1 d0 d1 d2 d3 d4 d5 d6 d7 d8 d9 d10 d11 z0 z1
            go_wp2_with fail
            clear p0 p1 p2 p3
            go_loopg [7, 43] 2 (fun gj x7 i wr => ∃ (j : Nat) (ji x' q0 q1 q2 q3 : Int), gj + j = 2 ∧ i = .int .i64 ji ∧ ji = (j : Int) ∧ x7 = .int .i64 x' ∧ InvQ x X Y j x' q0 q1 q2 q3 ∧ QIn wr wq.heap.size xn xd yn yd q0 q1 q2 q3 ∧ Below wq.heap.size wq wr)
            case atStart =>
              refine ⟨0, 0, x, 0, 0, 0, 0, by omega, rfl, rfl, rfl, rfl, ?_, by (clear hbo hB3 hbel hbw; exact belz)⟩
              constructor
              case lt => simp
              all_goals first | (go_simp; done) | go_keep
            case round =>
              obtain ⟨j, ji, x', q0, q1, q2, q3, hj, rfl, hji, rfl, hI, hQ, hbq⟩ := hrel
              have W0 : IntKind.i64.wrap 0 = 0 := by decide
              have W1 : IntKind.i64.wrap 1 = 1 := by decide
              have W2 : IntKind.i64.wrap 2 = 2 := by decide
              have W3 : IntKind.i64.wrap 3 = 3 := by decide
              have W4 : IntKind.i64.wrap 4 = 4 := by decide
              have W5 : IntKind.i64.wrap 5 = 5 := by decide
              have hFw := HFq.out.below hbq (by omega) (by omega)
              obtain ⟨c0, c1, d0, d1, d2, d3, d4, d5, d6, d7, d8, d9, d10, d11, z0, z1, hltw, hlqw⟩ := hFw
              obtain ⟨p0, p1, p2, p3, k0, k1, k2, k3, n0, n1, n2, n3, hqlt⟩ := hQ
              have hj2 : j = 0 ∨ j = 1 ∨ j = 2 := by omega
              rcases hj2 with rfl | rfl | rfl
              rotate_left 2
              obtain rfl : ji = 2 := hji
              rotate_left 1
              obtain rfl : ji = 0 := hji
              rotate_left 1
              obtain rfl : ji = 1 := hji
              rotate_left 2
              · have hI0 : x' = x := hI
                subst hI0
                by_cases hx0 : x' = 0
                · have hs8 : True := trivial
                  have gx : (x' == 0) = true := by rw [hx0]; rfl
                  have hInv := fun n5 d5 (hl5 : X.e = 0 → n5 = X.n ∧ d5 = X.d) => (show InvQ x' X Y 1 X.e n5 d5 q2 q3 from ⟨by rw [if_pos hx0], fun h => hl5 h⟩)
                  have HInv := Lib.hid hInv
                  clear hInv hx0
                  go_upto_region 21 with fail
                  go_region_held3 (fun w' => w'.cell? ⟨w.heap.size + 1, 0, none⟩ = some (.int .i64 (m 0).1) ∧ w'.cell? ⟨w.heap.size + 1, 1, none⟩ = some (.int .i64 (m 0).2) ∧ w'.cell? ⟨w.heap.size + 1, 2, none⟩ = some (.int .i64 (m 1).1) ∧ w'.cell? ⟨w.heap.size + 1, 3, none⟩ = some (.int .i64 (m 1).2) ∧ w'.cell? ⟨w.heap.size + 1, 4, none⟩ = some (.int .i64 (m 2).1) ∧ w'.cell? ⟨w.heap.size + 1, 5, none⟩ = some (.int .i64 (m 2).2) ∧ w'.cell? ⟨wq.heap.size, 0, none⟩ = some (.int .i64 xn) ∧ w'.cell? ⟨wq.heap.size, 1, none⟩ = some (.int .i64 xd) ∧ w'.cell? ⟨wq.heap.size, 2, none⟩ = some (.int .i64 yn) ∧ w'.cell? ⟨wq.heap.size, 3, none⟩ = some (.int .i64 yd)) (refine ⟨?_, ?_, ?_, ?_, ?_, ?_, ?_, ?_, ?_, ?_⟩ <;> (first | assumption | (go_simp; done) | go_keep)) ((go_at_call 37; (with_reducible refine (HX.out _).mono ?_); rintro e w5 ⟨n5, d5, rfl, hl5, hb⟩; have hz := hb.size; (try simp only [szA, szS, szD, szN] at hz); (try (refine bcB (n := w.heap.size + 1) hb ?_; intro h_w_1 e_w_1 d_w_1 _ _)); (try (refine bcB (n := wq.heap.size) hb ?_; intro h_wq_0 e_wq_0 d_wq_0 _ _)); (try (refine bcB (n := wq.heap.size + 1) hb ?_; intro h_wq_1 e_wq_1 d_wq_1 _ _))))
                  go_wp2_with fail
                  go_roundg 1
                  case measure => omega
                  case rel =>
                    refine ⟨1, 1, X.e, n5, d5, q2, q3, by omega, (by first | rfl | (go_num; done) | (simp; done) | omega), (by first | rfl | (go_num; done) | (simp; done) | omega), (by first | rfl | (go_num; done) | (simp; done) | omega), HInv.out n5 d5 hl5, ?_, ?_⟩
                    · constructor
                      case lt => simp; omega
                      all_goals first | (go_simp; done) | go_keep
                    · clear hbo hB3 hbel hbw
                      exact belz
                · have gx : (x' == 0) = false := by simpa using hx0
                  have HInv := Lib.hid (show InvQ x' X Y 1 x' q0 q1 q2 q3 from ⟨by rw [if_neg hx0], fun h => absurd h hx0⟩)
                  clear hx0
                  go_wp2_with fail
                  go_roundg 1
                  case measure => omega
                  case rel => exact ⟨1, 1, x', q0, q1, q2, q3, by omega, (by first | rfl | (go_num; done) | (simp; done) | omega), (by first | rfl | (go_num; done) | (simp; done) | omega), (by first | rfl | (go_num; done) | (simp; done) | omega), HInv.out, ⟨p0, p1, p2, p3, k0, k1, k2, k3, n0, n1, n2, n3, hqlt⟩, hbq⟩
              · obtain ⟨hI1, hI2⟩ := hI
                by_cases hx0 : x' = 0
                · have hq0 := hI2 hx0
                  have hxx : x = 0 := by
                    by_cases h : x = 0
                    · exact h
                    · rw [if_neg h] at hI1; exact absurd (hI1.symm.trans hx0) h
                  have hXe : X.e = 0 := by rw [if_pos hxx] at hI1; exact hI1.symm.trans hx0
                  have gx : (x' == 0) = true := by rw [hx0]; rfl
                  have hInv := fun n5 d5 (hl5 : Y.e = 0 → n5 = Y.n ∧ d5 = Y.d) => (show InvQ x X Y 2 Y.e q0 q1 n5 d5 from ⟨by rw [if_pos hxx, if_neg (fun h => h hXe)], fun h => ⟨hq0.1, hq0.2, (hl5 h).1, (hl5 h).2⟩⟩)
                  have HInv := Lib.hid hInv
                  clear hInv hI1 hI2 hq0 hxx hXe hx0
                  go_upto_region 21 with fail
                  go_region_held3 (fun w' => w'.cell? ⟨w.heap.size + 1, 6, none⟩ = some (.int .i64 (m 3).1) ∧ w'.cell? ⟨w.heap.size + 1, 7, none⟩ = some (.int .i64 (m 3).2) ∧ w'.cell? ⟨w.heap.size + 1, 8, none⟩ = some (.int .i64 (m 4).1) ∧ w'.cell? ⟨w.heap.size + 1, 9, none⟩ = some (.int .i64 (m 4).2) ∧ w'.cell? ⟨w.heap.size + 1, 10, none⟩ = some (.int .i64 (m 5).1) ∧ w'.cell? ⟨w.heap.size + 1, 11, none⟩ = some (.int .i64 (m 5).2) ∧ w'.cell? ⟨wq.heap.size, 0, none⟩ = some (.int .i64 xn) ∧ w'.cell? ⟨wq.heap.size, 1, none⟩ = some (.int .i64 xd) ∧ w'.cell? ⟨wq.heap.size, 2, none⟩ = some (.int .i64 yn) ∧ w'.cell? ⟨wq.heap.size, 3, none⟩ = some (.int .i64 yd)) (refine ⟨?_, ?_, ?_, ?_, ?_, ?_, ?_, ?_, ?_, ?_⟩ <;> (first | assumption | (go_simp; done) | go_keep)) ((go_at_call 37; (with_reducible refine (HY.out _).mono ?_); rintro e w5 ⟨n5, d5, rfl, hl5, hb⟩; have hz := hb.size; (try simp only [szA, szS, szD, szN] at hz); (try (refine bcB (n := w.heap.size + 1) hb ?_; intro h_w_1 e_w_1 d_w_1 _ _)); (try (refine bcB (n := wq.heap.size) hb ?_; intro h_wq_0 e_wq_0 d_wq_0 _ _)); (try (refine bcB (n := wq.heap.size + 1) hb ?_; intro h_wq_1 e_wq_1 d_wq_1 _ _))))
                  go_wp2_with fail
                  go_roundg 0
                  case measure => omega
                  case rel =>
                    refine ⟨2, 2, Y.e, q0, q1, n5, d5, by omega, (by first | rfl | (go_num; done) | (simp; done) | omega), (by first | rfl | (go_num; done) | (simp; done) | omega), (by first | rfl | (go_num; done) | (simp; done) | omega), HInv.out n5 d5 hl5, ?_, ?_⟩
                    · constructor
                      case lt => simp; omega
                      all_goals first | (go_simp; done) | go_keep
                    · clear hbo hB3 hbel hbw
                      exact belz
                · have gx : (x' == 0) = false := by simpa using hx0
                  have HInv := Lib.hid (show InvQ x X Y 2 x' q0 q1 q2 q3 from ⟨by
                    by_cases h : x = 0
                    · rw [if_pos h] at hI1 ⊢
                      rw [if_pos (fun h2 => hx0 (hI1.trans h2))]; exact hI1
                    · rw [if_neg h] at hI1 ⊢; exact hI1, fun h => absurd h hx0⟩)
                  clear hx0 hI1 hI2
                  go_wp2_with fail
                  go_roundg 0
                  case measure => omega
                  case rel => exact ⟨2, 2, x', q0, q1, q2, q3, by omega, (by first | rfl | (go_num; done) | (simp; done) | omega), (by first | rfl | (go_num; done) | (simp; done) | omega), (by first | rfl | (go_num; done) | (simp; done) | omega), HInv.out, ⟨p0, p1, p2, p3, k0, k1, k2, k3, n0, n1, n2, n3, hqlt⟩, hbq⟩
              · obtain ⟨hI1, hI2⟩ := hI
                have e0 := (hbq.cell (p := ⟨wo.heap.size, 0, none⟩) flt).trans f0
                have e1 := (hbq.cell (p := ⟨wo.heap.size, 1, none⟩) flt).trans f1
                have e2 := (hbq.frozen (p := ⟨wo.heap.size, 0, none⟩) flt).trans ff0
                have e3 := (hbq.frozen (p := ⟨wo.heap.size, 1, none⟩) flt).trans ff1
                have hzq := hbq.size
                have HI1 := Lib.hid hI1
                have HI2 := Lib.hid hI2
                have m1 : ¬ wo.heap.size = wr.heap.size := by omega
                have m2 : ¬ wr.heap.size = wo.heap.size := by omega
                have m3 : wo.heap.size < wr.heap.size := by omega
                clear c0 c1 d0 d1 d2 d3 d4 d5 d6 d7 d8 d9 d10 d11 z0 z1 hltw hlqw hI1 hI2
                go_wp2_with (at_builtin; (refine wpList_append_own _ rfl (.tmp 74) (.tmp 80) 54 rfl (wo.heap.size + 1) 63 i0 (.agg #[.int .i64 0, .int .i64 0, .int .i64 0, .int .i64 0]) 4 32 Tryd.underlying54 hi0 hz0 hz1 hz2 rfl (by decide) v1 Q.length (fpcs Q) rfl ((own_below HO1.out hbq).alloc _) ⟨wr.heap.size, 0, none⟩ 1 1 [.int .i64 q0, .int .i64 q1, .int .i64 q2, .int .i64 q3] rfl rfl ?ha1 ?ha2 ?ha3 ?ha4 ?ha5 ?_))
                case ha1 =>
                  intro j u hj
                  match j, hj with
                  | 0, hj => simp at hj; subst hj; simp only [Addr.add]; go_simp
                  | 1, hj => simp at hj; subst hj; simp only [Addr.add]; go_simp
                  | 2, hj => simp at hj; subst hj; simp only [Addr.add]; go_simp
                  | 3, hj => simp at hj; subst hj; simp only [Addr.add]; go_simp
                case ha2 => intro u hu; simp at hu; rcases hu with rfl | rfl | rfl | rfl <;> rfl
                case ha3 => unfold maxLen; omega
                case ha4 => omega
                case ha5 => simp; omega
                intro v' w7 ho7 hg7 _
                have hb7 : Below (wo.heap.size + 1) wq w7 := Below.grown ((hbq.alloc hzq _).mono (by omega)) hg7 (by simp; omega) (fun q hq => (own_ty HO1.out q hq).1)
                have r0 := (hb7.cell (p := ⟨wo.heap.size, 0, none⟩) (by show wo.heap.size < wo.heap.size + 1; omega)).trans f0
                have r1 := (hb7.cell (p := ⟨wo.heap.size, 1, none⟩) (by show wo.heap.size < wo.heap.size + 1; omega)).trans f1
                have r2 := (hb7.frozen (p := ⟨wo.heap.size, 0, none⟩) (by show wo.heap.size < wo.heap.size + 1; omega)).trans ff0
                have r3 := (hb7.frozen (p := ⟨wo.heap.size, 1, none⟩) (by show wo.heap.size < wo.heap.size + 1; omega)).trans ff1
                have hz7 := hb7.size
                have hb8 : Below wo.heap.size wo w7 := hbel.trans (hb7.mono (by omega))
                obtain ⟨va, vn, vc, rfl⟩ := own_sl ho7
                have HO7 := Lib.hid ho7
                clear ho7 hg7 e0 e1 e2 e3 p0 p1 p2 p3 k0 k1 k2 k3 n0 n1 n2 n3
                go_wp2_with fail
                go_roundg (P.length - (k + 1))
                case measure => omega
                case rel =>
                  have y1 : (Q ++ [(⟨q0, q1, q2, q3⟩ : Fp)]).length = k + 1 := by simp; omega
                  have y2 : fpcs (Q ++ [(⟨q0, q1, q2, q3⟩ : Fp)]) = fpcs Q ++ [.int .i64 q0, .int .i64 q1, .int .i64 q2, .int .i64 q3] := by simp [fpcs, fpc]
                  refine ⟨k + 1, x', Q ++ [⟨q0, q1, q2, q3⟩], .slice va vn vc, by omega, (by first | rfl | (go_num; done) | (simp; done) | omega), (by first | rfl | (go_num; done) | (simp; done) | omega), HI1.out.trans HSN.out.symm, y1, ?_, ?_, ?_⟩
                  · intro h
                    have hx0 : x = 0 := by
                      by_cases h2 : x = 0
                      · exact h2
                      · have h3 := HI1.out; rw [if_neg h2] at h3; exact absurd (h3.symm.trans h) h2
                    obtain ⟨a1, a2, a3, a4⟩ := HI2.out h
                    rw [HMP.out, HQX.out hx0, a1, a2, a3, a4]
                  · refine ⟨?_, ?_, ?_, ?_, ?_, ?_, [], World.ownsRow_nil _ _ _ _, fun k h => by simp at h⟩
                    case refine_5 => simp; omega
                    case refine_6 =>
                      rw [y1, y2]
                      have h7 := HO7.out
                      first | (rw [hql] at h7) | skip
                      exact ownK h7 (fun g h1 _ => setCell_heap _ _ _ _ (by show g ≠ wo.heap.size; omega))
                    all_goals first | (go_simp; done) | go_keep
                  · clear hbw hbo hB3 hbel
                    exact belz
          · obtain rfl : k = P.length := by omega
            rw [List.take_of_length_le (Nat.le_refl _)] at hx hqx
            have hEx2 : E = x := HE2.out.trans hx.symm
            clear hlk hx
            obtain ⟨a9, c9, rfl, hc9, -⟩ := own_Fp hp
            have hp2 := ownK hp (w' := wr.setCell ⟨wo.heap.size, 1, none⟩ (.slice b L.length cb)) (fun g h1 _ => setCell_heap _ _ _ _ (by show g ≠ wo.heap.size; omega))
            have hfp9 : FpSlice (wr.setCell ⟨wo.heap.size, 1, none⟩ (.slice b L.length cb)) a9 Q := FigOwn.fp (L := []) (v2 := .slice none 0 0) ⟨hp2, [], World.ownsRow_nil _ _ _ _, fun k h => by simp at h⟩
            clear hp2
            rw [hql] at f0
            have s1 : ¬ wo.heap.size = w2.heap.size := by omega
            clear d0 d1 d2 d3 d4 d5 d6 d7 d8 d9 d10 d11
            by_cases hx0 : x = 0
            · subst hx0
              have hQ := hqx rfl
              obtain ⟨hgn, hhn, hgo⟩ := HG.out.good (by rw [← HErr.out]; exact hEx2)
              have hpl : (P.map (mpP m)).length = P.length := by simp
              subst hEx2 hgn hhn
              rw [hQ] at hfp9
              have hS := fun w1 (k1 : FpSlice w1 ga (P.map (mpP m))) (k2 : MatSlice w1 gb L) (k3 : FpSlice w1 a9 (P.map (mpP m))) (k4 : MatSlice w1 b L) => c_same ga gb a9 b gc hc c9 cb (P.map (mpP m)) L w1 k1 k2 k3 k4 (by rw [hpl]; unfold maxLen; omega) (by unfold maxLen; omega) (fun r hr => by have := (lnE_ok (fe_mem0 hel hr)).2.1; unfold maxLen; omega)
              rw [hpl] at hS
              have HS := Lib.hid hS
              have HGo := Lib.hid hgo
              have HFp := Lib.hid hfp9
              have hB3w : Below w2.heap.size w2 wr := hB3.trans (hbel.mono (by omega))
              have HB3 := Lib.hid hB3w
              clear hS hgo hfp9 hQ hqx hp hxs hxr hB3 hbel hB3w
              go_wp2_with (go_at_call 32; (with_reducible refine (HS.out _ (HGo.out.fp.below (Nat.le_refl _) (HB3.out.trans (by exact belz))) (HGo.out.mt.below (Nat.le_refl _) (HB3.out.trans (by exact belz))) HFp.out (HL.out.below (Nat.le_refl _) (by exact belz))).mono ?_); rintro e w8 ⟨rfl, hb⟩; have hz := hb.size; (try simp only [szA, szS, szD, szN] at hz); (try (refine bcB (n := w.heap.size) hb ?_; intro h_w_0 e_w_0 d_w_0 _ _)))
              go_ret
              refine ⟨rfl, ?_⟩
              exact belz
            · have g : (x == 0) = false := by simpa using hx0
              have g2 : (x != 0) = true := by simpa using hx0
              obtain ⟨rfl, rfl, rfl, rfl, rfl, rfl⟩ := HG.out.bad (by rw [← HErr.out, hEx2]; exact hx0)
              subst hEx2
              clear hqx hp hxs hxr hfp9 hB3 hbel
              go_wp2_with (go_at_call 32; (with_reducible refine (c_sameZ _).mono ?_); rintro e w5 ⟨rfl, hb⟩; have hz := hb.size; (try simp only [szA, szS, szD, szN] at hz); (try (refine bcB (n := w.heap.size) hb ?_; intro h_w_0 e_w_0 d_w_0 _ _)))
              go_ret
              refine ⟨rfl, ?_⟩
              exact belz
      · have hE : E = x := by
          rw [hEx]
          by_cases hF : F = 0
          · rw [if_pos hF] at hx1
            rw [if_neg (fun h => h hF), if_pos (fun h => h0 (hx1.trans h)), hx1]
          · rw [if_neg hF] at hx1
            rw [if_pos hF, hx1]
        have g : (x == 0) = false := by simpa using h0
        have g2 : (x != 0) = true := by simpa using h0
        obtain ⟨rfl, rfl, rfl, rfl, rfl, rfl⟩ := HG.out.bad (by rw [← HErr.out, hE]; exact h0)
        subst hE
        clear hx1 hEx
        obtain ⟨c0, c1, d0, d1, d2, d3, d4, d5, d6, d7, d8, d9, d10, d11, z0, z1, hlt, hlq⟩ := hFo
        have t1 : ¬ w2.heap.size = wo.heap.size := by omega
        have t2 : ¬ wo.heap.size = w2.heap.size := by omega
        go_wp2_with (go_at_call 32; (with_reducible refine (c_sameZ _).mono ?_); rintro e w5 ⟨rfl, hb⟩; have hz := hb.size; (try simp only [szA, szS, szD, szN] at hz); (try (refine bcB (n := w.heap.size) hb ?_; intro h_w_0 e_w_0 d_w_0 _ _)))
        go_ret
        refine ⟨rfl, ?_⟩
        (clear hB3; exact belz)
end Go.Proofs.YtbcehnhiedbbbaaDoor
