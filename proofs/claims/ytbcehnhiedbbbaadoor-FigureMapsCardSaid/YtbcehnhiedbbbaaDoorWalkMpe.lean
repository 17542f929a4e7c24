/- The contract of figure.Mapped where figure and map are sound. -/
import Derived.Test.YtbcehnhiedbbbaaDoorWalkMpd
set_option linter.unusedVariables false
set_option linter.unusedSimpArgs false
namespace Go.Proofs.YtbcehnhiedbbbaaDoor
open Go.RowKit
/-- What Mapped answers of a sound figure and a sound map. -/
def MpRes (m : M6) (P : List Fp) (L : List (List Int)) (w : World) (e : Ending) (w' : World) : Prop :=
  if fe (mpE m) P = 0 then ∃ a b ca cb, e = .returned (.tuple #[.agg #[.slice a (P.map (mpP m)).length ca, .slice b L.length cb], .int .i64 0]) ∧ FigOwn w' w.heap.size (.slice a (P.map (mpP m)).length ca) (.slice b L.length cb) (P.map (mpP m)) L
  else e = .returned (.tuple #[.agg #[.slice none 0 0, .slice none 0 0], .int .i64 (fe (mpE m) P)])
theorem c_mpX (m : M6) (xn xd yn yd : Int) (w : World) (hm : mE m = 0) (hx : okF (xn, xd)) (hy : okF (yn, yd)) :
    Calls Tryd.prog 62 #[.agg #[.int .i64 xn, .int .i64 xd, .int .i64 yn, .int .i64 yd], .agg #[.int .i64 (m 0).1, .int .i64 (m 0).2], .agg #[.int .i64 (m 1).1, .int .i64 (m 1).2], .agg #[.int .i64 (m 2).1, .int .i64 (m 2).2]] w fun e w' => e = .returned (.tuple #[.agg #[.int .i64 (mX m ⟨xn, xd, yn, yd⟩).n, .int .i64 (mX m ⟨xn, xd, yn, yd⟩).d], .int .i64 (mX m ⟨xn, xd, yn, yd⟩).e]) ∧ Below w.heap.size w w' :=
  c_mapped (m 0).1 (m 0).2 xn xd (m 1).1 (m 1).2 yn yd (m 2).1 (m 2).2 w (mE_ok hm 0 (by decide)) hx (mE_ok hm 1 (by decide)) hy (mE_ok hm 2 (by decide))
theorem c_mpY (m : M6) (xn xd yn yd : Int) (w : World) (hm : mE m = 0) (hx : okF (xn, xd)) (hy : okF (yn, yd)) :
    Calls Tryd.prog 62 #[.agg #[.int .i64 xn, .int .i64 xd, .int .i64 yn, .int .i64 yd], .agg #[.int .i64 (m 3).1, .int .i64 (m 3).2], .agg #[.int .i64 (m 4).1, .int .i64 (m 4).2], .agg #[.int .i64 (m 5).1, .int .i64 (m 5).2]] w fun e w' => e = .returned (.tuple #[.agg #[.int .i64 (mY m ⟨xn, xd, yn, yd⟩).n, .int .i64 (mY m ⟨xn, xd, yn, yd⟩).d], .int .i64 (mY m ⟨xn, xd, yn, yd⟩).e]) ∧ Below w.heap.size w w' :=
  c_mapped (m 3).1 (m 3).2 xn xd (m 4).1 (m 4).2 yn yd (m 5).1 (m 5).2 w (mE_ok hm 3 (by decide)) hx (mE_ok hm 4 (by decide)) hy (mE_ok hm 5 (by decide))
theorem src_int {w : World} {b off : Nat} {r : List Int} (h : IntSlice w (some ⟨b, off, none⟩) r) : ∀ j u, (icells r)[j]? = some u → w.cell? ((⟨b, off, none⟩ : Addr).add j) = some u := by
  intro j u hj
  have hl : j < r.length := by have := (List.getElem?_eq_some_iff.1 hj).1; simpa [icells] using this
  obtain ⟨b', off', e, _, c⟩ := h j hl
  injection e with e
  injection e with e1 e2
  subst e1 e2
  have e3 : (icells r)[j]? = some (.int .i64 r[j]) := by simp [icells, hl]
  rw [e3] at hj
  injection hj with hj
  subst hj
  unfold Addr.add
  by_cases h0 : j = 0
  · subst h0; simpa using c
  · rw [if_neg h0]; exact c
theorem icells_len (r : List Int) : (icells r).length = r.length * 1 := by simp [icells]
theorem icells_one (r : List Int) : ∀ u ∈ icells r, u.oneCell' = true := by
  intro u hu
  obtain ⟨x, _, rfl⟩ := List.mem_map.1 hu
  rfl
set_option maxRecDepth 100000 in
set_option maxHeartbeats 4000000 in
theorem c_Mapped_ok (a b : Option Addr) (ca cb : Nat) (P : List Fp) (L : List (List Int)) (m : M6) (w : World) (hP : FpSlice w a P) (hL : MatSlice w b L) (hca : P.length ≤ ca) (hcb : L.length ≤ cb) (h : fgE P L = 0) (hm : mE m = 0) :
    Calls Tryd.prog 35 #[.agg #[.slice a P.length ca, .slice b L.length cb], .agg #[.int .i64 (m 0).1, .int .i64 (m 0).2, .int .i64 (m 1).1, .int .i64 (m 1).2, .int .i64 (m 2).1, .int .i64 (m 2).2, .int .i64 (m 3).1, .int .i64 (m 3).2, .int .i64 (m 4).1, .int .i64 (m 4).2, .int .i64 (m 5).1, .int .i64 (m 5).2]] w fun e w' => MpRes m P L w e w' ∧ Below w.heap.size w w' := by
  have hc := fun w1 (h1 : FpSlice w1 a P) (h2 : MatSlice w1 b L) => c_fgCheck a b ca cb P L w1 h1 h2 hca hcb
  rw [h] at hc
  have HC := Lib.hid hc
  obtain ⟨hp60, hl40, hep, hel⟩ := fgE_ok h
  have HP := Lib.hid hP
  have HL := Lib.hid hL
  obtain ⟨i0, hi0, hz0, hz1, hz2⟩ := info_parts (show (Tryd.prog.info? 63).map (fun i => (i.zero, i.size, i.bytes)) = some (some (.agg #[.int .i64 0, .int .i64 0, .int .i64 0, .int .i64 0]), 4, 32) by kernel_rfl)
  obtain ⟨j0, hj0, jz0, jz1, jz2⟩ := info_parts (show (Tryd.prog.info? 39).map (fun i => (i.zero, i.size, i.bytes)) = some (some (.slice none 0 0), 1, 24) by kernel_rfl)
  obtain ⟨n0, hn0, nz0, nz1, nz2⟩ := info_parts (show (Tryd.prog.info? 3).map (fun i => (i.zero, i.size, i.bytes)) = some (some (.int .i64 0), 1, 8) by kernel_rfl)
  clear hP hL hc h
  have hgen := sgen; have hgen2 := sgen2; have hgen3 := sgen3; go_enter Tryd.func35, Tryd.ntmps35
  go_wp2_with (go_at_call 29; (with_reducible refine (HC.out _ (HP.out.below (Nat.le_refl _) (by exact belz)) (HL.out.below (Nat.le_refl _) (by exact belz))).mono ?_); rintro e w1 ⟨rfl, hb⟩; have hz := hb.size; (try simp only [szA, szS, szD, szN] at hz); (try (refine bcB (n := w.heap.size) hb ?_; intro h_w_0 e_w_0 d_w_0 _ _)); (try (refine bcB (n := w.heap.size + 1) hb ?_; intro h_w_1 e_w_1 d_w_1 _ _)); (try (refine bcB (n := w.heap.size + 1 + 1) hb ?_; intro h_w_2 e_w_2 d_w_2 _ _)))
  have hb0 : Below w.heap.size w w1 := by exact belz
  have hM1 : MpAt w1 w.heap.size a b P.length L.length ca cb m := by
    constructor
    case lt => (try simp only [szA, szS, szD, szN] at *); omega
    all_goals first | (go_simp; done) | go_keep
  go_loopg [25] 6 (fun gk i wr => ∃ j : Nat, gk + j = 6 ∧ i = .int .i64 j ∧ Below w1.heap.size w1 wr)
  case atStart => exact ⟨0, by omega, rfl, Below.refl _ _⟩
  case round =>
    obtain ⟨j, hj, rfl, hbel⟩ := hrel
    have hsz := hbel.size
    by_cases hj6 : j < 6
    · have ixm := ix6 m j hj6
      have hk := fun w1 => c_fcCheck (m j).1 (m j).2 w1
      have hat : fcE (m j).1 (m j).2 = 0 := mE_ok hm j hj6
      rw [hat] at hk
      have HF := Lib.hid hk
      clear hk hat
      go_wp2_with (go_at_call 36; (with_reducible refine (HF.out _).mono ?_); rintro e w2 ⟨rfl, hb⟩; have hz := hb.size; (try simp only [szA, szS, szD, szN] at hz); (try (refine bcB (n := wr.heap.size) hb ?_; intro h_wr_0 e_wr_0 d_wr_0 _ _)))
      go_roundg (6 - (j + 1))
      case measure => omega
      case rel => exact ⟨j + 1, by omega, by go_num, hbel.trans ((show Below wr.heap.size wr w2 by (clear hbel hb0; exact belz)).mono hbel.size)⟩
    · have hlt1 := hM1.lt
      have hMo := hM1.below hbel (by omega)
      have hbo : Below w.heap.size w wr := hb0.trans (hbel.mono (by omega))
      obtain ⟨wo, rfl⟩ : ∃ wo : World, wo = wr := ⟨_, rfl⟩
      have hlto := hMo.lt
      have HMo := Lib.hid hMo
      clear hM1 hb0 hbel
      have t1 : ¬ w.heap.size = wo.heap.size := by omega
      have t2 : ¬ wo.heap.size = w.heap.size := by omega
      have t3 : ¬ w.heap.size + 1 = wo.heap.size := by omega
      have t4 : ¬ wo.heap.size = w.heap.size + 1 := by omega
      have t5 : ¬ w.heap.size + 1 + 1 = wo.heap.size := by omega
      have t6 : ¬ wo.heap.size = w.heap.size + 1 + 1 := by omega
      have t7 : w.heap.size < wo.heap.size := by omega
      have t8 : w.heap.size + 1 < wo.heap.size := by omega
      obtain ⟨c0, c1, d0, d1, d2, d3, d4, d5, d6, d7, d8, d9, d10, d11, r0, r1, f0, f1, hlt⟩ := hMo
      go_wp2_with fail
      clear c0 c1 d0 d1 d2 d3 d4 d5 d6 d7 d8 d9 d10 d11 r0 r1 f0 f1 hlt
      go_loopg [38] P.length (fun gk i wr => ∃ (k : Nat) (v1 : Value), gk + k = P.length ∧ i = .int .i64 k ∧ fe (mpE m) (P.take k) = 0 ∧ FgAt wr wo.heap.size (wo.heap.size + 1) v1 (.slice none 0 0) ((P.take k).map (mpP m)) [] ∧ Below wo.heap.size wo wr)
      case atStart =>
        refine ⟨0, .slice none 0 0, by omega, rfl, rfl, ?_, by (clear hbo; exact belz)⟩
        refine ⟨?_, ?_, ?_, ?_, ?_, World.ownsRow_nil _ _ _ _, [], World.ownsRow_nil _ _ _ _, fun k h => by simp at h⟩
        case refine_5 => go_simp
        all_goals first | (go_simp; done) | go_keep
      case round =>
        obtain ⟨k, v1, hk, rfl, hfe, hF, hbel⟩ := hrel
        have hMw := HMo.out.below hbel (by omega)
        obtain ⟨c0, c1, d0, d1, d2, d3, d4, d5, d6, d7, d8, d9, d10, d11, r0, r1, z0, z1, hltw⟩ := hMw
        obtain ⟨f0, f1, ff0, ff1, flt, hp, xs, hx, hxr⟩ := hF
        have hbw : Below w.heap.size w wr := hbo.trans (hbel.mono (by omega))
        have hsz2 := hbel.size
        by_cases hlk : k < P.length
        · obtain ⟨bb, off, ha, hb1, p0, p1, p2, p3⟩ := (HP.out.below (Nat.le_refl _) hbw) k hlk
          have ix1 := @ix_Fp a bb off P.length ca k ha hlk
          have hat := ptE_zero (fe_zero hep k hlk)
          have hsn := fe_snoc (mpE m) P k hlk
          rw [if_pos hfe] at hsn
          have hfa := fe_at (mpE m) P k hlk hfe
          have hmp : (P.take (k + 1)).map (mpP m) = (P.take k).map (mpP m) ++ [mpP m P[k]] := by rw [List.take_succ_eq_append_getElem hlk, List.map_append]; rfl
          have hql : ((P.take k).map (mpP m)).length = k := by simp; omega
          clear ha
          generalize P[k] = x at *
          obtain ⟨xn, xd, yn, yd⟩ := x
          dsimp only at p0 p1 p2 p3 hat
          have hX := fun w1 => c_mpX m xn xd yn yd w1 hm hat.1 hat.2
          have hY := fun w1 => c_mpY m xn xd yn yd w1 hm hat.1 hat.2
          have hE : mpE m ⟨xn, xd, yn, yd⟩ = if (mX m ⟨xn, xd, yn, yd⟩).e ≠ 0 then (mX m ⟨xn, xd, yn, yd⟩).e else (mY m ⟨xn, xd, yn, yd⟩).e := rfl
          have hPp : mpP m ⟨xn, xd, yn, yd⟩ = ⟨(mX m ⟨xn, xd, yn, yd⟩).n, (mX m ⟨xn, xd, yn, yd⟩).d, (mY m ⟨xn, xd, yn, yd⟩).n, (mY m ⟨xn, xd, yn, yd⟩).d⟩ := rfl
          rw [hPp] at hmp
          rw [hE] at hsn hfa
          clear hE hPp hat
          generalize mX m ⟨xn, xd, yn, yd⟩ = X at *
          generalize mY m ⟨xn, xd, yn, yd⟩ = Y at *
          obtain ⟨Xe, Xn, Xd⟩ := X
          obtain ⟨Ye, Yn, Yd⟩ := Y
          dsimp only at hX hY hsn hfa hmp
          have HX := Lib.hid hX
          have HY := Lib.hid hY
          have HO1 := Lib.hid hp
          have HMP := Lib.hid hmp
          generalize (P.take k).map (mpP m) = Q at *
          clear hX hY hp hx hxr hmp
          have s1 : ¬ w.heap.size + 1 = wr.heap.size := by omega
          have s2 : ¬ wr.heap.size = w.heap.size + 1 := by omega
          have s3 : ¬ w.heap.size + 1 + 1 = wr.heap.size := by omega
          have s4 : ¬ wr.heap.size = w.heap.size + 1 + 1 := by omega
          have s5 : ¬ wo.heap.size = wr.heap.size := by omega
          have s6 : ¬ wr.heap.size = wo.heap.size := by omega
          have s7 : w.heap.size + 1 < wr.heap.size := by omega
          have s8 : w.heap.size < wr.heap.size := by omega
          by_cases hXe : Xe = 0
          · subst hXe
            simp only [ne_eq, not_true_eq_false, if_false] at hsn hfa
            by_cases hYe : Ye = 0
            · subst hYe
              go_upto_region 21 with (first | (go_at_call 62; (with_reducible refine (HX.out _).mono ?_); rintro e w2 ⟨rfl, hb⟩; have hz := hb.size; (try simp only [szA, szS, szD, szN] at hz); (try (refine bcB (n := wr.heap.size) hb ?_; intro h_wr_0 e_wr_0 d_wr_0 _ _)); (try (refine bcB (n := wo.heap.size) hb ?_; intro h_wo_0 e_wo_0 d_wo_0 _ _)); (try (refine bcB (n := w.heap.size + 1) hb ?_; intro h_w_1 e_w_1 d_w_1 _ _)); (try (refine bcB (n := w.heap.size + 1 + 1) hb ?_; intro h_w_2 e_w_2 d_w_2 _ _))) | (go_at_call 62; (with_reducible refine (HY.out _).mono ?_); rintro e w3 ⟨rfl, hb⟩; have hz := hb.size; (try simp only [szA, szS, szD, szN] at hz); (try (refine bcB (n := wr.heap.size) hb ?_; intro h_wr_0 e_wr_0 d_wr_0 _ _)); (try (refine bcB (n := wo.heap.size) hb ?_; intro h_wo_0 e_wo_0 d_wo_0 _ _)); (try (refine bcB (n := w.heap.size + 1 + 1) hb ?_; intro h_w_2 e_w_2 d_w_2 _ _)); (try (refine bcB (n := w2.heap.size) hb ?_; intro h_w2_0 e_w2_0 d_w2_0 _ _))))
              have hs3 : wr.heap.size ≤ w3.heap.size := by omega
              have g0 : w3.cell? ⟨wo.heap.size, 0, none⟩ = some v1 := by go_simp
              have x0 : w3.cell? ⟨w2.heap.size, 0, none⟩ = some (.int .i64 Xn) := by go_simp
              have x1 : w3.cell? ⟨w2.heap.size, 1, none⟩ = some (.int .i64 Xd) := by go_simp
              have hbr3 : Below wr.heap.size wr w3 := by (clear hbel hbw hbo; exact belz)
              have hs2 : w2.heap.size < w3.heap.size := by assumption
              have hs1 : wo.heap.size < w3.heap.size := by assumption
              clear c0 c1 d0 d1 d2 d3 d4 d5 d6 d7 d8 d9 d10 d11 r0 r1 z0 z1 HX HY s1 s2 s3 s4 s5 s6 s7 s8 p0 p1 p2 p3 ix1 t1 t2 t3 t4 t5 t6 t7 t8
              have n1 : ¬ wo.heap.size = w3.heap.size := by omega
              have n2 : ¬ w3.heap.size = wo.heap.size := by omega
              have n3 : ¬ w2.heap.size = w3.heap.size := by omega
              have n4 : ¬ w3.heap.size = w2.heap.size := by omega
              clear hb hz
              go_wp2_with (at_builtin; (refine wpList_append_own _ rfl (.tmp 73) (.tmp 77) 54 rfl (wo.heap.size + 1) 63 i0 (.agg #[.int .i64 0, .int .i64 0, .int .i64 0, .int .i64 0]) 4 32 Tryd.underlying54 hi0 hz0 hz1 hz2 rfl (by decide) v1 Q.length (fpcs Q) rfl (((own_below HO1.out hbr3).alloc _).alloc _) ⟨w3.heap.size + 1, 0, none⟩ 1 1 [.int .i64 Xn, .int .i64 Xd, .int .i64 Yn, .int .i64 Yd] rfl rfl ?ga1 ?ga2 ?ga3 ?ga4 ?ga5 ?_))
              case ga1 =>
                intro j u hj
                match j, hj with
                | 0, hj => simp at hj; subst hj; simp only [Addr.add]; go_simp
                | 1, hj => simp at hj; subst hj; simp only [Addr.add]; go_simp
                | 2, hj => simp at hj; subst hj; simp only [Addr.add]; go_simp
                | 3, hj => simp at hj; subst hj; simp only [Addr.add]; go_simp
              case ga2 => intro u hu; simp at hu; rcases hu with rfl | rfl | rfl | rfl <;> rfl
              case ga3 => unfold maxLen; omega
              case ga4 => omega
              case ga5 => simp; omega
              intro v' w7 ho7 hg7 _
              have hb7 : Below (wo.heap.size + 1) wr w7 := by
                refine Below.grown ?_ hg7 ?_ ?_
                · (clear hbel hbw hbo; exact belz)
                · simp; omega
                · intro q hq
                  exact (own_ty HO1.out q hq).1
              have k0 := (hb7.cell (p := ⟨wo.heap.size, 0, none⟩) (by show wo.heap.size < wo.heap.size + 1; omega)).trans f0
              have k1 := (hb7.cell (p := ⟨wo.heap.size, 1, none⟩) (by show wo.heap.size < wo.heap.size + 1; omega)).trans f1
              have k2 := (hb7.frozen (p := ⟨wo.heap.size, 0, none⟩) (by show wo.heap.size < wo.heap.size + 1; omega)).trans ff0
              have k3 := (hb7.frozen (p := ⟨wo.heap.size, 1, none⟩) (by show wo.heap.size < wo.heap.size + 1; omega)).trans ff1
              have hz7 := hb7.size
              have hb8 : Below wo.heap.size wo w7 := hbel.trans (hb7.mono (by omega))
              obtain ⟨va, vn, vc, rfl⟩ := own_sl ho7
              have HO7 := Lib.hid ho7
              clear ho7 hg7
              go_wp2_with fail
              go_roundg (P.length - (k + 1))
              case measure => omega
              case rel =>
                have e1 : (Q ++ [(⟨Xn, Xd, Yn, Yd⟩ : Fp)]).length = k + 1 := by simp; omega
                have e2 : fpcs (Q ++ [(⟨Xn, Xd, Yn, Yd⟩ : Fp)]) = fpcs Q ++ [.int .i64 Xn, .int .i64 Xd, .int .i64 Yn, .int .i64 Yd] := by simp [fpcs, fpc]
                refine ⟨k + 1, .slice va vn vc, by omega, by go_num, hsn, ?_, ?_⟩
                · rw [HMP.out]
                  refine ⟨?_, ?_, ?_, ?_, ?_, ?_, [], World.ownsRow_nil _ _ _ _, fun k h => by simp at h⟩
                  case refine_5 => simp; omega
                  case refine_6 =>
                    rw [e1, e2]
                    exact ownK HO7.out (fun g h1 _ => setCell_heap _ _ _ _ (by show g ≠ wo.heap.size; omega))
                  all_goals first | (go_simp; done) | go_keep
                · exact belz
            · have g : (Ye == 0) = false := by simpa using hYe
              have g2 : (Ye != 0) = true := by simpa using hYe
              have HE := Lib.hid (hfa hYe)
              clear hfa hsn
              go_wp2_with (first | (go_at_call 62; (with_reducible refine (HX.out _).mono ?_); rintro e w2 ⟨rfl, hb⟩; have hz := hb.size; (try simp only [szA, szS, szD, szN] at hz); (try (refine bcB (n := wr.heap.size) hb ?_; intro h_wr_0 e_wr_0 d_wr_0 _ _)); (try (refine bcB (n := wo.heap.size) hb ?_; intro h_wo_0 e_wo_0 d_wo_0 _ _)); (try (refine bcB (n := w.heap.size + 1) hb ?_; intro h_w_1 e_w_1 d_w_1 _ _)); (try (refine bcB (n := w.heap.size + 1 + 1) hb ?_; intro h_w_2 e_w_2 d_w_2 _ _))) | (go_at_call 62; (with_reducible refine (HY.out _).mono ?_); rintro e w3 ⟨rfl, hb⟩; have hz := hb.size; (try simp only [szA, szS, szD, szN] at hz); (try (refine bcB (n := wr.heap.size) hb ?_; intro h_wr_0 e_wr_0 d_wr_0 _ _)); (try (refine bcB (n := wo.heap.size) hb ?_; intro h_wo_0 e_wo_0 d_wo_0 _ _)); (try (refine bcB (n := w.heap.size + 1 + 1) hb ?_; intro h_w_2 e_w_2 d_w_2 _ _)); (try (refine bcB (n := w2.heap.size) hb ?_; intro h_w2_0 e_w2_0 d_w2_0 _ _))))
              refine bodyPost_ret (v := .tuple #[.agg #[.slice none 0 0, .slice none 0 0], .int .i64 Ye]) (by simp only [results, Tryd.results35]; go_simp) rfl ⟨?_, by exact belz⟩
              unfold MpRes
              rw [HE.out, if_neg hYe]
          · have g : (Xe == 0) = false := by simpa using hXe
            have g2 : (Xe != 0) = true := by simpa using hXe
            rw [if_pos hXe] at hfa
            have HE := Lib.hid (hfa hXe)
            clear hfa hsn
            go_wp2_with (go_at_call 62; (with_reducible refine (HX.out _).mono ?_); rintro e w2 ⟨rfl, hb⟩; have hz := hb.size; (try simp only [szA, szS, szD, szN] at hz); (try (refine bcB (n := wr.heap.size) hb ?_; intro h_wr_0 e_wr_0 d_wr_0 _ _)); (try (refine bcB (n := wo.heap.size) hb ?_; intro h_wo_0 e_wo_0 d_wo_0 _ _)); (try (refine bcB (n := w.heap.size + 1) hb ?_; intro h_w_1 e_w_1 d_w_1 _ _)); (try (refine bcB (n := w.heap.size + 1 + 1) hb ?_; intro h_w_2 e_w_2 d_w_2 _ _)))
            refine bodyPost_ret (v := .tuple #[.agg #[.slice none 0 0, .slice none 0 0], .int .i64 Xe]) (by simp only [results, Tryd.results35]; go_simp) rfl ⟨?_, by exact belz⟩
            unfold MpRes
            rw [HE.out, if_neg hXe]
        · obtain rfl : k = P.length := by omega
          rw [List.take_of_length_le (Nat.le_refl _)] at hfe hp
          clear hlk
          obtain ⟨Q, hQ⟩ : ∃ Q, Q = P.map (mpP m) := ⟨_, rfl⟩
          have HQ := Lib.hid hQ
          rw [← hQ] at hp
          clear hQ
          obtain ⟨wp, rfl⟩ : ∃ wp : World, wp = wr := ⟨_, rfl⟩
          have HO1 := Lib.hid hp
          clear hp hx hxr xs
          go_wp2_with fail
          clear c0 c1 d0 d1 d2 d3 d4 d5 d6 d7 d8 d9 d10 d11 r0 r1 z0 z1 hltw hbw
          go_loopg [84] L.length (fun gk i wr => ∃ (k : Nat) (v2 : Value), gk + k = L.length ∧ i = .int .i64 k ∧ FgAt wr wo.heap.size (wo.heap.size + 1) v1 v2 Q (L.take k) ∧ Below wo.heap.size wo wr)
          case atStart =>
            exact ⟨0, .slice none 0 0, by omega, rfl, ⟨f0, f1, ff0, ff1, flt, HO1.out, [], World.ownsRow_nil _ _ _ _, fun k h => by simp at h⟩, hbel⟩
          case round =>
            clear f0 f1 ff0 ff1 flt HO1 hbel hsz2
            obtain ⟨k, v2, hk, rfl, hF, hbel⟩ := hrel
            have hMw := HMo.out.below hbel (by omega)
            obtain ⟨c0, c1, d0, d1, d2, d3, d4, d5, d6, d7, d8, d9, d10, d11, r0, r1, z0, z1, hltw⟩ := hMw
            obtain ⟨f0, f1, ff0, ff1, flt, hp, xs, hx, hxr⟩ := hF
            have hbw : Below w.heap.size w wr := hbo.trans (hbel.mono (by omega))
            have hsz2 := hbel.size
            have s1 : ¬ w.heap.size + 1 = wr.heap.size := by omega
            have s2 : ¬ wr.heap.size = w.heap.size + 1 := by omega
            have s3 : ¬ w.heap.size + 1 + 1 = wr.heap.size := by omega
            have s4 : ¬ wr.heap.size = w.heap.size + 1 + 1 := by omega
            have s5 : ¬ wo.heap.size = wr.heap.size := by omega
            have s6 : ¬ wr.heap.size = wo.heap.size := by omega
            by_cases hlk : k < L.length
            · obtain ⟨bb, off, v, ha, hb1, c9w, ⟨⟨ar, cr, rfl, hcr, hI⟩⟩⟩ := HL.out k hlk
              have c9 := (hbw.cell (p := ⟨bb, off + k, none⟩) hb1).trans c9w
              have ix1 := @ix_Row b bb off L.length cb k ha hlk
              have hln := lnE_ok (fe_zero hel k hlk)
              have htk : L.take (k + 1) = L.take k ++ [L[k]] := List.take_succ_eq_append_getElem hlk
              have hql : (L.take k).length = k := by simp; omega
              clear ha c9w
              generalize L[k] = r at *
              obtain ⟨b3, off3, rfl, hb3, -⟩ := hI 0 (by omega)
              have HI := Lib.hid (hI.below (Nat.le_refl _) hbw)
              have HTK := Lib.hid htk
              have HO1 := Lib.hid hp
              have HO2 := Lib.hid hx
              have HO3 := Lib.hid hxr
              obtain ⟨m2, n2, c2, rfl⟩ := own_sl hx
              generalize L.take k = K at *
              clear hI hp hx hxr htk c0 c1 d0 d1 d2 d3 d4 d5 d6 d7 d8 d9 d10 d11 z0 z1 r0 r1
              go_upto_region 26 with fail
              go_region_law (first | (refine step_append_lies _ (by rfl) _ _ _ (by rfl) (wo.heap.size + 1) 3 n0 (.int .i64 0) 1 8 Tryd.underlying39 hn0 nz0 nz1 nz2 rfl (by omega) (.slice none 0 0) 0 [] (by rfl) (World.ownsRow_nil _ _ _ _) ⟨b3, off3, none⟩ r.length cr (icells r) (by rfl) (icells_len r) (src_int (HI.out.below (Nat.le_refl _) (by (clear hbel hbw hbo; exact belz)))) (icells_one r) (by omega) (by unfold maxLen; omega) (by omega) (by simp; omega) wr.heap.size (by simp) ?_; intro gg cap3 w3 hown3 hgrow3 _ hlt3; have hb3w : Below wr.heap.size wr w3 := Below.grown (by (clear hbel hbw hbo; exact belz)) hgrow3 (by (try simp)) (fun q hq => by simp [Value.ownBlock] at hq); have hz3 := hb3w.size; have y3 := (hb3w.cell (p := ⟨wo.heap.size, 1, none⟩) flt).trans f1; have y4 := (hb3w.frozen (p := ⟨wo.heap.size, 1, none⟩) flt).trans ff1; have y7 : wo.heap.size < w3.heap.size := (by omega); have y8 : ¬ wo.heap.size = w3.heap.size := (by omega); have y9 : ¬ w3.heap.size = wo.heap.size := (by omega)) | (refine step_append_lies _ (by rfl) _ _ _ (by rfl) (wo.heap.size + 1) 39 j0 (.slice none 0 0) 1 24 Tryd.underlying55 hj0 jz0 jz1 jz2 rfl (by omega) (.slice m2 n2 c2) K.length xs (by rfl) ((own_below HO2.out hb3w).alloc _) ⟨w3.heap.size, 0, none⟩ 1 1 [.slice (some ⟨gg, 0, none⟩) r.length cap3] (by rfl) (by rfl) (World.news_of_block (cs := #[.slice (some ⟨gg, 0, none⟩) r.length cap3]) (t := 39) (fr := (0, 0)) (heap_alloc_new w3 _)) (by simp [Value.oneCell']) (by omega) (by unfold maxLen; omega) (by omega) (by simp; omega) (w3.heap.size + 1) (by simp) ?_; intro g4 cap4 w4 hown4 hgrow4 _ hlt4; have hb4w : Below (wo.heap.size + 1) wr w4 := Below.grown ((hb3w.alloc hz3 _).mono (by omega)) hgrow4 (by (try simp); (try omega)) (fun q hq => (own_ty HO2.out q hq).1); have hz4 := hb4w.size; have y5 := (hb4w.cell (p := ⟨wo.heap.size, 1, none⟩) (by show wo.heap.size < wo.heap.size + 1; omega)).trans f1; have y6 := (hb4w.frozen (p := ⟨wo.heap.size, 1, none⟩) (by show wo.heap.size < wo.heap.size + 1; omega)).trans ff1))
              all_goals
                have HO9 := Lib.hid (own_other (hown3.alloc _) ((own_below HO2.out hb3w).alloc _) (by decide) hgrow4)
                have HP9 := Lib.hid (own_other ((own_below HO1.out hb3w).alloc _) ((own_below HO2.out hb3w).alloc _) (by decide) hgrow4)
                have HL9 := Lib.hid (show ∀ i (h : i < K.length), ∃ v, xs[i]? = some v ∧ w4.ownsRow (wo.heap.size + 1) 3 1 v K[i].length (icells K[i]) from fun i hi => by
                  obtain ⟨v, x1, x2⟩ := HO3.out i hi
                  exact ⟨v, x1, own_other ((own_below x2 hb3w).alloc _) ((own_below HO2.out hb3w).alloc _) (by decide) hgrow4⟩)
                have HO4 := Lib.hid hown4
                clear hown3 hown4 hgrow3 hgrow4
                go_wp2_with fail
                go_roundg (L.length - (k + 1))
              all_goals first
                | (case measure => omega)
                | skip
              all_goals
                have hb8 : Below wo.heap.size wo w4 := hbel.trans (hb4w.mono (by omega))
                have key : ∀ (g : Nat), wo.heap.size + 1 ≤ g → g < w4.heap.size → (w4.setCell ⟨wo.heap.size, 1, none⟩ (.slice (some ⟨g4, 0, none⟩) (k + 1) cap4)).heap[g]? = w4.heap[g]? := fun g h1 _ => setCell_heap _ _ _ _ (by show g ≠ wo.heap.size; omega)
                have e1 : (K ++ [r]).length = k + 1 := by simp; omega
                have h4 := HO4.out
                rw [hql] at h4
                have h9 := HO9.out
                rw [Nat.zero_add, List.nil_append] at h9
                have hxl : xs.length = K.length := by have := HO2.out.1; omega
                have q0 := (hb4w.cell (p := ⟨wo.heap.size, 0, none⟩) (by show wo.heap.size < wo.heap.size + 1; omega)).trans f0
                have q1 := (hb4w.frozen (p := ⟨wo.heap.size, 0, none⟩) (by show wo.heap.size < wo.heap.size + 1; omega)).trans ff0
                refine ⟨k + 1, .slice (some ⟨g4, 0, none⟩) (k + 1) cap4, by omega, by go_num, ?_, ?_⟩
                · rw [HTK.out]
                  refine ⟨?_, ?_, ?_, ?_, ?_, ?_, xs ++ [.slice (some ⟨gg, 0, none⟩) r.length cap3], ?_, ?_⟩
                  case refine_5 => simp; omega
                  case refine_6 => exact ownK HP9.out key
                  case refine_7 => rw [e1]; exact ownK h4 key
                  case refine_8 =>
                    intro i hi
                    by_cases hil : i < K.length
                    · obtain ⟨v, x1, x2⟩ := HL9.out i hil
                      refine ⟨v, ?_, ?_⟩
                      · rw [List.getElem?_append_left (by omega)]; exact x1
                      · rw [List.getElem_append_left hil]; exact ownK x2 key
                    · have hk2 : i = K.length := by omega
                      subst hk2
                      refine ⟨.slice (some ⟨gg, 0, none⟩) r.length cap3, ?_, ?_⟩
                      · rw [List.getElem?_append_right (by omega), hxl, Nat.sub_self]; rfl
                      · rw [List.getElem_append_right (Nat.le_refl _)]
                        simp only [Nat.sub_self, List.getElem_cons_zero]
                        exact ownK h9 key
                  all_goals first | (go_simp; done) | go_keep
                · clear hbw hbo hbel
                  exact belz
            · obtain rfl : k = L.length := by omega
              rw [List.take_of_length_le (Nat.le_refl _)] at hx hxr
              obtain ⟨a1, e1, rfl, hc1, -⟩ := own_Fp hp
              obtain ⟨a2, e2, rfl, hc2, -⟩ := own_Mat hx hxr
              have hfo : FigOwn wr (wo.heap.size + 1) (.slice a1 Q.length e1) (.slice a2 L.length e2) Q L := ⟨hp, xs, hx, hxr⟩
              have HFO := Lib.hid hfo
              clear hfo hp hx hxr hlk
              go_wp2_with fail
              refine bodyPost_ret (v := .tuple #[.agg #[.slice a1 Q.length e1, .slice a2 L.length e2], .int .i64 0]) (by simp only [results, Tryd.results35]; go_simp) rfl ⟨?_, by exact belz⟩
              unfold MpRes
              rw [if_pos hfe, ← HQ.out]
              refine ⟨a1, a2, e1, e2, rfl, (HFO.out.kept (fun g h1 _ => ?_)).base (by omega)⟩
              rw [setCell_heap _ _ _ _ (by show g ≠ w.heap.size + 1 + 1; omega), setCell_heap _ _ _ _ (by show g ≠ w.heap.size + 1 + 1; omega)]
end Go.Proofs.YtbcehnhiedbbbaaDoor
