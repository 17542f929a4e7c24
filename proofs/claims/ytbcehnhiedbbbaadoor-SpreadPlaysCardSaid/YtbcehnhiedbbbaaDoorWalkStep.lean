/- The contract of spread.Net's Step. -/
import Derived.Test.YtbcehnhiedbbbaaDoorSpB
import Derived.Deep.LoopGhost
set_option linter.unusedVariables false
set_option linter.unusedSimpArgs false
namespace Go.Proofs.YtbcehnhiedbbbaaDoor
open Go.RowKit
set_option maxRecDepth 100000 in
set_option maxHeartbeats 4000000 in
theorem c_Step {B nb : Nat} {vk vn vh : Value} {K : List Int} {N : List (List Int)} {rows : List (List Nt)} {rb : List (Nat × Nat)} (w : World) (h : NetAt w B nb vk vn vh K N rows rb) (hn : 0 < rows.length) (h12 : rows.length ≤ 12) (h8 : K.length ≤ 8) (hN : N.length = rows.length) (hNr : ∀ r ∈ N, ∀ k ∈ r, 0 ≤ k ∧ k < (rows.length : Int)) (hN80 : ∀ r ∈ N, r.length ≤ 80) (hB : B ≤ w.heap.size) :
    Calls Tryd.prog 23 #[.pointer (some ⟨nb, 0, none⟩)] w fun e w' => e = .returned (.int .i64 (chgTo rows (stAll rows N) rows.length)) ∧ ∃ vh' rb' W, NetAt w' B nb vk vn vh' K N (stAll rows N) rb' ∧ Below w.heap.size w W ∧ w' = W.setCell ⟨nb, 2, none⟩ vh' := by
  have hlt := h.lt
  obtain ⟨ka, kc, ob, hc, h0, h2, hob, hK, hR⟩ := net_slices h hn
  have HNet := Lib.hid h
  have HR := Lib.hid hR
  have HNr := Lib.hid hNr
  have H80 := Lib.hid hN80
  have HNl := Lib.hid hN
  have HBd := Lib.hid (chgTo_le rows (stAll rows N))
  have HBd0 := Lib.hid (chgTo_nn rows (stAll rows N))
  clear hR hK hNr hN h hN80
  have hgen := sgen; have hgen2 := sgen2; have hgen3 := sgen3; go_enter Tryd.func23, Tryd.ntmps23
  go_wp2_with fail
  go_loopg [3, 4, 17] rows.length (fun gk x3 x4 x17 wr => ∃ (i : Nat) (nrb : List (Nat × Nat)), gk + i = rows.length ∧ x17 = .int .i64 i ∧ x4 = .int .i64 (chgTo rows (stAll rows N) i) ∧ RowsAt wr w.heap.size K.length ((stAll rows N).take i) nrb ∧ wr.ownsRow w.heap.size 41 1 x3 i (rbV K.length nrb) ∧ Below w.heap.size w wr)
  case atStart => exact ⟨0, [], by omega, rfl, rfl, ⟨rfl, fun k h => by simp at h, fun i j h1 => by simp at h1⟩, World.ownsRow_nil _ _ _ _, Below.refl _ _⟩
  case round =>
    obtain ⟨i, nrb, hi, rfl, rfl, hRo, hO, hbel⟩ := hrel
    by_cases hlt2 : i < rows.length
    · have hrl : i < rb.length := by have := HNet.out.len; omega
      obtain ⟨r1, -, -⟩ := HR.out i hlt2 hrl
      obtain ⟨hrk, hrw⟩ := HNet.out.row i hlt2 hrl
      have e2 := (hbel.cell (p := ⟨nb, 2, none⟩) hlt).trans h2
      have e1 := (hbel.cell (p := ⟨ob, i, none⟩) hob).trans r1
      have ixr := @ix_Hr ob 0 rows.length hc i hlt2
      simp only [Nat.zero_add] at ixr
      have hcl := fun w1 (q : NtRow w1 B rb[i].1 rb[i].2 rows[i]) (q2 : rb[i].1 < w1.heap.size) => c_CloneN B rb[i].1 rb[i].2 rows[i] w1 (by omega) q q2
      rw [hrk] at hcl
      have HCl := Lib.hid hcl
      have HRw := Lib.hid (hrw.below hbel)
      have hszo := hbel.size
      have hgl := (hrw.form).2.1
      have HO := Lib.hid hO
      have HRo := Lib.hid hRo
      have hform : ∃ a m c, u3 = .slice a m c := by
        rcases hO.2 with ⟨rfl, -⟩ | ⟨g, cap, cur, rfl, -⟩
        · exact ⟨_, _, _, rfl⟩
        · exact ⟨_, _, _, rfl⟩
      obtain ⟨na, nm, nc, rfl⟩ := hform
      clear hcl hrw hRo hO r1
      obtain ⟨wo, rfl⟩ : ∃ wo : World, wo = wr := ⟨_, rfl⟩
      go_upto_region 7 with (go_at_call 47; (with_reducible refine (HCl.out _ HRw.out (by omega)).mono ?_); rintro e w1 ⟨g, cap, rfl, hg0, hrg, hb⟩; have hz := hb.size; (try simp only [szA, szS, szD, szN] at hz); (try (refine bcB (n := w.heap.size) hb ?_; intro h_w_0 e_w_0 d_w_0 _ _)))
      have hb1 : Below w.heap.size w w1 := by (exact hbel.trans (hb.mono hszo))
      obtain ⟨xs, m1, m2⟩ := HNet.out.near
      have hiN : i < N.length := by rw [HNl.out]; exact hlt2
      have hi80 := H80.out N[i] (List.getElem_mem hiN)
      obtain ⟨v, hv, hvo⟩ := m2 i hiN
      have hnf : ∃ pb pc, vn = .slice (some ⟨pb, 0, none⟩) N.length pc ∧ pb < w.heap.size ∧ w.cell? ⟨pb, i, none⟩ = some v := by
        rcases own_form m1 with ⟨rfl, h0⟩ | ⟨pb, pc, e, _, _, _, q4, q5, _⟩
        · omega
        · exact ⟨pb, pc, e, q4, by rw [q5 i (by omega)]; exact hv⟩
      obtain ⟨pb, pc, hvn, hpb, hpc⟩ := hnf
      have hvf : ∃ ia ic, v = .slice ia N[i].length ic ∧ IntSlice w ia N[i] := by
        rcases own_form hvo with ⟨rfl, h0⟩ | ⟨qb, qc, e, _, _, _, q4, q5, _⟩
        · exact ⟨none, 0, by rw [h0], fun k hk => by omega⟩
        · refine ⟨_, qc, e, fun k hk => ⟨qb, 0, rfl, q4, ?_⟩⟩
          rw [Nat.zero_add, q5 k (by omega)]
          simp [icells, hk]
      obtain ⟨ia, ic, rfl, hI⟩ := hvf
      have d1 := (hb1.cell (p := ⟨nb, 1, none⟩) hlt).trans (HNet.out.c1.trans (by rw [hvn]))
      have d2 := (hb1.cell (p := ⟨pb, i, none⟩) hpb).trans hpc
      have d3 := (hb1.cell (p := ⟨nb, 2, none⟩) hlt).trans h2
      have ixn := @ix_Row (some ⟨pb, 0, none⟩) pb 0 N.length pc i rfl hiN
      simp only [Nat.zero_add] at ixn
      have HI := Lib.hid hI
      clear hI hvo m1 m2 hv
      have hne : ∀ p ∈ nrb, p.1 ≠ g := fun p hp => by
        obtain ⟨q, hq, rfl⟩ := List.getElem_of_mem hp
        have := (HRo.out.row q (by have := HRo.out.len; omega) hq).2.form.2.1
        omega
      have HR1 := Lib.hid (HRo.out.below hb)
      have HO1 := Lib.hid (own_below HO.out hb)
      have HG1 := Lib.hid (show NtRow w1 w.heap.size g cap rows[i] from own_base2 hrg hszo)
      have HB1 := Lib.hid hb1
      clear hrg hb1
      rw [← HNl.out] at ixr
      go_wp2_with fail
      go_loopg [32] N[i].length (fun gk x32 wr => ∃ j : Nat, gk + j = N[i].length ∧ x32 = .int .i64 j ∧ StIn w wr (.slice na nm nc) i K.length ((stAll rows N).take i) nrb g cap (stRow rows (N[i].take j) rows[i]))
      case atStart => exact ⟨0, by omega, rfl, ⟨HG1.out, HR1.out, HO1.out, HB1.out⟩⟩
      case round =>
        obtain ⟨j, hj, rfl, hst⟩ := hrel
        have HST := Lib.hid hst
        have hB := hst.below
        clear hst
        have hrl2 : ∀ k, k < rows.length → (rows.getD k []).length = K.length := fun k hk => by
          have := (HNet.out.row k hk (by have := HNet.out.len; omega)).1
          simpa [List.getD_eq_getElem?_getD, hk] using this
        by_cases hjl : j < N[i].length
        · obtain ⟨bb, off, hia, hbb, hbc⟩ := HI.out j hjl
          have ixj := @ix_Int ia bb off N[i].length ic j hia hjl
          clear hia
          obtain ⟨hk0, hk1⟩ := HNr.out N[i] (List.getElem_mem hiN) N[i][j] (List.getElem_mem hjl)
          have hsn := stRow_snoc rows N[i] j hjl rows[i]
          have hRl : (stRow rows (N[i].take j) rows[i]).length = K.length := stRow_len hrl2 _ _ (fun q hq => HNr.out N[i] (List.getElem_mem hiN) q (List.mem_of_mem_take hq)) hrk
          generalize hkk : N[i][j] = kk at *
          obtain ⟨k, rfl⟩ : ∃ k : Nat, kk = (k : Int) := ⟨_, (Int.toNat_of_nonneg hk0).symm⟩
          have hkr : k < rows.length := by omega
          have hkb : k < rb.length := by have := HNet.out.len; omega
          obtain ⟨y1, -, y3⟩ := HR.out k hkr hkb
          have hSl := hrl2 k hkr
          rw [Int.toNat_natCast] at hsn
          have c1 := (hB.cell (p := ⟨bb, off + j, none⟩) hbb).trans hbc
          have c2 := (hB.cell (p := ⟨nb, 2, none⟩) hlt).trans h2
          have c3 := (hB.cell (p := ⟨ob, k, none⟩) hob).trans y1
          have ixk := @ix_Hr ob 0 rows.length hc k hkr
          simp only [Nat.zero_add] at ixk
          have HSn := Lib.hid hsn
          have HY3 := Lib.hid y3
          have HKK := Lib.hid hkk
          have HRL2 := Lib.hid hrl2
          clear hsn y3 hkk hbc y1 hrl2
          generalize hR0 : stRow rows (N[i].take j) rows[i] = R at *
          have HR0 := Lib.hid hR0
          clear hR0
          obtain ⟨wo, rfl⟩ : ∃ wo : World, wo = wr := ⟨_, rfl⟩
          go_wp2_with fail
          go_loopg [44] K.length (fun gk x44 wr => ∃ a : Nat, gk + a = K.length ∧ x44 = .int .i64 a ∧ StIn w wr (.slice na nm nc) i K.length ((stAll rows N).take i) nrb g cap (upTo R (rows.getD k []) a))
          case atStart => exact ⟨0, by omega, rfl, by rw [upTo_zero]; exact HST.out⟩
          case round =>
            obtain ⟨a, ha, rfl, hst3⟩ := hrel
            by_cases hal : a < K.length
            · have hle : R.length = (rows.getD k []).length := by rw [hRl, hSl]
              have hlU : a < (upTo R (rows.getD k []) a).length := by rw [upTo_len hle, hRl]; exact hal
              obtain ⟨-, hgz, -, hfz, hg4⟩ := hst3.row.form
              obtain ⟨v0, v1, v2, v3, -⟩ := hg4 a hlU
              obtain ⟨z0, z1, z2, z3, zl⟩ := HY3.out a hal
              have e1 : (upTo R (rows.getD k []) a)[a] = R[a]'(by omega) := by
                have h1 := upTo_at hle a (by omega)
                rw [List.getElem?_eq_getElem hlU, List.getElem?_eq_getElem (by omega)] at h1
                exact Option.some.inj h1
              have e2 : hold rows k a = (rows.getD k [])[a]'(by omega) := by
                unfold hold
                rw [List.getD_eq_getElem?_getD, List.getElem?_eq_getElem (by omega)]
                rfl
              have hsu := upTo_succ hle a (by omega)
              have hse : (upTo R (rows.getD k []) a).set a (R[a]'(by omega)) = upTo R (rows.getD k []) a := by
                rw [← e1]; exact List.set_getElem_self _
              rw [e1] at v0 v1 v2 v3
              rw [e2] at z0 z1 z2 z3
              generalize R[a]'(by omega) = r at *
              generalize (rows.getD k [])[a]'(by omega) = s at *
              clear e1 e2
              have q0 := (hst3.below.cell (p := ⟨rb[k].1, a * 4, none⟩) zl).trans z0
              have q1 := (hst3.below.cell (p := ⟨rb[k].1, a * 4 + 1, none⟩) zl).trans z1
              have q2 := (hst3.below.cell (p := ⟨rb[k].1, a * 4 + 2, none⟩) zl).trans z2
              have q3 := (hst3.below.cell (p := ⟨rb[k].1, a * 4 + 3, none⟩) zl).trans z3
              have ixs := @ix_Nt (some ⟨rb[k].1, 0, none⟩) rb[k].1 0 K.length rb[k].2 a rfl hal
              have ixg := @ix_Nt (some ⟨g, 0, none⟩) g 0 K.length cap a rfl hal
              simp only [Nat.zero_add] at ixs ixg
              obtain ⟨s0, s1, s2, s3⟩ := s
              obtain ⟨r0, r1, r2, r3⟩ := r
              dsimp only at v0 v1 v2 v3 q0 q1 q2 q3
              have hnw := fun w1 => c_newer s0 s1 s2 s3 r0 r1 r2 r3 w1
              have HST3 := Lib.hid hst3
              have HLU := Lib.hid hlU
              have HSU := Lib.hid hsu
              have HSE := Lib.hid hse
              have HFZ := Lib.hid hfz
              have hzl2 : rb[k].1 < wr.heap.size := by have := hst3.below.size; omega
              clear z0 z1 z2 z3 hst3 hlU hsu hse hg4 hfz
              cases hq : nwF s1 s2 r1 r2 with
              | true =>
                rw [hq] at hnw
                have HNw := Lib.hid hnw
                have HQ := Lib.hid hq
                clear hnw hq
                go_upto_region 13 with fail
                go_region_held3 (fun w' => w'.cell? ⟨g, a * 4, none⟩ = some (.int .i64 r0) ∧ w'.cell? ⟨g, a * 4 + 1, none⟩ = some (.int .i64 r1) ∧ w'.cell? ⟨g, a * 4 + 2, none⟩ = some (.string r2) ∧ w'.cell? ⟨g, a * 4 + 3, none⟩ = some (.int .i64 r3) ∧ w'.cell? ⟨wr.heap.size, 0, none⟩ = some (.int .i64 s0) ∧ w'.cell? ⟨wr.heap.size, 1, none⟩ = some (.int .i64 s1) ∧ w'.cell? ⟨wr.heap.size, 2, none⟩ = some (.string s2) ∧ w'.cell? ⟨wr.heap.size, 3, none⟩ = some (.int .i64 s3)) (refine ⟨?_, ?_, ?_, ?_, ?_, ?_, ?_, ?_⟩ <;> (first | assumption | (go_simp; done) | (rw [hb.cell (by first | (simp; done) | (simp; omega) | omega)]; first | assumption | (go_simp; done)) | go_keep)) ((go_at_call 48; (with_reducible refine (HNw.out _).mono ?_); rintro e w2 ⟨rfl, hb⟩; have hz := hb.size; (try simp only [szA, szS, szD, szN] at hz); (try (refine bcB (n := wr.heap.size) hb ?_; intro h_wr_0 e_wr_0 d_wr_0 _ _))))
                have hB2 : Below wr.heap.size wr w2 := by exact belz
                have HSK := Lib.hid (HST3.out.kept hB2)
                have f0 : w2.frozen? ⟨g, a * 4, none⟩ = false := (hB2.frozen (p := ⟨g, a * 4, none⟩) hgz).trans (HFZ.out _)
                have f1 : w2.frozen? ⟨g, a * 4 + 1, none⟩ = false := (hB2.frozen (p := ⟨g, a * 4 + 1, none⟩) hgz).trans (HFZ.out _)
                have f2 : w2.frozen? ⟨g, a * 4 + 2, none⟩ = false := (hB2.frozen (p := ⟨g, a * 4 + 2, none⟩) hgz).trans (HFZ.out _)
                have f3 : w2.frozen? ⟨g, a * 4 + 3, none⟩ = false := (hB2.frozen (p := ⟨g, a * 4 + 3, none⟩) hgz).trans (HFZ.out _)
                have u0 : w2.cell? ⟨g, a * 4, none⟩ = some (.int .i64 r0) := (hB2.cell (p := ⟨g, a * 4, none⟩) hgz).trans v0
                have u1 : w2.cell? ⟨g, a * 4 + 1, none⟩ = some (.int .i64 r1) := (hB2.cell (p := ⟨g, a * 4 + 1, none⟩) hgz).trans v1
                have u2 : w2.cell? ⟨g, a * 4 + 2, none⟩ = some (.string r2) := (hB2.cell (p := ⟨g, a * 4 + 2, none⟩) hgz).trans v2
                have u3 : w2.cell? ⟨g, a * 4 + 3, none⟩ = some (.int .i64 r3) := (hB2.cell (p := ⟨g, a * 4 + 3, none⟩) hgz).trans v3
                have hgne : ¬ wr.heap.size = g := by omega
                go_wp2_with fail
                go_roundg (K.length - (a + 1))
                case measure => omega
                case rel =>
                  refine ⟨a + 1, by omega, by go_num, ?_⟩
                  have hp := HSK.out.put hne a HLU.out ⟨s0, s1, s2, s3⟩
                  rw [← HSU.out, show nw1 ⟨r0, r1, r2, r3⟩ ⟨s0, s1, s2, s3⟩ = ⟨s0, s1, s2, s3⟩ by unfold nw1; rw [if_pos HQ.out]]
                  exact hp
              | false =>
                rw [hq] at hnw
                have HNw := Lib.hid hnw
                have HQ := Lib.hid hq
                clear hnw hq
                go_upto_region 13 with fail
                go_region_held3 (fun w' => w'.cell? ⟨g, a * 4, none⟩ = some (.int .i64 r0) ∧ w'.cell? ⟨g, a * 4 + 1, none⟩ = some (.int .i64 r1) ∧ w'.cell? ⟨g, a * 4 + 2, none⟩ = some (.string r2) ∧ w'.cell? ⟨g, a * 4 + 3, none⟩ = some (.int .i64 r3) ∧ w'.cell? ⟨wr.heap.size, 0, none⟩ = some (.int .i64 s0) ∧ w'.cell? ⟨wr.heap.size, 1, none⟩ = some (.int .i64 s1) ∧ w'.cell? ⟨wr.heap.size, 2, none⟩ = some (.string s2) ∧ w'.cell? ⟨wr.heap.size, 3, none⟩ = some (.int .i64 s3)) (refine ⟨?_, ?_, ?_, ?_, ?_, ?_, ?_, ?_⟩ <;> (first | assumption | (go_simp; done) | (rw [hb.cell (by first | (simp; done) | (simp; omega) | omega)]; first | assumption | (go_simp; done)) | go_keep)) ((go_at_call 48; (with_reducible refine (HNw.out _).mono ?_); rintro e w2 ⟨rfl, hb⟩; have hz := hb.size; (try simp only [szA, szS, szD, szN] at hz); (try (refine bcB (n := wr.heap.size) hb ?_; intro h_wr_0 e_wr_0 d_wr_0 _ _))))
                have hB2 : Below wr.heap.size wr w2 := by exact belz
                have HSK := Lib.hid (HST3.out.kept hB2)
                go_wp2_with fail
                go_roundg (K.length - (a + 1))
                case measure => omega
                case rel =>
                  refine ⟨a + 1, by omega, by go_num, ?_⟩
                  rw [← HSU.out, show nw1 ⟨r0, r1, r2, r3⟩ ⟨s0, s1, s2, s3⟩ = ⟨r0, r1, r2, r3⟩ by unfold nw1; rw [if_neg (by rw [HQ.out]; decide)], HSE.out]
                  exact HSK.out
            · obtain rfl : a = K.length := by omega
              have hst4 : StIn w wr (.slice na nm nc) i K.length ((stAll rows N).take i) nrb g cap (stRow rows (N[i].take (j + 1)) rows[i]) := by
                rw [HSn.out, ← upTo_all (by rw [hRl, hSl]), hRl]; exact hst3
              have HS4 := Lib.hid hst4
              clear hst4 hst3
              go_wp2_with fail
              go_roundg (N[i].length - (j + 1))
              case measure => omega
              case rel => exact ⟨j + 1, by omega, by go_num, HS4.out⟩
        · obtain rfl : j = N[i].length := by omega
          have hst5 := HST.out
          rw [List.take_of_length_le (Nat.le_refl _)] at hst5
          have hrl3 := stRow_len hrl2 N[i] rows[i] (fun q hq => HNr.out N[i] (List.getElem_mem hiN) q hq) hrk
          have hsi : (stAll rows N)[i]? = some (stRow rows N[i] rows[i]) := by
            unfold stAll
            simp [hlt2, hiN, List.getD_eq_getElem?_getD]
          generalize hL : stRow rows N[i] rows[i] = L at *
          have htk : (stAll rows N).take (i + 1) = (stAll rows N).take i ++ [L] := by
            rw [List.take_add_one, hsi]; rfl
          have hch : chgTo rows (stAll rows N) (i + 1) = chgTo rows (stAll rows N) i + (if eqRow L rows[i] = true then 0 else 1) := by
            show chgTo rows (stAll rows N) i + _ = _
            rw [List.getD_eq_getElem?_getD, hsi, List.getD_eq_getElem?_getD, List.getElem?_eq_getElem hlt2]
            rfl
          have HTk := Lib.hid htk
          have HCh := Lib.hid hch
          have HIe := HNet.out.row i hlt2 hrl
          have hEq := fun w1 (q1 : NtRow w1 w.heap.size g cap L) (q2 : NtRow w1 B rb[i].1 rb[i].2 rows[i]) => c_EqualN w.heap.size B g cap rb[i].1 rb[i].2 L rows[i] w1 (by rw [hrl3, hrk]) (by omega) q1 q2
          rw [hrl3, hrk] at hEq
          have HL3 := Lib.hid hrl3
          have HOwnI := Lib.hid (HIe.2.below hB)
          have hle0 : chgTo rows (stAll rows N) i ≤ i := HBd.out i
          have hge0 : 0 ≤ chgTo rows (stAll rows N) i := HBd0.out i
          have HS5 := Lib.hid hst5
          have hzz := hB.size
          clear hsi hL htk hch hrl3 hrl2 HIe hst5 HST
          generalize chgTo rows (stAll rows N) i = ch at *
          obtain ⟨wo2, rfl⟩ : ∃ wo2 : World, wo2 = wr := ⟨_, rfl⟩
          change ∀ w1 q1 q2, Calls _ _ _ w1 fun e w' => e = .returned (.bool (eqRow L rows[i])) ∧ _ at hEq
          obtain ⟨j0, hj0, jz0, jz1, jz2⟩ := info_parts (show (Tryd.prog.info? 41).map (fun i => (i.zero, i.size, i.bytes)) = some (some (.slice none 0 0), 1, 24) by kernel_rfl)
          cases hq : eqRow L rows[i] with
          | true =>
            rw [hq] at hEq
            have HEq := Lib.hid hEq
            have HQ := Lib.hid hq
            clear hEq hq
            go_upto_region 19 with (go_at_call 49; (with_reducible refine (HEq.out _ HS5.out.row HOwnI.out).mono ?_); rintro e w3 ⟨rfl, hb⟩; have hz := hb.size; (try simp only [szA, szS, szD, szN] at hz); (try (refine bcB (n := w.heap.size) hb ?_; intro h_w_0 e_w_0 d_w_0 _ _)); (try (refine bcB (n := wo2.heap.size) hb ?_; intro h_wo2_0 e_wo2_0 d_wo2_0 _ _)))
            have hb3 : Below wo2.heap.size wo2 w3 := by assumption
            have HS6 := Lib.hid (HS5.out.kept hb3)
            have hs3 := hb3.size
            go_wp2_with (at_builtin; go_loud (refine wpList_append_own _ rfl (.tmp 67) (.tmp 69) 95 rfl w.heap.size 41 j0 (.slice none 0 0) 1 24 Tryd.underlying95 hj0 jz0 jz1 jz2 rfl (by decide) (.slice na nm nc) i (rbV K.length nrb) rfl (HS6.out.out.alloc _) ⟨w3.heap.size, 0, none⟩ 1 1 [.slice (some ⟨g, 0, none⟩) K.length cap] rfl rfl ?qa1 ?qa2 ?qa3 ?qa4 ?qa5 ?_))
            case qa1 =>
              intro j u hj
              match j, hj with
              | 0, hj => simp at hj; subst hj; simp only [Addr.add]; go_simp
            case qa2 => intro u hu; simp at hu; subst hu; rfl
            case qa3 => unfold maxLen; omega
            case qa4 => omega
            case qa5 => simp; omega
            intro v' w7 ho7 hg7 _
            have hfin := StIn.grown (HS6.out.kept (w' := _) ((Below.refl _ _).alloc (Nat.le_refl _) _)) hne HL3.out ho7 hg7
            rw [← HTk.out] at hfin
            have HF := Lib.hid hfin
            clear hfin ho7 hg7
            go_wp2_with fail
            go_roundg (rows.length - (i + 1))
            case measure => omega
            case rel => exact ⟨i + 1, nrb ++ [(g, cap)], by omega, by go_num, by rw [HCh.out, if_pos HQ.out, Int.add_zero], HF.out.1, HF.out.2.1, HF.out.2.2⟩
          | false =>
            rw [hq] at hEq
            have HEq := Lib.hid hEq
            have HQ := Lib.hid hq
            clear hEq hq
            go_upto_region 19 with (go_at_call 49; (with_reducible refine (HEq.out _ HS5.out.row HOwnI.out).mono ?_); rintro e w3 ⟨rfl, hb⟩; have hz := hb.size; (try simp only [szA, szS, szD, szN] at hz); (try (refine bcB (n := w.heap.size) hb ?_; intro h_w_0 e_w_0 d_w_0 _ _)); (try (refine bcB (n := wo2.heap.size) hb ?_; intro h_wo2_0 e_wo2_0 d_wo2_0 _ _)))
            have hb3 : Below wo2.heap.size wo2 w3 := by assumption
            have HS6 := Lib.hid (HS5.out.kept hb3)
            have hs3 := hb3.size
            go_wp2_with (at_builtin; go_loud (refine wpList_append_own _ rfl (.tmp 67) (.tmp 69) 95 rfl w.heap.size 41 j0 (.slice none 0 0) 1 24 Tryd.underlying95 hj0 jz0 jz1 jz2 rfl (by decide) (.slice na nm nc) i (rbV K.length nrb) rfl (HS6.out.out.alloc _) ⟨w3.heap.size, 0, none⟩ 1 1 [.slice (some ⟨g, 0, none⟩) K.length cap] rfl rfl ?qa1 ?qa2 ?qa3 ?qa4 ?qa5 ?_))
            case qa1 =>
              intro j u hj
              match j, hj with
              | 0, hj => simp at hj; subst hj; simp only [Addr.add]; go_simp
            case qa2 => intro u hu; simp at hu; subst hu; rfl
            case qa3 => unfold maxLen; omega
            case qa4 => omega
            case qa5 => simp; omega
            intro v' w7 ho7 hg7 _
            have hfin := StIn.grown (HS6.out.kept (w' := _) ((Below.refl _ _).alloc (Nat.le_refl _) _)) hne HL3.out ho7 hg7
            rw [← HTk.out] at hfin
            have HF := Lib.hid hfin
            clear hfin ho7 hg7
            go_wp2_with fail
            go_roundg (rows.length - (i + 1))
            case measure => omega
            case rel => exact ⟨i + 1, nrb ++ [(g, cap)], by omega, by go_num, by rw [HCh.out, if_neg (by rw [HQ.out]; decide)], HF.out.1, HF.out.2.1, HF.out.2.2⟩
    · obtain rfl : i = rows.length := by omega
      have hlen : (stAll rows N).length = rows.length := by simp [stAll]
      rw [List.take_of_length_le (by omega)] at hRo
      have hNw := HNet.out.below hbel
      obtain ⟨cur, hty⟩ := hNw.ty
      have hf := hNw.f2
      have hc2 := hNw.c2
      have hform : ∃ a m c, u3 = .slice a m c := by
        rcases hO.2 with ⟨rfl, -⟩ | ⟨g, cap, cur, rfl, -⟩
        · exact ⟨_, _, _, rfl⟩
        · exact ⟨_, _, _, rfl⟩
      obtain ⟨na, nm, nc, rfl⟩ := hform
      have HO := Lib.hid hO
      have HRo := Lib.hid hRo
      have HNw := Lib.hid hNw
      have HT := Lib.hid hty
      clear hO hRo hNw hty
      go_wp2_with fail
      go_ret
      refine ⟨rfl, .slice na nm nc, nrb, wr, ?_, hbel, rfl⟩
      have hne : ∀ p ∈ nrb, p.1 ≠ nb := fun p hp => by
        obtain ⟨k, hk, rfl⟩ := List.getElem_of_mem hp
        have := (HRo.out.row k (by have := HRo.out.len; omega) hk).2.form.1
        omega
      have a0 := HNw.out.c0
      have a1 := HNw.out.c1
      obtain ⟨xs, n1, n2⟩ := HNw.out.near
      refine ⟨?_, ?_, ?_, ?_, setCell_type HT.out 2 _, own_set HNw.out.keys HT.out (by decide) 2 _, ⟨xs, own_set n1 HT.out (by decide) 2 _, fun k hk => ?_⟩, HRo.out.len, ?_, fun k h1 h2 => ⟨(HRo.out.row k h1 h2).1, own_base2 ((HRo.out.row k h1 h2).2.other (hne _ (List.getElem_mem h2)) _) hB⟩, HRo.out.apart⟩
      case refine_5 => obtain ⟨v, q1, q2⟩ := n2 k hk; exact ⟨v, q1, own_set q2 HT.out (by decide) 2 _⟩
      case refine_6 => rw [hlen]; exact own_set (own_base2 HO.out hB) HT.out (by decide) 2 _
      all_goals first | (go_simp; done) | go_keep
end Go.Proofs.YtbcehnhiedbbbaaDoor
