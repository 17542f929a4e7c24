/- The law TopZones. -/
import Derived.Test.YtapmdkinneehjaaDoorWalkZj
import Derived.Test.YtapmdkinneehjaaDoorWalkZx
import Derived.Test.YtapmdkinneehjaaDoorZnC
set_option linter.unusedVariables false
set_option linter.unusedSimpArgs false
namespace Go.Proofs.YtapmdkinneehjaaDoor
open Go.RowKit
theorem zE_a : zE ⟨#[97]⟩ 0 [] = 0 := by decide +kernel
theorem zT_a : strB (zT ⟨#[97]⟩ 0 []) = ⟨#[122, 111, 110, 101, 32, 97, 32, 43, 48, 48, 58, 48, 48, 58, 48, 48, 10]⟩ := by decide +kernel
set_option maxRecDepth 100000 in
set_option maxHeartbeats 4000000 in
theorem c_zTop (nm : ByteArray) (f : Int) (a : Option Addr) (cap : Nat) (l : List Zc) (t : Int) (w : World) (hM : NMx w) (hT : NTab w) (hsz : nm.size ≤ 9223372036854775807) (hc : l.length ≤ cap) (hs : ZcSlice w a l) (hwf : zWf l) (h0 : -9223372036854775808 ≤ t) (h1 : t ≤ 9223372036854775807) :
    Calls Tryd.prog 3 #[.agg #[.string nm, .int .i64 f, .slice a l.length cap], .int .i64 t] w fun e w' => e = .returned (.bool true) ∧ Below w.heap.size w w' := by
  have hp0 := fun w1 (h1 : NTab w1) => c_zPrint ⟨#[97]⟩ 0 none 0 [] w1 h1 (by decide) (Nat.le_refl _) (fun k hk => by simp at hk) (fun y hy => by simp at hy) zE_a
  rw [zT_a] at hp0
  change ∀ w1, NTab w1 → Calls Tryd.prog 4 #[.agg #[.string ⟨#[97]⟩, .int .i64 0, .slice none 0 0]] w1 _ at hp0
  have HP0 := Lib.hid hp0
  have HT := Lib.hid hT
  have HM := Lib.hid hM
  have HS := Lib.hid hs
  clear hp0 hT hM hs
  by_cases hE : zE nm f l = 0
  · have HPa := Lib.hid (fun w1 m t => c_zParse nm f l w1 m t hE)
    have HP1 := Lib.hid (fun w1 h1 h2 => c_zPrint nm f a cap l w1 h1 hsz hc h2 hwf hE)
    have HLo := Lib.hid (fun w1 h2 => c_zLocal nm f a cap l t w1 hsz hc h2 hwf hE h0 h1)
    have HE := Lib.hid hE
    have HWf := Lib.hid hwf
    clear hE hwf
    generalize strB (zT nm f l) = S at *
    have hgen := sgen; have hgen2 := sgen2; have hgen3 := sgen3; go_enter Tryd.func3, Tryd.ntmps3
    go_upto_region 10 with (first | (go_at_call 4; (with_reducible refine (HP0.out _ (HT.out.below (by exact belz))).mono ?_); rintro e w1 ⟨rfl, hb⟩; have hz := hb.size; (try simp only [szA, szS, szD, szN] at hz); (try (refine bcB (n := w.heap.size) hb ?_; intro h_w_0 e_w_0 d_w_0 _ _)); (try (refine bcB (n := w.heap.size + 1) hb ?_; intro h_w_1 e_w_1 d_w_1 _ _))) | (go_at_call 4; (with_reducible refine (HP1.out _ (HT.out.below (by exact belz)) (HS.out.below (Nat.le_refl _) (by exact belz))).mono ?_); rintro e w2 ⟨rfl, hb⟩; have hz := hb.size; (try simp only [szA, szS, szD, szN] at hz); (try (refine bcB (n := w.heap.size) hb ?_; intro h_w_0 e_w_0 d_w_0 _ _)); (try (refine bcB (n := w.heap.size + 1) hb ?_; intro h_w_1 e_w_1 d_w_1 _ _)); (try (refine bcB (n := w1.heap.size) hb ?_; intro h_w1_0 e_w1_0 d_w1_0 _ _))) | (go_at_call 5; (with_reducible refine (HPa.out _ (HM.out.below (by exact belz)) (HT.out.below (by exact belz))).mono ?_); rintro e w3 ⟨a2, cap2, rfl, hc2, hs2, hb⟩; have hz := hb.size; (try simp only [szA, szS, szD, szN] at hz); (try (refine bcB (n := w.heap.size) hb ?_; intro h_w_0 e_w_0 d_w_0 _ _)); (try (refine bcB (n := w.heap.size + 1) hb ?_; intro h_w_1 e_w_1 d_w_1 _ _)); (try (refine bcB (n := w1.heap.size) hb ?_; intro h_w1_0 e_w1_0 d_w1_0 _ _)); (try (refine bcB (n := w2.heap.size) hb ?_; intro h_w2_0 e_w2_0 d_w2_0 _ _))))
    have HS2 := Lib.hid hs2
    clear hs2
    by_cases hL : instZ t = true ∧ dayZ ((t + ofZ f l (zk l t)) / 86400000) = true
    · have hlo := HLo.out
      rw [if_pos hL] at hlo
      have HLo := Lib.hid hlo
      obtain ⟨hi, hd⟩ := hL
      obtain ⟨u, hu⟩ : ∃ u, u = t + ofZ f l (zk l t) := ⟨_, rfl⟩
      rw [← hu] at hd HLo
      have m0 : 0 ≤ u % 86400000 := by omega
      have m1 : u % 86400000 < 86400000 := by omega
      have hdm : u / 86400000 * 86400000 + u % 86400000 = u := by omega
      have hmem := zI_self f l t u (zE_ok HE.out).2.2.2.2 hi hu
      have hlen := zI_len f l u (l.length + 1)
      have hl200 := (zE_ok HE.out).2.2.1
      have hin := fun w1 h1 => c_zInst nm f a2 cap2 l (u / 86400000) (u % 86400000) w1 hsz hc2 h1 HWf.out HE.out hd m0 m1
      have hon := fun w1 h1 => c_zOne nm f a2 cap2 l (u / 86400000) (u % 86400000) t w1 hsz hc2 h1 HWf.out HE.out hd m0 m1 (by rw [hdm]; exact hmem)
      rw [hdm] at hin hon
      clear hlo hd m0 m1 hdm hu hi
      generalize u / 86400000 = d at *
      generalize u % 86400000 = m at *
      generalize zI f l u (l.length + 1) = L at *
      have HIn := Lib.hid hin
      have hpos : 0 < L.length := by cases L with
        | nil => simp at hmem
        | cons x L => simp
      by_cases h1 : L.length = 1
      · rw [if_pos h1] at hon
        have HOn := Lib.hid hon
        have e1 : ((L.length : Int) == 1) = true := beq_iff_eq.2 (by omega)
        have HMem := Lib.hid hmem
        clear hin hon hmem hpos h1
        go_upto_region 14 with (first | (go_at_call 6; (with_reducible refine (HLo.out _ (HS.out.below (Nat.le_refl _) (by exact belz))).mono ?_); rintro e w4 ⟨rfl, hb⟩; have hz := hb.size; (try simp only [szA, szS, szD, szN] at hz); (try (refine bcB (n := w.heap.size) hb ?_; intro h_w_0 e_w_0 d_w_0 _ _)); (try (refine bcB (n := w1.heap.size) hb ?_; intro h_w1_0 e_w1_0 d_w1_0 _ _)); (try (refine bcB (n := w2.heap.size) hb ?_; intro h_w2_0 e_w2_0 d_w2_0 _ _)); (try (refine bcB (n := w3.heap.size) hb ?_; intro h_w3_0 e_w3_0 d_w3_0 _ _)); (try (refine bcB (n := w3.heap.size + 1) hb ?_; intro h_w3_1 e_w3_1 d_w3_1 _ _))) | (go_at_call 7; (with_reducible refine (HIn.out _ (HS2.out.below (Nat.le_refl _) (by exact belz))).mono ?_); rintro e w5 ⟨va, vc, rfl, hown, hb⟩; have hz := hb.size; (try simp only [szA, szS, szD, szN] at hz); (try (refine bcB (n := w.heap.size) hb ?_; intro h_w_0 e_w_0 d_w_0 _ _)); (try (refine bcB (n := w3.heap.size) hb ?_; intro h_w3_0 e_w3_0 d_w3_0 _ _)); (try (refine bcB (n := w3.heap.size + 1) hb ?_; intro h_w3_1 e_w3_1 d_w3_1 _ _)); (try (refine bcB (n := w4.heap.size) hb ?_; intro h_w4_0 e_w4_0 d_w4_0 _ _))))
        obtain ⟨⟨ar, cr, e9, hcr, hI⟩⟩ := own_Row hown
        injection e9 with e91 _ e92
        subst e91 e92
        have HI5 := Lib.hid hI
        have HCo := Lib.hid (fun w1 h1 => c_ContI va vc L t w1 h1 HMem.out (by omega))
        clear hI hown
        go_wp2_with (first | (go_at_call 8; (with_reducible refine (HCo.out _ (HI5.out.below (Nat.le_refl _) (by exact belz))).mono ?_); rintro e w6 ⟨rfl, hb⟩; have hz := hb.size; (try simp only [szA, szS, szD, szN] at hz); (try (refine bcB (n := w.heap.size) hb ?_; intro h_w_0 e_w_0 d_w_0 _ _)); (try (refine bcB (n := w3.heap.size) hb ?_; intro h_w3_0 e_w3_0 d_w3_0 _ _)); (try (refine bcB (n := w3.heap.size + 1) hb ?_; intro h_w3_1 e_w3_1 d_w3_1 _ _)); (try (refine bcB (n := w4.heap.size) hb ?_; intro h_w4_0 e_w4_0 d_w4_0 _ _)); (try (refine bcB (n := w5.heap.size) hb ?_; intro h_w5_0 e_w5_0 d_w5_0 _ _))) | (go_at_call 9; (with_reducible refine (HOn.out _ (HS2.out.below (Nat.le_refl _) (by exact belz))).mono ?_); rintro e w7 ⟨rfl, hb⟩; have hz := hb.size; (try simp only [szA, szS, szD, szN] at hz); (try (refine bcB (n := w.heap.size) hb ?_; intro h_w_0 e_w_0 d_w_0 _ _)); (try (refine bcB (n := w3.heap.size) hb ?_; intro h_w3_0 e_w3_0 d_w3_0 _ _)); (try (refine bcB (n := w3.heap.size + 1) hb ?_; intro h_w3_1 e_w3_1 d_w3_1 _ _)); (try (refine bcB (n := w4.heap.size) hb ?_; intro h_w4_0 e_w4_0 d_w4_0 _ _)); (try (refine bcB (n := w5.heap.size) hb ?_; intro h_w5_0 e_w5_0 d_w5_0 _ _)); (try (refine bcB (n := w6.heap.size) hb ?_; intro h_w6_0 e_w6_0 d_w6_0 _ _))))
        go_ret
        exact ⟨by simp, by exact belz⟩
      · rw [if_neg h1] at hon
        have HOn := Lib.hid hon
        have e1 : ((L.length : Int) == 1) = false := beq_eq_false_iff_ne.2 (by omega)
        have HMem := Lib.hid hmem
        have HH1 := Lib.hid h1
        clear hin hon hmem h1
        go_upto_region 14 with (first | (go_at_call 6; (with_reducible refine (HLo.out _ (HS.out.below (Nat.le_refl _) (by exact belz))).mono ?_); rintro e w4 ⟨rfl, hb⟩; have hz := hb.size; (try simp only [szA, szS, szD, szN] at hz); (try (refine bcB (n := w.heap.size) hb ?_; intro h_w_0 e_w_0 d_w_0 _ _)); (try (refine bcB (n := w1.heap.size) hb ?_; intro h_w1_0 e_w1_0 d_w1_0 _ _)); (try (refine bcB (n := w2.heap.size) hb ?_; intro h_w2_0 e_w2_0 d_w2_0 _ _)); (try (refine bcB (n := w3.heap.size) hb ?_; intro h_w3_0 e_w3_0 d_w3_0 _ _)); (try (refine bcB (n := w3.heap.size + 1) hb ?_; intro h_w3_1 e_w3_1 d_w3_1 _ _))) | (go_at_call 7; (with_reducible refine (HIn.out _ (HS2.out.below (Nat.le_refl _) (by exact belz))).mono ?_); rintro e w5 ⟨va, vc, rfl, hown, hb⟩; have hz := hb.size; (try simp only [szA, szS, szD, szN] at hz); (try (refine bcB (n := w.heap.size) hb ?_; intro h_w_0 e_w_0 d_w_0 _ _)); (try (refine bcB (n := w3.heap.size) hb ?_; intro h_w3_0 e_w3_0 d_w3_0 _ _)); (try (refine bcB (n := w3.heap.size + 1) hb ?_; intro h_w3_1 e_w3_1 d_w3_1 _ _)); (try (refine bcB (n := w4.heap.size) hb ?_; intro h_w4_0 e_w4_0 d_w4_0 _ _))))
        obtain ⟨⟨ar, cr, e9, hcr, hI⟩⟩ := own_Row hown
        injection e9 with e91 _ e92
        subst e91 e92
        have HI5 := Lib.hid hI
        have HCo := Lib.hid (fun w1 h1 => c_ContI va vc L t w1 h1 HMem.out (by omega))
        clear hI hown
        go_wp2_with (first | (go_at_call 8; (with_reducible refine (HCo.out _ (HI5.out.below (Nat.le_refl _) (by exact belz))).mono ?_); rintro e w6 ⟨rfl, hb⟩; have hz := hb.size; (try simp only [szA, szS, szD, szN] at hz); (try (refine bcB (n := w.heap.size) hb ?_; intro h_w_0 e_w_0 d_w_0 _ _)); (try (refine bcB (n := w3.heap.size) hb ?_; intro h_w3_0 e_w3_0 d_w3_0 _ _)); (try (refine bcB (n := w3.heap.size + 1) hb ?_; intro h_w3_1 e_w3_1 d_w3_1 _ _)); (try (refine bcB (n := w4.heap.size) hb ?_; intro h_w4_0 e_w4_0 d_w4_0 _ _)); (try (refine bcB (n := w5.heap.size) hb ?_; intro h_w5_0 e_w5_0 d_w5_0 _ _))) | (go_at_call 9; (with_reducible refine (HOn.out _ (HS2.out.below (Nat.le_refl _) (by exact belz))).mono ?_); rintro e w7 ⟨rfl, hb⟩; have hz := hb.size; (try simp only [szA, szS, szD, szN] at hz); (try (refine bcB (n := w.heap.size) hb ?_; intro h_w_0 e_w_0 d_w_0 _ _)); (try (refine bcB (n := w3.heap.size) hb ?_; intro h_w3_0 e_w3_0 d_w3_0 _ _)); (try (refine bcB (n := w3.heap.size + 1) hb ?_; intro h_w3_1 e_w3_1 d_w3_1 _ _)); (try (refine bcB (n := w4.heap.size) hb ?_; intro h_w4_0 e_w4_0 d_w4_0 _ _)); (try (refine bcB (n := w5.heap.size) hb ?_; intro h_w5_0 e_w5_0 d_w5_0 _ _)); (try (refine bcB (n := w6.heap.size) hb ?_; intro h_w6_0 e_w6_0 d_w6_0 _ _))))
        go_ret
        exact ⟨by simp, by exact belz⟩
    · have hlo := HLo.out
      rw [if_neg hL] at hlo
      have HLo := Lib.hid hlo
      clear hlo hL
      go_wp2_with (go_at_call 6; (with_reducible refine (HLo.out _ (HS.out.below (Nat.le_refl _) (by exact belz))).mono ?_); rintro e w4 ⟨rfl, hb⟩; have hz := hb.size; (try simp only [szA, szS, szD, szN] at hz); (try (refine bcB (n := w.heap.size) hb ?_; intro h_w_0 e_w_0 d_w_0 _ _)); (try (refine bcB (n := w1.heap.size) hb ?_; intro h_w1_0 e_w1_0 d_w1_0 _ _)); (try (refine bcB (n := w2.heap.size) hb ?_; intro h_w2_0 e_w2_0 d_w2_0 _ _)); (try (refine bcB (n := w3.heap.size) hb ?_; intro h_w3_0 e_w3_0 d_w3_0 _ _)); (try (refine bcB (n := w3.heap.size + 1) hb ?_; intro h_w3_1 e_w3_1 d_w3_1 _ _)))
      go_ret
      exact ⟨rfl, by exact belz⟩
  · have HP1 := Lib.hid (fun w1 h1 => c_zPrint_bad nm f a cap l w1 hsz hc h1 hwf hE)
    generalize zE nm f l = x at *
    have g : (x == 0) = false := beq_eq_false_iff_ne.2 hE
    have g2 : (x != 0) = true := by simpa using hE
    clear hwf hE
    have hgen := sgen; have hgen2 := sgen2; have hgen3 := sgen3; go_enter Tryd.func3, Tryd.ntmps3
    go_wp2_with (first | (go_at_call 4; (with_reducible refine (HP0.out _ (HT.out.below (by exact belz))).mono ?_); rintro e w1 ⟨rfl, hb⟩; have hz := hb.size; (try simp only [szA, szS, szD, szN] at hz); (try (refine bcB (n := w.heap.size) hb ?_; intro h_w_0 e_w_0 d_w_0 _ _)); (try (refine bcB (n := w.heap.size + 1) hb ?_; intro h_w_1 e_w_1 d_w_1 _ _))) | (go_at_call 4; (with_reducible refine (HP1.out _ (HS.out.below (Nat.le_refl _) (by exact belz))).mono ?_); rintro e w2 ⟨rfl, hb⟩; have hz := hb.size; (try simp only [szA, szS, szD, szN] at hz); (try (refine bcB (n := w.heap.size) hb ?_; intro h_w_0 e_w_0 d_w_0 _ _)); (try (refine bcB (n := w.heap.size + 1) hb ?_; intro h_w_1 e_w_1 d_w_1 _ _)); (try (refine bcB (n := w1.heap.size) hb ?_; intro h_w1_0 e_w1_0 d_w1_0 _ _))))
    go_ret
    exact ⟨rfl, by exact belz⟩
end Go.Proofs.YtapmdkinneehjaaDoor
