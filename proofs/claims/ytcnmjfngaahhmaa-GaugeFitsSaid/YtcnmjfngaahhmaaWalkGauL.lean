/- The walk through the law GaugeFits. -/
import Derived.Test.YtcnmjfngaahhmaaWalkGaw
import Derived.Test.YtcnmjfngaahhmaaWalkRGcd
import Derived.Test.YtcnmjfngaahhmaaWalkDep3
set_option linter.unusedVariables false
set_option linter.unusedSimpArgs false
namespace Go.Proofs.Ytcnmjfngaahhmaa
open Go.RowKit
set_option maxRecDepth 100000 in
theorem walk_gau_err (a ah : Option Addr) (L : List (List Int)) (hs : List Int) (cap caph : Nat) (w : World) (hM : MatSlice w a L) (hH : IntSlice w ah hs) (he : gErr L hs ≠ 0) :
    Calls Try.prog 3 #[.slice a L.length cap, .slice ah hs.length caph] w fun e w' => e = .returned (.bool true) ∧ Below w.heap.size w w' := by
  have HMM := Lib.hid hM
  have HHH := Lib.hid hH
  have HFI := Lib.hid (fun w1 (h : Below w.heap.size w w1) => c_Fit_err a ah L hs cap caph w1 (hM.below (Nat.le_refl _) h) (hH.below (Nat.le_refl _) h) he)
  have HRE := Lib.hid (fun w1 (h : Below w.heap.size w w1) => c_Res_err a ah L hs cap caph w1 _ he (Lib.hid (fun w2 (h2 : Below w1.heap.size w1 w2) => HFI.out w2 (h.trans (h2.mono h.size)))))
  have HGE := Lib.hid (fun w1 (h : Below w.heap.size w w1) => c_gErr a ah L hs cap caph w1 (hM.below (Nat.le_refl _) h) (hH.below (Nat.le_refl _) h))
  have HCH := Lib.hid (fun w1 (h : Below w.heap.size w w1) => c_gCheck a ah L hs cap caph w1 (hM.below (Nat.le_refl _) h) (hH.below (Nat.le_refl _) h))
  have h1 : (gErr L hs != 0) = true := by simp [he]
  have h2 : (gErr L hs != gErr L hs) = false := by simp
  have h3 : (gErr L hs == gErr L hs) = true := by simp
  generalize gErr L hs = x at *
  clear hM hH HMM HHH
  have hgen := sgen; have hgen2 := sgen2; have hgen3 := sgen3; go_enter Try.func3, Try.ntmps3
  go_wp2_with (first | (go_at_call 7; (with_reducible refine (c_gaugeWorks _).mono ?_); rintro e w1 ⟨rfl, hb⟩; have hz := hb.size; (try simp only [szA, szS, szD, szN] at hz); (try (refine bcB (n := w.heap.size) hb ?_; intro h_w_0 e_w_0 d_w_0 _ _))) | (go_at_call 8; (with_reducible refine (HFI.out _ (by exact belz)).mono ?_); rintro e w2 ⟨rfl, hb⟩; have hz := hb.size; (try simp only [szA, szS, szD, szN] at hz); (try (refine bcB (n := w.heap.size) hb ?_; intro h_w_0 e_w_0 d_w_0 _ _)); (try (refine bcB (n := w1.heap.size) hb ?_; intro h_w1_0 e_w1_0 d_w1_0 _ _))) | (go_at_call 9; (with_reducible refine (HRE.out _ (by exact belz)).mono ?_); rintro e w3 ⟨rfl, hb⟩; have hz := hb.size; (try simp only [szA, szS, szD, szN] at hz); (try (refine bcB (n := w.heap.size) hb ?_; intro h_w_0 e_w_0 d_w_0 _ _)); (try (refine bcB (n := w1.heap.size) hb ?_; intro h_w1_0 e_w1_0 d_w1_0 _ _)); (try (refine bcB (n := w2.heap.size) hb ?_; intro h_w2_0 e_w2_0 d_w2_0 _ _))) | (go_at_call 10; (with_reducible refine (HGE.out _ (by exact belz)).mono ?_); rintro e w' ⟨rfl, rfl⟩) | (go_at_call 11; (with_reducible refine (HCH.out _ (by exact belz)).mono ?_); rintro e w' ⟨rfl, rfl⟩))
  go_ret
  refine ⟨rfl, ?_⟩
  exact belz
/-- The columns are dependent. -/
theorem c_dep_all (a : Option Addr) (L : List (List Int)) (hs : List Int) (n cap : Nat) (w : World) (hM : MatSlice w a L) (hG : GOk L hs n) (hD : fD L n = 0) : Calls Try.prog 12 #[.slice a L.length cap] w fun e w' => e = .returned (.bool true) ∧ Below w.heap.size w w' := by
  have hR : ∀ i, i < L.length → RowK w a L.length cap n (rwF L) i := fun i hi => row_k hM hG.len hi
  have fin : (∃ m, m = n) := ⟨n, rfl⟩
  have key : Calls Try.prog 12 #[.slice a L.length cap] w fun e w' => e = .returned (.bool true) ∧ ∃ kk, w' = w.drewN kk := by
    have n1 := hG.n1
    have n3 := hG.n3
    have hB := hG.bd.1
    unfold fD at hD
    rcases (show n = 1 ∨ n = 2 ∨ n = 3 by omega) with rfl | rfl | rfl
    · exact c_dep1 a L.length cap (rwF L) w hG.N1 hG.N8 hR (fun i hi => (gram1_nn (rwF L) L.length).2 hD i hi)
    · rw [detF_two] at hD
      exact c_dep2 a L.length cap (rwF L) w hG.N1 hG.N8 hR hB (fun i q hi hq => (gram2_nn (rwF L) L.length).2 hD i q hi hq)
    · rw [detF_three] at hD
      exact c_dep3 a L.length cap (rwF L) w hG.N1 hG.N8 hR hB (fun i q p hi hq hp => (gram3_nn (rwF L) L.length).2 hD i q p hi hq hp)
  refine key.mono ?_
  rintro e w' ⟨he, kk, rfl⟩
  exact ⟨he, by exact belz⟩
set_option maxRecDepth 100000 in
theorem walk_gau_zero (a ah : Option Addr) (L : List (List Int)) (hs : List Int) (n cap caph : Nat) (w : World) (hM : MatSlice w a L) (hH : IntSlice w ah hs) (he : gErr L hs = 0) (hG : GOk L hs n) (hD : fD L n = 0) :
    Calls Try.prog 3 #[.slice a L.length cap, .slice ah hs.length caph] w fun e w' => e = .returned (.bool true) ∧ Below w.heap.size w w' := by
  have HFI := Lib.hid (fun w1 (h : Below w.heap.size w w1) => c_Fit_zero a ah L hs n cap caph w1 (hM.below (Nat.le_refl _) h) (hH.below (Nat.le_refl _) h) he hG hD)
  have HRE := Lib.hid (fun w1 (h : Below w.heap.size w w1) => c_Res_err a ah L hs cap caph w1 6 (by omega) (Lib.hid (fun w2 (h2 : Below w1.heap.size w1 w2) => HFI.out w2 (h.trans (h2.mono h.size)))))
  have hGE := fun w1 (h : Below w.heap.size w w1) => c_gErr a ah L hs cap caph w1 (hM.below (Nat.le_refl _) h) (hH.below (Nat.le_refl _) h)
  have hCH := fun w1 (h : Below w.heap.size w w1) => c_gCheck a ah L hs cap caph w1 (hM.below (Nat.le_refl _) h) (hH.below (Nat.le_refl _) h)
  have HDE := Lib.hid (fun w1 (h : Below w.heap.size w w1) => c_dep_all a L hs n cap w1 (hM.below (Nat.le_refl _) h) hG hD)
  rw [he] at hGE hCH
  have HGE := Lib.hid hGE
  have HCH := Lib.hid hCH
  clear hM hH hG hD hGE hCH he
  have hgen := sgen; have hgen2 := sgen2; have hgen3 := sgen3; go_enter Try.func3, Try.ntmps3
  go_wp2_with (first | (go_at_call 7; (with_reducible refine (c_gaugeWorks _).mono ?_); rintro e w1 ⟨rfl, hb⟩; have hz := hb.size; (try simp only [szA, szS, szD, szN] at hz); (try (refine bcB (n := w.heap.size) hb ?_; intro h_w_0 e_w_0 d_w_0 _ _))) | (go_at_call 8; (with_reducible refine (HFI.out _ (by exact belz)).mono ?_); rintro e w2 ⟨rfl, hb⟩; have hz := hb.size; (try simp only [szA, szS, szD, szN] at hz); (try (refine bcB (n := w.heap.size) hb ?_; intro h_w_0 e_w_0 d_w_0 _ _)); (try (refine bcB (n := w1.heap.size) hb ?_; intro h_w1_0 e_w1_0 d_w1_0 _ _))) | (go_at_call 9; (with_reducible refine (HRE.out _ (by exact belz)).mono ?_); rintro e w3 ⟨rfl, hb⟩; have hz := hb.size; (try simp only [szA, szS, szD, szN] at hz); (try (refine bcB (n := w.heap.size) hb ?_; intro h_w_0 e_w_0 d_w_0 _ _)); (try (refine bcB (n := w1.heap.size) hb ?_; intro h_w1_0 e_w1_0 d_w1_0 _ _)); (try (refine bcB (n := w2.heap.size) hb ?_; intro h_w2_0 e_w2_0 d_w2_0 _ _))) | (go_at_call 10; (with_reducible refine (HGE.out _ (by exact belz)).mono ?_); rintro e w' ⟨rfl, rfl⟩) | (go_at_call 11; (with_reducible refine (HCH.out _ (by exact belz)).mono ?_); rintro e w' ⟨rfl, rfl⟩) | (go_at_call 12; (with_reducible refine (HDE.out _ (by exact belz)).mono ?_); rintro e w4 ⟨rfl, hb⟩; have hz := hb.size; (try simp only [szA, szS, szD, szN] at hz); (try (refine bcB (n := w.heap.size) hb ?_; intro h_w_0 e_w_0 d_w_0 _ _)); (try (refine bcB (n := w1.heap.size) hb ?_; intro h_w1_0 e_w1_0 d_w1_0 _ _)); (try (refine bcB (n := w2.heap.size) hb ?_; intro h_w2_0 e_w2_0 d_w2_0 _ _)); (try (refine bcB (n := w3.heap.size) hb ?_; intro h_w3_0 e_w3_0 d_w3_0 _ _))))
  go_ret
  refine ⟨rfl, ?_⟩
  exact belz
/-- What the last case of the law knows of the numbers. -/
structure GNum (R : Nat → Nat → Int) (H : Nat → Int) (N n : Nat) (Dn : Int) (Nm : Nat → Int) (LQ : Int) (G : Nat) : Prop where
  N1 : 0 < N
  N8 : N ≤ 8
  n1 : 1 ≤ n
  n3 : n ≤ 3
  d1 : 1 ≤ Dn
  d2 : Dn ≤ 3072000000
  nm : ∀ j, j < n → -307200000000 ≤ Nm j ∧ Nm j ≤ 307200000000
  bd : rowsB n N R H
  gp : 0 < G
  one : gN Dn Nm n = 1
  lq : -100000000000000000 ≤ LQ ∧ LQ ≤ 100000000000000000
  gl : rgcd LQ Dn = (G : Int)
  gq : rgcd (LQ / (G : Int)) (Dn / (G : Int)) = 1
  q1 : 1 ≤ Dn / (G : Int)
  q2 : Dn / (G : Int) ≤ 3072000000
  q3 : -100000000000000000 ≤ LQ / (G : Int) ∧ LQ / (G : Int) ≤ 100000000000000000
  q4 : LQ.tdiv (G : Int) = LQ / (G : Int)
  q5 : Dn.tdiv (G : Int) = Dn / (G : Int)
  orth : ∀ c, c < n → smN N (fun i => dfF R H Dn Nm i n * R i c) = 0
  left : smN N (fun i => dfF R H Dn Nm i n * H i) = LQ
theorem GNum.df {R : Nat → Nat → Int} {H : Nat → Int} {N n : Nat} {Dn : Int} {Nm : Nat → Int} {LQ : Int} {G : Nat} (h : GNum R H N n Dn Nm LQ G) {i : Nat} (hi : i < N) : ∀ j, j ≤ n → -12288000000000 ≤ dfF R H Dn Nm i j ∧ dfF R H Dn Nm i j ≤ 12288000000000 := by
  intro j hj
  have d1 := h.d1
  have d2 := h.d2
  have n3 := h.n3
  have a := mul_bd (A := 3072000000) (D := 1000) (x := Dn) (y := H i) ⟨by omega, d2⟩ (h.bd.2 i hi)
  have b := smN_bd (f := fun q => R i q * Nm q) (A := 3072000000000) j (fun q hq => mul_bd (A := 10) (D := 307200000000) (h.bd.1 i q hi (by omega)) (h.nm q (by omega)))
  unfold dfF
  omega
theorem GNum.sums {R : Nat → Nat → Int} {H : Nat → Int} {N n : Nat} {Dn : Int} {Nm : Nat → Int} {LQ : Int} {G : Nat} (h : GNum R H N n Dn Nm LQ G) : ∀ k, k ≤ N → (∀ c, c < n → -983040000000000 ≤ smN k (fun i => dfF R H Dn Nm i n * R i c) ∧ smN k (fun i => dfF R H Dn Nm i n * R i c) ≤ 983040000000000) ∧
    -98304000000000000 ≤ smN k (fun i => dfF R H Dn Nm i n * H i) ∧ smN k (fun i => dfF R H Dn Nm i n * H i) ≤ 98304000000000000 := by
  intro k hk
  have N8 := h.N8
  refine ⟨fun c hc => ?_, ?_⟩
  · have := smN_bd (f := fun i => dfF R H Dn Nm i n * R i c) (A := 122880000000000) k (fun i hi => mul_bd (A := 12288000000000) (D := 10) (h.df (by omega) n (Nat.le_refl _)) (h.bd.1 i c (by omega) hc))
    omega
  · have := smN_bd (f := fun i => dfF R H Dn Nm i n * H i) (A := 12288000000000000) k (fun i hi => mul_bd (A := 12288000000000) (D := 1000) (h.df (by omega) n (Nat.le_refl _)) (h.bd.2 i (by omega)))
    omega
theorem rgcd_pos {a b : Int} (h : 0 < Nat.gcd a.natAbs b.natAbs) : rgcd a b = (Nat.gcd a.natAbs b.natAbs : Nat) := by
  unfold rgcd
  rw [if_neg (by omega)]
theorem gnum_of {L : List (List Int)} {hs : List Int} {n : Nat} (hG : GOk L hs n) (hD : fD L n ≠ 0) : GNum (rwF L) (hF hs) L.length n (fDn L hs n) (fNm L hs n) (rsL L hs n) (rsG L hs n) := by
  obtain ⟨b1, b2, b3⟩ := fit_bds hG hD
  obtain ⟨s1, s2⟩ := rsL_bd hG hD
  have v4 := s1 L.length (Nat.le_refl _)
  have v5 := s2 n (Nat.le_refl _)
  have lqb : -100000000000000000 ≤ rsL L hs n ∧ rsL L hs n ≤ 100000000000000000 := by unfold rsL; omega
  have hgp : 0 < rsG L hs n := Nat.gcd_pos_of_pos_right _ (by omega)
  have gd1 : rsG L hs n ∣ (rsL L hs n).natAbs := Nat.gcd_dvd_left _ _
  have gd2 : rsG L hs n ∣ (fDn L hs n).natAbs := Nat.gcd_dvd_right _ _
  have i1 := Int.ofNat_dvd_left.2 gd1
  have i2 := Int.ofNat_dvd_left.2 gd2
  have q1 : 1 ≤ fDn L hs n / (rsG L hs n : Int) := by
    obtain ⟨z, hz⟩ := i2
    have e : fDn L hs n / (rsG L hs n : Int) = z := Int.ediv_eq_of_eq_mul_right (by omega) hz
    rw [e]
    rcases Int.le_total z 0 with h | h
    · exfalso
      have := Int.mul_nonneg (show 0 ≤ (rsG L hs n : Int) by omega) (show 0 ≤ -z by omega)
      rw [Int.mul_neg, ← hz] at this
      omega
    · have : z ≠ 0 := fun h0 => by rw [h0, Int.mul_zero] at hz; omega
      omega
  have hq : Nat.gcd (rsL L hs n / (rsG L hs n : Int)).natAbs (fDn L hs n / (rsG L hs n : Int)).natAbs = 1 := by
    rw [gcd_step hgp i1 i2]
    exact Nat.div_self hgp
  have hT := df_sum (rwF L) (hF hs) (hF hs) (fDn L hs n) (fNm L hs n) L.length n
  refine ⟨hG.N1, hG.N8, hG.n1, hG.n3, b1, b2, b3, hG.bd, hgp, gN_one hD _ n, lqb, rgcd_pos hgp, ?_, q1, (quo_bd (A := 3072000000) (by omega) ⟨by omega, b2⟩ i2).2, quo_bd (by omega) lqb i1, tdiv_dvd hgp i1, tdiv_dvd hgp i2, fun c hc => ?_, ?_⟩
  · rw [rgcd_pos (by omega), hq]
    rfl
  · have h0 := fit_orth hG.n1 hG.n3 (fun i j => gmM_symm (rwF L) L.length i j) (gmR (rwF L) (hF hs) L.length) hD hc
    have hX := df_sum (rwF L) (hF hs) (fun i => rwF L i c) (fDn L hs n) (fNm L hs n) L.length n
    have e1 : smN L.length (fun i => hF hs i * rwF L i c) = gmR (rwF L) (hF hs) L.length c := smN_ext (fun i => Int.mul_comm _ _) _
    rw [hX, e1]
    have h0' : fDn L hs n * gmR (rwF L) (hF hs) L.length c = smN n (fun j => fNm L hs n j * gmM (rwF L) L.length j c) := h0
    have e2 : smN n (fun j => fNm L hs n j * smN L.length (fun i => rwF L i j * rwF L i c)) = smN n (fun j => fNm L hs n j * gmM (rwF L) L.length j c) := rfl
    rw [e2, h0', Int.sub_self]
  · rw [hT]
    unfold rsL
    have e1 : smN L.length (fun i => hF hs i * hF hs i * fDn L hs n) = fDn L hs n * smN L.length (fun i => hF hs i * hF hs i) := by
      rw [← smN_mul]
      exact smN_ext (fun i => Int.mul_comm _ _) _
    rw [e1]
    rfl
end Go.Proofs.Ytcnmjfngaahhmaa
