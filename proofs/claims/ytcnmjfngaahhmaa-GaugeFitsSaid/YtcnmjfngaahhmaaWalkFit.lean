/- The contracts of gauge.Fit and gauge.Residual. -/
import Derived.Test.YtcnmjfngaahhmaaWalkSys2
import Derived.Test.YtcnmjfngaahhmaaWalkSolve
set_option linter.unusedVariables false
set_option linter.unusedSimpArgs false
namespace Go.Proofs.Ytcnmjfngaahhmaa
open Go.RowKit
/-- Readings that pass the check. -/
structure GOk (L : List (List Int)) (hs : List Int) (n : Nat) : Prop where
  N1 : 0 < L.length
  N8 : L.length ≤ 8
  n1 : 1 ≤ n
  n3 : n ≤ 3
  len : ∀ r ∈ L, r.length = n
  hl : hs.length = L.length
  bd : rowsB n L.length (rwF L) (hF hs)
theorem fe_mem0 {α : Type} {f : α → Int} {l : List α} (h : fe f l = 0) : ∀ x ∈ l, f x = 0 := by
  intro x hx
  obtain ⟨k, hk, rfl⟩ := List.mem_iff_getElem.1 hx
  exact fe_zero h k hk
theorem gok_of {L : List (List Int)} {hs : List Int} (h : gErr L hs = 0) : ∃ n, GOk L hs n ∧ (L.getD 0 []).length = n := by
  unfold gErr at h
  split at h
  · omega
  · rename_i h8
    split at h
    · omega
    · rename_i hf
      have hf' : ¬ (L.length = 0 ∨ hs.length ≠ L.length ∨ (L.getD 0 []).length < 1 ∨ 3 < (L.getD 0 []).length) := hf
      have hz := fe_mem0 h
      have row : ∀ i, i < L.length → (L.getD i []).length = (L.getD 0 []).length ∧ fe rowOne (L.getD i []) = 0 ∧ ¬ (hs.getD i 0 < -1000 ∨ 1000 < hs.getD i 0) := by
        intro i hi
        have := hz i (List.mem_range.2 hi)
        unfold gIx rowE at this
        split at this
        · omega
        · rename_i a
          split at this
          · rename_i b; omega
          · rename_i b
            split at this
            · omega
            · rename_i c
              exact ⟨by omega, by omega, c⟩
      refine ⟨_, ⟨by omega, by omega, by omega, by omega, fun r hr => ?_, by omega, fun i j hi hj => ?_, fun i hi => ?_⟩, rfl⟩
      · obtain ⟨i, hi, rfl⟩ := List.mem_iff_getElem.1 hr
        have := (row i hi).1
        rwa [List.getD_eq_getElem?_getD, List.getElem?_eq_getElem hi, Option.getD_some] at this
      · obtain ⟨r1, r2, -⟩ := row i hi
        have hj' : j < (L.getD i []).length := by omega
        have := fe_mem0 r2 ((L.getD i [])[j]'hj') (List.getElem_mem hj')
        unfold rowOne at this
        have e : rwF L i j = (L.getD i [])[j]'hj' := by
          unfold rwF
          rw [List.getD_eq_getElem?_getD (l := L.getD i []), List.getElem?_eq_getElem hj', Option.getD_some]
        rw [e]
        split at this <;> omega
      · have := (row i hi).2.2
        unfold hF
        omega
/-- What the factors are made of. -/
def fD (L : List (List Int)) (n : Nat) : Int := detF n (gmM (rwF L) L.length)
def fN (L : List (List Int)) (hs : List Int) (n : Nat) : Nat → Int := NNv n (gmM (rwF L) L.length) (gmR (rwF L) (hF hs) L.length)
theorem gok_rb {L : List (List Int)} {hs : List Int} {n : Nat} (h : GOk L hs n) : (∀ i j, i < n → j < n → -800 ≤ gmM (rwF L) L.length i j ∧ gmM (rwF L) L.length i j ≤ 800) ∧ (∀ i, i < n → -80000 ≤ gmR (rwF L) (hF hs) L.length i ∧ gmR (rwF L) (hF hs) L.length i ≤ 80000) :=
  ⟨fun i j hi hj => gmM_bd h.bd h.N8 hi hj _ (Nat.le_refl _), fun i hi => gmR_bd h.bd h.N8 hi _ (Nat.le_refl _)⟩
theorem c_Fit_err (a ah : Option Addr) (L : List (List Int)) (hs : List Int) (cap caph : Nat) (w : World) (hM : MatSlice w a L) (hH : IntSlice w ah hs) (he : gErr L hs ≠ 0) :
    Calls Try.prog 8 #[.slice a L.length cap, .slice ah hs.length caph] w fun e w' => e = .returned (.tuple #[.agg #[.slice none 0 0, .int .i64 0], .int .i64 (gErr L hs)]) ∧ Below w.heap.size w w' := by
  have HK := Lib.hid (fun w1 (h : Below w.heap.size w w1) => c_gCheck a ah L hs cap caph w1 (hM.below (Nat.le_refl _) h) (hH.below (Nat.le_refl _) h))
  have h1 : (gErr L hs != 0) = true := by simp [he]
  generalize gErr L hs = x at *
  clear hM hH
  have hgen := sgen; have hgen2 := sgen2; have hgen3 := sgen3; go_enter Try.func8, Try.ntmps8
  go_wp2_with (go_at_call 11; (with_reducible refine (HK.out _ (by exact belz)).mono ?_); rintro e w' ⟨rfl, rfl⟩)
  refine bodyPost_ret (v := .tuple #[.agg #[.slice none 0 0, .int .i64 0], .int .i64 x]) (by simp only [results, Try.results8]; go_simp) rfl ⟨rfl, ?_⟩
  exact belz
theorem c_Fit_zero (a ah : Option Addr) (L : List (List Int)) (hs : List Int) (n cap caph : Nat) (w : World) (hM : MatSlice w a L) (hH : IntSlice w ah hs) (he : gErr L hs = 0) (hG : GOk L hs n) (hD : fD L n = 0) :
    Calls Try.prog 8 #[.slice a L.length cap, .slice ah hs.length caph] w fun e w' => e = .returned (.tuple #[.agg #[.slice none 0 0, .int .i64 0], .int .i64 6]) ∧ Below w.heap.size w w' := by
  have hK := fun w1 (h : Below w.heap.size w w1) => c_gCheck a ah L hs cap caph w1 (hM.below (Nat.le_refl _) h) (hH.below (Nat.le_refl _) h)
  rw [he] at hK
  have HK := Lib.hid hK
  have hS := fun w1 (h : Below w.heap.size w w1) => c_system n hG.n1 hG.n3 a cap L ah caph hs w1 hG.N1 hG.N8 (hM.below (Nat.le_refl _) h) hG.len (hH.below (Nat.le_refl _) h) hG.hl hG.bd
  have hl := hG.hl
  rw [← hl] at hS
  have HS := Lib.hid hS
  obtain ⟨q1, q2⟩ := gok_rb hG
  have HV := Lib.hid (fun bm br (w1 : World) (h : MatV w1 bm n (gmM (rwF L) hs.length)) => c_solve_zero n hG.n1 hG.n3 bm n br n (gmM (rwF L) hs.length) w1 (Nat.le_refl _) h (fun i j hi hj => by rw [hl]; have := q1 i j hi hj; omega) (by rw [hl]; exact hD))
  rw [hl] at HS HV
  rw [hl] at HK ⊢
  generalize L.length = N at *
  clear hM hH he hG hD hK hS hl q1 q2
  have hgen := sgen; have hgen2 := sgen2; have hgen3 := sgen3; go_enter Try.func8, Try.ntmps8
  go_wp2_with (first | (go_at_call 11; (with_reducible refine (HK.out _ (by exact belz)).mono ?_); rintro e w' ⟨rfl, rfl⟩) | (go_at_call 24; (with_reducible refine (HS.out _ (by exact belz)).mono ?_); rintro e w1 ⟨bm, br, rfl, hbm, hbr, hMV, hVV, hb⟩; have hz := hb.size; (try simp only [szA, szS, szD, szN] at hz); (try (refine bcB (n := w.heap.size) hb ?_; intro h_w_0 e_w_0 d_w_0 _ _))) | (go_at_call 23; (with_reducible refine (HV.out bm br _ hMV).mono ?_); rintro e w2 ⟨rfl, hb⟩; have hz := hb.size; (try simp only [szA, szS, szD, szN] at hz); (try (refine bcB (n := w.heap.size) hb ?_; intro h_w_0 e_w_0 d_w_0 _ _)); (try (refine bcB (n := w1.heap.size) hb ?_; intro h_w1_0 e_w1_0 d_w1_0 _ _))))
  refine bodyPost_ret (v := .tuple #[.agg #[.slice none 0 0, .int .i64 0], .int .i64 6]) (by simp only [results, Try.results8]; go_simp) rfl ⟨rfl, ?_⟩
  exact belz
def FitIs (w : World) (n : Nat) (Dn : Int) (Nm : Nat → Int) (e : Ending) (w' : World) : Prop :=
  ∃ g c, e = .returned (.tuple #[.agg #[.slice (some ⟨g, 0, none⟩) n c, .int .i64 Dn], .int .i64 0]) ∧ n ≤ c ∧ w.heap.size ≤ g ∧ g < w'.heap.size ∧ (∀ j, j < n → w'.cell? ⟨g, j, none⟩ = some (.int .i64 (Nm j))) ∧ Below w.heap.size w w'
/-- The factors, divided. -/
def fDn (L : List (List Int)) (hs : List Int) (n : Nat) : Int := fD L n / (gN (fD L n) (fN L hs n) n : Int)
def fNm (L : List (List Int)) (hs : List Int) (n j : Nat) : Int := fN L hs n j / (gN (fD L n) (fN L hs n) n : Int)
theorem fit_bds {L : List (List Int)} {hs : List Int} {n : Nat} (hG : GOk L hs n) (hD : fD L n ≠ 0) : 1 ≤ fDn L hs n ∧ fDn L hs n ≤ 3072000000 ∧ ∀ j, j < n → -307200000000 ≤ fNm L hs n j ∧ fNm L hs n j ≤ 307200000000 := by
  obtain ⟨q1, q2⟩ := gok_rb hG
  obtain ⟨b1, b2⟩ := gram_bd hG.n1 hG.n3 q1 q2
  have nn : 0 ≤ fD L n := gram_nn hG.n1 hG.n3 _ _
  obtain ⟨d1, d2⟩ := gN_dvd (D := fD L n) (fN L hs n) n
  have hp := gN_pos hD (fN L hs n) n
  have g1 : (1 : Int) ≤ (gN (fD L n) (fN L hs n) n : Int) := by omega
  have e1 := quo_bd g1 (A := 3072000000) b1 (Int.ofNat_dvd_left.2 d1)
  refine ⟨?_, e1.2, fun j hj => quo_bd g1 (A := 307200000000) (b2 j hj) (Int.ofNat_dvd_left.2 (d2 j hj))⟩
  unfold fDn
  obtain ⟨z, hz⟩ := Int.ofNat_dvd_left.2 d1
  have e : fD L n / (gN (fD L n) (fN L hs n) n : Int) = z := Int.ediv_eq_of_eq_mul_right (by omega) hz
  rw [e]
  rcases Int.le_total z 0 with h | h
  · exfalso
    have := Int.mul_nonneg (show 0 ≤ (gN (fD L n) (fN L hs n) n : Int) by omega) (show 0 ≤ -z by omega)
    rw [Int.mul_neg, ← hz] at this
    omega
  · have : z ≠ 0 := fun h0 => hD (by rw [hz, h0]; simp)
    omega
theorem c_Fit_ok (a ah : Option Addr) (L : List (List Int)) (hs : List Int) (n cap caph : Nat) (w : World) (hM : MatSlice w a L) (hH : IntSlice w ah hs) (he : gErr L hs = 0) (hG : GOk L hs n) (hD : fD L n ≠ 0) :
    Calls Try.prog 8 #[.slice a L.length cap, .slice ah hs.length caph] w (FitIs w n (fDn L hs n) (fNm L hs n)) := by
  have hK := fun w1 (h : Below w.heap.size w w1) => c_gCheck a ah L hs cap caph w1 (hM.below (Nat.le_refl _) h) (hH.below (Nat.le_refl _) h)
  rw [he] at hK
  have HK := Lib.hid hK
  have hS := fun w1 (h : Below w.heap.size w w1) => c_system n hG.n1 hG.n3 a cap L ah caph hs w1 hG.N1 hG.N8 (hM.below (Nat.le_refl _) h) hG.len (hH.below (Nat.le_refl _) h) hG.hl hG.bd
  have hl := hG.hl
  obtain ⟨q1, q2⟩ := gok_rb hG
  have nn : 0 ≤ fD L n := gram_nn hG.n1 hG.n3 _ _
  have HV : Hid (∀ bm br (w1 : World), MatV w1 bm n (gmM (rwF L) L.length) → VecV w1 br n (gmR (rwF L) (hF hs) L.length) → Calls Try.prog 23 #[.slice (some ⟨bm, 0, none⟩) n n, .slice (some ⟨br, 0, none⟩) n n] w1 (FitIs w1 n (fDn L hs n) (fNm L hs n))) :=
    Lib.hid (fun bm br w1 h1 h2 => c_solve_ok n hG.n1 hG.n3 bm n br n (gmM (rwF L) L.length) (gmR (rwF L) (hF hs) L.length) w1 (Nat.le_refl _) (Nat.le_refl _) h1 h2 (fun i j hi hj => by have := q1 i j hi hj; omega) q2 (fD L n) rfl (by omega))
  have HS : Hid (∀ w1, Below w.heap.size w w1 → Calls Try.prog 24 #[.slice a hs.length cap, .slice ah hs.length caph] w1 (SysIs w1 n (gmM (rwF L) L.length) (gmR (rwF L) (hF hs) L.length))) := Lib.hid (fun w1 h => by have := hS w1 h; rw [hl]; exact this)
  rw [← hl] at HK ⊢
  generalize gmM (rwF L) L.length = M at *
  generalize gmR (rwF L) (hF hs) L.length = V at *
  generalize fDn L hs n = Dn at *
  generalize fNm L hs n = Nm at *
  generalize hs.length = N at *
  clear hM hH he hG hD hK hS hl q1 q2 nn
  have hgen := sgen; have hgen2 := sgen2; have hgen3 := sgen3; go_enter Try.func8, Try.ntmps8
  go_wp2_with (first | (go_at_call 11; (with_reducible refine (HK.out _ (by exact belz)).mono ?_); rintro e w' ⟨rfl, rfl⟩) | (go_at_call 24; (with_reducible refine (HS.out _ (by exact belz)).mono ?_); rintro e w1 ⟨bm, br, rfl, hbm, hbr, hMV, hVV, hb⟩; have hz := hb.size; (try simp only [szA, szS, szD, szN] at hz); (try (refine bcB (n := w.heap.size) hb ?_; intro h_w_0 e_w_0 d_w_0 _ _))) | (go_at_call 23; (with_reducible refine (HV.out bm br _ hMV hVV).mono ?_); rintro e w2 ⟨g, c, rfl, hc, hg, hgl, hcl, hb⟩; have hz := hb.size; (try simp only [szA, szS, szD, szN] at hz); (try (refine bcB (n := w.heap.size) hb ?_; intro h_w_0 e_w_0 d_w_0 _ _)); (try (refine bcB (n := w1.heap.size) hb ?_; intro h_w1_0 e_w1_0 d_w1_0 _ _))))
  refine bodyPost_ret (v := .tuple #[.agg #[.slice (some ⟨g, 0, none⟩) n c, .int .i64 Dn], .int .i64 0]) (by simp only [results, Try.results8]; go_simp) rfl ?_
  have hzz := hb.size
  have hgw : g ≠ w.heap.size := by
    have := hgl
    omega
  refine ⟨g, c, rfl, hc, ?_, ?_, fun j hj => ?_, ?_⟩
  · omega
  · simp; omega
  · have := hcl j hj
    go_simp
  · exact belz
/-- What Residual answers. -/
def rsL (L : List (List Int)) (hs : List Int) (n : Nat) : Int := smN L.length (fun i => hF hs i * hF hs i * fDn L hs n) - smN n (fun j => fNm L hs n j * gmR (rwF L) (hF hs) L.length j)
def rsG (L : List (List Int)) (hs : List Int) (n : Nat) : Nat := Nat.gcd (rsL L hs n).natAbs (fDn L hs n).natAbs
theorem rsL_bd {L : List (List Int)} {hs : List Int} {n : Nat} (hG : GOk L hs n) (hD : fD L n ≠ 0) : (∀ k, k ≤ L.length → -24576000000000000 ≤ smN k (fun i => hF hs i * hF hs i * fDn L hs n) ∧ smN k (fun i => hF hs i * hF hs i * fDn L hs n) ≤ 24576000000000000) ∧
    ∀ k, k ≤ n → -73728000000000000 ≤ smN k (fun j => fNm L hs n j * gmR (rwF L) (hF hs) L.length j) ∧ smN k (fun j => fNm L hs n j * gmR (rwF L) (hF hs) L.length j) ≤ 73728000000000000 := by
  obtain ⟨q1, q2⟩ := gok_rb hG
  obtain ⟨b1, b2, b3⟩ := fit_bds hG hD
  have hN := hG.N8
  have hn := hG.n3
  refine ⟨fun k hk => ?_, fun k hk => ?_⟩
  · have := smN_bd (f := fun i => hF hs i * hF hs i * fDn L hs n) (A := 3072000000000000) k (fun i hi => mul_bd (A := 1000000) (D := 3072000000) (mul_bd (A := 1000) (D := 1000) (hG.bd.2 i (by omega)) (hG.bd.2 i (by omega))) ⟨by omega, b2⟩)
    omega
  · have := smN_bd (f := fun j => fNm L hs n j * gmR (rwF L) (hF hs) L.length j) (A := 24576000000000000) k (fun j hj => mul_bd (A := 307200000000) (D := 80000) (b3 j (by omega)) (q2 j (by omega)))
    omega
theorem c_Res_err (a ah : Option Addr) (L : List (List Int)) (hs : List Int) (cap caph : Nat) (w : World) (x : Int) (hx : x ≠ 0)
    (HF : Hid (∀ w1, Below w.heap.size w w1 → Calls Try.prog 8 #[.slice a L.length cap, .slice ah hs.length caph] w1 fun e w' => e = .returned (.tuple #[.agg #[.slice none 0 0, .int .i64 0], .int .i64 x]) ∧ Below w1.heap.size w1 w')) :
    Calls Try.prog 9 #[.slice a L.length cap, .slice ah hs.length caph] w fun e w' => e = .returned (.tuple #[.int .i64 0, .int .i64 0, .int .i64 x]) ∧ Below w.heap.size w w' := by
  have h1 : (x != 0) = true := by simp [hx]
  have hgen := sgen; have hgen2 := sgen2; have hgen3 := sgen3; go_enter Try.func9, Try.ntmps9
  go_wp2_with (go_at_call 8; (with_reducible refine (HF.out _ (by exact belz)).mono ?_); rintro e w1 ⟨rfl, hb⟩; have hz := hb.size; (try simp only [szA, szS, szD, szN] at hz); (try (refine bcB (n := w.heap.size) hb ?_; intro h_w_0 e_w_0 d_w_0 _ _)))
  refine bodyPost_ret (v := .tuple #[.int .i64 0, .int .i64 0, .int .i64 x]) (by simp only [results, Try.results9]; go_simp) rfl ⟨rfl, ?_⟩
  exact belz
set_option maxRecDepth 100000 in
set_option maxHeartbeats 4000000 in
theorem c_Res_ok (a ah : Option Addr) (L : List (List Int)) (hs : List Int) (n cap caph : Nat) (w : World) (hM : MatSlice w a L) (hH : IntSlice w ah hs) (he : gErr L hs = 0) (hG : GOk L hs n) (hD : fD L n ≠ 0) :
    Calls Try.prog 9 #[.slice a L.length cap, .slice ah hs.length caph] w fun e w' => e = .returned (.tuple #[.int .i64 (rsL L hs n / (rsG L hs n : Int)), .int .i64 (fDn L hs n / (rsG L hs n : Int)), .int .i64 0]) ∧ Below w.heap.size w w' := by
  have HFIT := Lib.hid (fun w1 (h : Below w.heap.size w w1) => c_Fit_ok a ah L hs n cap caph w1 (hM.below (Nat.le_refl _) h) (hH.below (Nat.le_refl _) h) he hG hD)
  have hS := fun w1 (h : Below w.heap.size w w1) => c_system n hG.n1 hG.n3 a cap L ah caph hs w1 hG.N1 hG.N8 (hM.below (Nat.le_refl _) h) hG.len (hH.below (Nat.le_refl _) h) hG.hl hG.bd
  have hl := hG.hl
  obtain ⟨N, hN⟩ : ∃ N, N = L.length := ⟨_, rfl⟩
  have HS : Hid (∀ w1, Below w.heap.size w w1 → Calls Try.prog 24 #[.slice a N cap, .slice ah N caph] w1 (SysIs w1 n (gmM (rwF L) L.length) (gmR (rwF L) (hF hs) L.length))) := Lib.hid (fun w1 h => by rw [hN]; exact hS w1 h)
  have HHK : Hid (∀ w', Below w.heap.size w w' → ∀ i, i < N → ∃ b off, w'.cell? ⟨b, off + i, none⟩ = some (.int .i64 (hF hs i)) ∧ ∀ w1 : World, (Instr.indexAt 23 (.slice ah N caph) (.int .i64 i)).run Try.prog w1 = .ok (.pointer (some ⟨b, off + i, none⟩)) w1) := Lib.hid (fun w' hb i hi => by
    obtain ⟨b, off, e, hb2, c⟩ := (hH.below (Nat.le_refl _) hb) i (by omega)
    exact ⟨b, off, by rw [hF_get (by omega)]; exact c, @ix_Int ah b off N caph i e hi⟩)
  obtain ⟨b1, b2, b3⟩ := fit_bds hG hD
  obtain ⟨q1, q2⟩ := gok_rb hG
  obtain ⟨s1, s2⟩ := rsL_bd hG hD
  have HB := Lib.hid hG.bd.2
  have hLQ : rsL L hs n = smN N (fun i => hF hs i * hF hs i * fDn L hs n) - smN n (fun j => fNm L hs n j * gmR (rwF L) (hF hs) L.length j) := by rw [hN]; rfl
  have hgp : 0 < rsG L hs n := Nat.gcd_pos_of_pos_right _ (by omega)
  have gd1 : rsG L hs n ∣ (rsL L hs n).natAbs := Nat.gcd_dvd_left _ _
  have gd2 : rsG L hs n ∣ (fDn L hs n).natAbs := Nat.gcd_dvd_right _ _
  have hRG : Nat.gcd (rsL L hs n).natAbs (fDn L hs n).natAbs = rsG L hs n := rfl
  have N8 : N ≤ 8 := by rw [hN]; exact hG.N8
  have n3 := hG.n3
  rw [hl, ← hN] at HFIT ⊢
  rw [← hN] at s1 HB
  generalize gmM (rwF L) L.length = M at *
  generalize gmR (rwF L) (hF hs) L.length = V at *
  generalize fDn L hs n = Dn at *
  generalize fNm L hs n = Nm at *
  generalize rsL L hs n = LQ at *
  generalize rsG L hs n = G at *
  generalize hF hs = H at *
  have HB3 := Lib.hid b3
  have HQ2 := Lib.hid q2
  have HS1 := Lib.hid s1
  have HS2 := Lib.hid s2
  have HLQ := Lib.hid hLQ
  clear hM hH he hG hD hS hl q1 q2 hN b3 s1 s2 hLQ
  have hgen := sgen; have hgen2 := sgen2; have hgen3 := sgen3; go_enter Try.func9, Try.ntmps9
  go_upto_region 5 with (first | (go_at_call 8; (with_reducible refine (HFIT.out _ (by exact belz)).mono ?_); rintro e w1 ⟨g, c, rfl, hc, hg, hgl, hcl, hb⟩; have hz := hb.size; (try simp only [szA, szS, szD, szN] at hz); (try (refine bcB (n := w.heap.size) hb ?_; intro h_w_0 e_w_0 d_w_0 _ _))) | (go_at_call 24; (with_reducible refine (HS.out _ (by exact belz)).mono ?_); rintro e w2 ⟨bm, br, rfl, hbm, hbr, hMV, hVV, hb⟩; have hz := hb.size; (try simp only [szA, szS, szD, szN] at hz); (try (refine bcB (n := w.heap.size) hb ?_; intro h_w_0 e_w_0 d_w_0 _ _)); (try (refine bcB (n := w1.heap.size) hb ?_; intro h_w1_0 e_w1_0 d_w1_0 _ _))))
  have hA : FitAt w2 w1.heap.size (.slice (some ⟨g, 0, none⟩) n c) Dn := by
    refine ⟨by omega, by go_simp, by go_simp, fun o => by go_simp⟩
  have hN2 : ∀ j, j < n → w2.cell? ⟨g, j, none⟩ = some (.int .i64 (Nm j)) := fun j hj => by
    have h5 := hcl j hj
    refine (hb.cell (p := ⟨g, j, none⟩) (by simp; omega)).trans ?_
    go_simp
  have hb2 : Below w.heap.size w w2 := by exact belz
  have HN2 := Lib.hid hN2
  have HVV := Lib.hid hVV
  have a0 := hA.c0
  have a1 := hA.c1
  clear hN2 hA hVV hMV HS HFIT hcl
  go_wp2_with fail
  go_loopg [11, 35] N (fun gk x11 i wr => ∃ k : Nat, gk + k = N ∧ i = .int .i64 (k : Int) ∧ x11 = .int .i64 (smN k (fun i => H i * H i * Dn)) ∧ w2 = wr)
  case atStart => exact ⟨0, by omega, rfl, rfl, rfl⟩
  case round =>
    obtain ⟨k, hk, rfl, rfl, rfl⟩ := hrel
    obtain ⟨ga, hga⟩ : ∃ ga, ga = gk := ⟨gk, rfl⟩
    by_cases hkN : k < N
    · have hkz : (k : Int) < (N : Int) := by omega
      obtain ⟨b5, off5, c5, ix5⟩ := HHK.out w2 hb2 k hkN
      have v1 := HB.out k hkN
      have v2 := mul_bd v1 v1
      have v3 := mul_bd v2 (D := 3072000000) (show -3072000000 ≤ Dn ∧ Dn ≤ 3072000000 by omega)
      have v4 := HS1.out k (by omega)
      have HX : Hid (smN (k + 1) (fun i => H i * H i * Dn) = smN k (fun i => H i * H i * Dn) + H k * H k * Dn) := Lib.hid rfl
      generalize smN k (fun i => H i * H i * Dn) = s at *
      generalize H k = h at *
      have e1 : IntKind.i64.wrap (h * h) = h * h := IntWalk.i64_in _ (by omega)
      have e2 : IntKind.i64.wrap (h * h * Dn) = h * h * Dn := IntWalk.i64_in _ (by omega)
      have e3 : IntKind.i64.wrap (s + h * h * Dn) = s + h * h * Dn := IntWalk.i64_in _ (by omega)
      go_wp2_with fail
      go_roundg (N - (k + 1))
      case measure => omega
      case rel => exact ⟨k + 1, by omega, rfl, by rw [HX.out], rfl⟩
    · obtain rfl : k = N := by omega
      go_wp2_with fail
      go_loopg [11, 50] n (fun gk x11 i wr => ∃ j : Nat, gk + j = n ∧ i = .int .i64 (j : Int) ∧ x11 = .int .i64 (smN k (fun i => H i * H i * Dn) - smN j (fun j => Nm j * V j)) ∧ w2 = wr)
      case atStart => exact ⟨0, by omega, rfl, by show _ = Value.int .i64 (_ - 0); rw [Int.sub_zero], rfl⟩
      case round =>
        obtain ⟨j, hj, rfl, rfl, rfl⟩ := hrel
        obtain ⟨gb, hgb⟩ : ∃ gb, gb = gk := ⟨gk, rfl⟩
        by_cases hjn : j < n
        · have hjz : (j : Int) < (n : Int) := by omega
          have c5 := HN2.out j hjn
          have c6 : w2.cell? ⟨br, j, none⟩ = some (.int .i64 (V j)) := HVV.out.cell hjn
          have hjc : (j : Int) < (c : Int) := by omega
          have v4 := HS1.out k (Nat.le_refl _)
          have v5 := HS2.out j (by omega)
          have v6 := HS2.out (j + 1) (by omega)
          have HX : Hid (smN (j + 1) (fun j => Nm j * V j) = smN j (fun j => Nm j * V j) + Nm j * V j) := Lib.hid rfl
          rw [HX.out] at v6
          generalize smN k (fun i => H i * H i * Dn) = s at *
          generalize smN j (fun j => Nm j * V j) = t at *
          generalize Nm j = p at *
          generalize V j = q at *
          have e1 : IntKind.i64.wrap (p * q) = p * q := IntWalk.i64_in _ (by omega)
          have e2 : IntKind.i64.wrap (s - t - p * q) = s - (t + p * q) := (IntWalk.i64_in _ (by omega)).trans (by omega)
          go_wp2_with fail
          go_roundg (n - (j + 1))
          case measure => omega
          case rel => exact ⟨j + 1, by omega, rfl, by rw [HX.out], rfl⟩
        · obtain rfl : j = n := by omega
          rw [← HLQ.out]
          have v4 := HS1.out k (Nat.le_refl _)
          have v5 := HS2.out j (Nat.le_refl _)
          have v6 := HLQ.out
          have lqb : -100000000000000000 ≤ LQ ∧ LQ ≤ 100000000000000000 := by omega
          have gle : (G : Int) ≤ Dn := by
            have := Nat.le_of_dvd (by omega) gd2
            omega
          have HGC := Lib.hid (fun w1 => c_Gcd LQ Dn w1 (by omega) (by omega) (by omega) (by omega))
          rw [hRG] at HGC
          have g0 : (((G : Nat) : Int) == 0) = false := by simp; omega
          have e1 : LQ.tdiv (G : Int) = LQ / (G : Int) := tdiv_dvd hgp (Int.ofNat_dvd_left.2 gd1)
          have e2 : Dn.tdiv (G : Int) = Dn / (G : Int) := tdiv_dvd hgp (Int.ofNat_dvd_left.2 gd2)
          have e3 : -100000000000000000 ≤ LQ / (G : Int) ∧ LQ / (G : Int) ≤ 100000000000000000 := quo_bd (by omega) lqb (Int.ofNat_dvd_left.2 gd1)
          have e4 : -3072000000 ≤ Dn / (G : Int) ∧ Dn / (G : Int) ≤ 3072000000 := quo_bd (by omega) ⟨by omega, by omega⟩ (Int.ofNat_dvd_left.2 gd2)
          have e5 : IntKind.i64.wrap (LQ / (G : Int)) = LQ / (G : Int) := IntWalk.i64_in _ (by omega)
          have e6 : IntKind.i64.wrap (Dn / (G : Int)) = Dn / (G : Int) := IntWalk.i64_in _ (by omega)
          clear v4 v5 v6
          go_wp2_with (go_at_call 25; (with_reducible refine (HGC.out _).mono ?_); rintro e w3 ⟨rfl, hb⟩; have hz := hb.size; (try simp only [szA, szS, szD, szN] at hz); (try (refine bcB (n := w2.heap.size) hb ?_; intro h_w2_0 e_w2_0 d_w2_0 _ _)); (try (refine bcB (n := w1.heap.size) hb ?_; intro h_w1_0 e_w1_0 d_w1_0 _ _)))
          go_quiet (fail)
          go_wp2
          refine bodyPost_ret (v := .tuple #[.int .i64 (LQ / (G : Int)), .int .i64 (Dn / (G : Int)), .int .i64 0]) (by simp only [results, Try.results9]; go_simp) rfl ⟨rfl, ?_⟩
          exact belz
end Go.Proofs.Ytcnmjfngaahhmaa
