/- The contract of spread.Net's Held over the net as one structure. The contracts of spread.Net's Settle and of the law's spreadWorks. The contract of the law's spreadWorks. -/
import Derived.Test.YtbcehnhiedbbbaaDoorWalkPutN
import Derived.Test.YtbcehnhiedbbbaaDoorWalkStep
import Derived.Test.YtbcehnhiedbbbaaDoorSpE
import Derived.Deep.LoopGhost
set_option linter.unusedVariables false
set_option linter.unusedSimpArgs false
namespace Go.Proofs.YtbcehnhiedbbbaaDoor
section
open Go.RowKit
/-- What Held answers. -/
def heldV (K : List Int) (rows : List (List Nt)) (node au : Int) : Value :=
  if ¬ (0 ≤ node ∧ node < (rows.length : Int)) then .tuple #[.agg #[.int .i64 0, .int .i64 0, .string ⟨#[]⟩, .int .i64 0], .int .i64 3]
  else if ¬ (0 ≤ au ∧ au < (K.length : Int)) then .tuple #[.agg #[.int .i64 0, .int .i64 0, .string ⟨#[]⟩, .int .i64 0], .int .i64 5]
  else if (hold rows node.toNat au.toNat).no = 0 then .tuple #[.agg #[.int .i64 0, .int .i64 0, .string ⟨#[]⟩, .int .i64 0], .int .i64 6]
  else .tuple #[.agg #[.int .i64 (hold rows node.toNat au.toNat).au, .int .i64 (hold rows node.toNat au.toNat).no, .string (hold rows node.toNat au.toNat).tx, .int .i64 (hold rows node.toNat au.toNat).sm], .int .i64 0]
theorem c_HeldN {B nb : Nat} {vk vn vh : Value} {K : List Int} {N : List (List Int)} {rows : List (List Nt)} {rb : List (Nat × Nat)} (node au : Int) (w : World) (h : NetAt w B nb vk vn vh K N rows rb) (hn : 0 < rows.length) :
    Calls Tryd.prog 25 #[.pointer (some ⟨nb, 0, none⟩), .int .i64 node, .int .i64 au] w fun e w' => e = .returned (heldV K rows node au) ∧ Below w.heap.size w w' := by
  have hlt := h.lt
  have hln := h.len
  obtain ⟨ka, kc, ob, hc, h0, h2, hob, hK, hR⟩ := net_slices h hn
  unfold heldV
  by_cases g1 : 0 ≤ node ∧ node < (rows.length : Int)
  · rw [if_neg (fun h => h g1)]
    by_cases g3 : 0 ≤ au ∧ au < (K.length : Int)
    · rw [if_neg (fun h => h g3)]
      obtain ⟨i, rfl⟩ : ∃ i : Nat, node = (i : Int) := ⟨node.toNat, by omega⟩
      obtain ⟨a, rfl⟩ : ∃ a : Nat, au = (a : Int) := ⟨au.toNat, by omega⟩
      have hil : i < rows.length := by omega
      have hal : a < K.length := by omega
      obtain ⟨r1, -, r3⟩ := hR i hil (by omega)
      rw [Int.toNat_natCast, Int.toNat_natCast]
      exact c_Held_at nb ob rows.length hc ka K.length kc i a rb[i].1 rb[i].2 (hold rows i a) w h0 h2 hlt hil hal hob r1 (r3 a hal)
    · rw [if_pos g3]
      exact c_Held_name nb ob rows.length hc ka K.length kc node au w h0 h2 hlt g1 g3
  · rw [if_pos g1]
    exact c_Held_node nb ob rows.length hc node au w h2 hlt g1
end
section
open Go.RowKit
theorem c_StepB {B nb : Nat} {vk vn vh : Value} {K : List Int} {N : List (List Int)} {rows : List (List Nt)} {rb : List (Nat × Nat)} (w : World) (h : NetAt w B nb vk vn vh K N rows rb) (hn : 0 < rows.length) (h12 : rows.length ≤ 12) (h8 : K.length ≤ 8) (hN : N.length = rows.length) (hNr : ∀ r ∈ N, ∀ k ∈ r, 0 ≤ k ∧ k < (rows.length : Int)) (hN80 : ∀ r ∈ N, r.length ≤ 80) (hB : B ≤ w.heap.size) (hnb : B ≤ nb) :
    Calls Tryd.prog 23 #[.pointer (some ⟨nb, 0, none⟩)] w fun e w' => e = .returned (.int .i64 (chgTo rows (stAll rows N) rows.length)) ∧ ∃ vh' rb', NetAt w' B nb vk vn vh' K N (stAll rows N) rb' ∧ Below B w w' :=
  (c_Step w h hn h12 h8 hN hNr hN80 hB).mono fun e w' ⟨h1, vh', rb', W, h2, h3, h4⟩ => ⟨h1, vh', rb', h2, by rw [h4]; exact (h3.mono hB).setCell hnb _⟩
/-- What Put leaves of the net. -/
theorem putOut_net {w w' : World} {B nb : Nat} {vk vn vh : Value} {K : List Int} {N : List (List Int)} {rows : List (List Nt)} {rb : List (Nat × Nat)} {node : Int} {t : Nt} (h : NetAt w B nb vk vn vh K N rows rb) (hB : B ≤ w.heap.size) (hp : PutOut w w' K rows rb node t) :
    Below B w w' ∧ ((putE K rows node t ≠ 0 ∧ NetAt w' B nb vk vn vh K N rows rb) ∨ (putE K rows node t = 0 ∧ ∃ (i a : Nat) (hi : i < rows.length), node = (i : Int) ∧ t.au = (a : Int) ∧ a < K.length ∧ NetAt w' B nb vk vn vh K N (rows.set i (rows[i].set a t)) rb)) := by
  rcases hp with ⟨h1, h2⟩ | ⟨h1, W, i, a, hi, h2, h3, h4, h5, h6, rfl⟩
  · exact ⟨h2.mono hB, .inl ⟨h1, h.below h2⟩⟩
  · have hW := h.below h6
    have hrow := (hW.row i h4 hi).2.form.1
    refine ⟨?_, .inr ⟨h1, i, a, h4, h2, h3, h5, hW.put i a h4 hi h5 t⟩⟩
    exact ((((h6.mono hB).setCell hrow _).setCell hrow _).setCell hrow _).setCell hrow _
set_option maxHeartbeats 1000000 in
theorem c_Settle {B nb : Nat} {vk vn vh : Value} {K : List Int} {N : List (List Int)} {rb : List (Nat × Nat)} (R : Nat → List (List Nt)) (m : Nat) (hm : m ≤ 40) (w : World) (h : NetAt w B nb vk vn vh K N (R 0) rb) (hR : ∀ j, R (j + 1) = stAll (R j) N) (hl : ∀ j, (R j).length = (R 0).length) (hn : 0 < (R 0).length) (h12 : (R 0).length ≤ 12) (h8 : K.length ≤ 8) (hN : N.length = (R 0).length) (hNr : ∀ r ∈ N, ∀ k ∈ r, 0 ≤ k ∧ k < ((R 0).length : Int)) (hN80 : ∀ r ∈ N, r.length ≤ 80) (hB : B ≤ w.heap.size) (hnb : B ≤ nb)
    (hgo : ∀ j, j < m → 0 < chgTo (R j) (stAll (R j) N) (R j).length) (hend : chgTo (R m) (stAll (R m) N) (R m).length = 0) :
    Calls Tryd.prog 43 #[.pointer (some ⟨nb, 0, none⟩)] w fun e w' => e = .returned (.int .i64 (m : Int)) ∧ (∃ vh' rb', NetAt w' B nb vk vn vh' K N (R (m + 1)) rb') ∧ Below B w w' := by
  have HN := Lib.hid h
  have HR := Lib.hid hR
  have HSt := Lib.hid (fun (j : Nat) (vh : Value) (rb : List (Nat × Nat)) (w1 : World) (q : NetAt w1 B nb vk vn vh K N (R j) rb) (q2 : B ≤ w1.heap.size) => c_StepB w1 q (by rw [hl]; exact hn) (by rw [hl]; exact h12) h8 (by rw [hl]; exact hN) (by rw [hl]; exact hNr) hN80 q2 hnb)
  clear hR hl hNr hN80 h
  have hgen := sgen; have hgen2 := sgen2; have hgen3 := sgen3; go_enter Tryd.func43, Tryd.ntmps43
  go_wp2_with fail
  go_loopg [3] (m + 1) (fun gk x3 wr => ∃ (j : Nat) (vh : Value) (rb : List (Nat × Nat)), gk + j = m + 1 ∧ j ≤ m ∧ x3 = .int .i64 j ∧ NetAt wr B nb vk vn vh K N (R j) rb ∧ Below B w wr)
  case atStart => exact ⟨0, vh, rb, by omega, by omega, rfl, HN.out, Below.refl _ _⟩
  case round =>
    obtain ⟨j, vh1, rb1, hj, hjm, rfl, hnw, hbl⟩ := hrel
    have hsz := hbl.size
    have hst := HSt.out j vh1 rb1 wr hnw (by omega)
    have hrj := HR.out j
    rw [← hrj] at hst
    by_cases hlt : j < m
    · have hc := hgo j hlt
      rw [← hrj] at hc
      have HCg := Lib.hid hst
      generalize chgTo (R j) (R (j + 1)) (R j).length = ch at *
      have d1 := decide_eq_true hc
      clear hst HSt
      have HSt := HCg
      clear HCg
      go_wp2_with (go_at_call 23; (with_reducible refine (HSt.out).mono ?_); rintro e w1 ⟨rfl, vh2, rb2, hN2, hb⟩; have hz := hb.size; (try simp only [szA, szS, szD, szN] at hz); (try (refine bcB (n := wr.heap.size) hb ?_; intro h_wr_0 e_wr_0 d_wr_0 _ _)))
      have hb2 : Below B w w1 := hbl.trans hb
      have HN2 := Lib.hid hN2
      have HB2 := Lib.hid hb2
      go_roundg (m + 1 - (j + 1))
      case measure => omega
      case rel => exact ⟨j + 1, vh2, rb2, by omega, by omega, by go_num, HN2.out, HB2.out⟩
    · obtain rfl : j = m := by omega
      have hc := hend
      rw [← hrj] at hc
      rw [hc] at hst
      have HCg := Lib.hid hst
      clear hst HSt
      have HSt := HCg
      clear HCg
      go_wp2_with (go_at_call 23; (with_reducible refine (HSt.out).mono ?_); rintro e w1 ⟨rfl, vh2, rb2, hN2, hb⟩; have hz := hb.size; (try simp only [szA, szS, szD, szN] at hz); (try (refine bcB (n := wr.heap.size) hb ?_; intro h_wr_0 e_wr_0 d_wr_0 _ _)))
      go_ret
      exact ⟨rfl, ⟨vh2, rb2, hN2⟩, hbl.trans hb⟩
end
section
open Go.RowKit
def swT : Nt := ⟨0, 1, ⟨#[97]⟩, 930818648⟩
def swE : List Ed := [⟨0, 1⟩, ⟨1, 2⟩]
def swN : List (List Int) := (List.range 3).map fun i : Nat => nearL swE (i : Int)
def swR : Nat → List (List Nt)
  | 0 => [[swT], [zNt], [zNt]]
  | j + 1 => stAll (swR j) swN
theorem sw_put : putE [1] (List.replicate 3 (List.replicate 1 zNt)) 0 swT = 0 := by decide +kernel
theorem sw_len : ∀ j, (swR j).length = 3
  | 0 => rfl
  | j + 1 => by show (stAll (swR j) swN).length = 3; unfold stAll; rw [List.length_map, List.length_range]; exact sw_len j
theorem sw_go0 : chgTo (swR 0) (stAll (swR 0) swN) (swR 0).length = 1 := by decide +kernel
theorem sw_go1 : chgTo (swR 1) (stAll (swR 1) swN) (swR 1).length = 1 := by decide +kernel
theorem sw_end : chgTo (swR 2) (stAll (swR 2) swN) (swR 2).length = 0 := by decide +kernel
theorem sw_held : heldV [1] (swR 3) 2 0 = .tuple #[.agg #[.int .i64 0, .int .i64 1, .string ⟨#[97]⟩, .int .i64 930818648], .int .i64 0] := by kernel_rfl
theorem sw_near : ∀ r ∈ swN, (∀ k ∈ r, 0 ≤ k ∧ k < (3 : Int)) ∧ r.length ≤ 80 := by decide +kernel
theorem sw_ok : ∀ x ∈ swE, edOk 3 x := by
  intro x hx
  simp only [swE, List.mem_cons, List.not_mem_nil, or_false] at hx
  rcases hx with rfl | rfl
  · exact ⟨⟨by decide, by decide⟩, ⟨by decide, by decide⟩⟩
  · exact ⟨⟨by decide, by decide⟩, ⟨by decide, by decide⟩⟩
theorem c_New3 (ka ea : Option Addr) (kc ec : Nat) (w : World) (hs : IntSlice w ka [1]) (hes : EdSlice w ea swE) :
    Calls Tryd.prog 21 #[.slice ka 1 kc, .int .i64 3, .slice ea 2 ec] w fun e w' => ∃ nb vk vn vh rb, e = .returned (.tuple #[.pointer (some ⟨nb, 0, none⟩), .int .i64 0]) ∧ NetAt w' w.heap.size nb vk vn vh [1] swN (List.replicate 3 (List.replicate 1 zNt)) rb ∧ w.heap.size ≤ nb ∧ Below w.heap.size w w' :=
  (c_New_net ka ea kc ec [1] swE 3 w hs hes (by decide) (by decide) (by decide) (by decide) (by decide)).mono fun e w' h => by
    rcases h with ⟨⟨x, hx, hn⟩, _⟩ | ⟨_, nb, vk, vn, vh, rb, h1, h2, h3, h4⟩
    · exact absurd (sw_ok x hx) hn
    · exact ⟨nb, vk, vn, vh, rb, h1, h2, h3, h4⟩
theorem c_Put3 {B nb : Nat} {vk vn vh : Value} {rb : List (Nat × Nat)} (w : World) (h : NetAt w B nb vk vn vh [1] swN (List.replicate 3 (List.replicate 1 zNt)) rb) (hT : NTab w) (hB : B ≤ w.heap.size) :
    Calls Tryd.prog 24 #[.pointer (some ⟨nb, 0, none⟩), .int .i64 0, .agg #[.int .i64 0, .int .i64 1, .string ⟨#[97]⟩, .int .i64 930818648]] w fun e w' => e = .returned (.int .i64 0) ∧ NetAt w' B nb vk vn vh [1] swN (swR 0) rb ∧ Hid (Below B w w') ∧ Below B w w' :=
  (c_PutN 0 swT w h hT (by decide) (by decide) (by decide)).mono fun e w' ⟨h1, h2⟩ => by
    rw [sw_put] at h1
    obtain ⟨h3, h4⟩ := putOut_net h hB h2
    refine ⟨h1, ?_, h3, h3⟩
    rcases h4 with ⟨h5, _⟩ | ⟨_, i, a, hi, e1, e2, _, h6⟩
    · exact absurd sw_put h5
    · obtain rfl : i = 0 := by omega
      obtain rfl : a = 0 := by have e3 : (0 : Int) = (a : Int) := e2; omega
      exact h6
theorem c_Settle3 {B nb : Nat} {vk vn vh : Value} {rb : List (Nat × Nat)} (w : World) (h : NetAt w B nb vk vn vh [1] swN (swR 0) rb) (hB : B ≤ w.heap.size) (hnb : B ≤ nb) :
    Calls Tryd.prog 43 #[.pointer (some ⟨nb, 0, none⟩)] w fun e w' => e = .returned (.int .i64 2) ∧ ∃ vh' rb', NetAt w' B nb vk vn vh' [1] swN (swR 3) rb' ∧ Hid (Below B w w') ∧ Below B w w' :=
  (c_Settle swR 2 (by decide) w h (fun j => rfl) (fun j => by rw [sw_len, sw_len]) (by decide) (by decide) (by decide) (by decide) (fun r hr k hk => (sw_near r hr).1 k hk) (fun r hr => (sw_near r hr).2) hB hnb
    (fun j hj => by
      rcases (show j = 0 ∨ j = 1 by omega) with rfl | rfl
      · rw [sw_go0]; decide
      · rw [sw_go1]; decide) sw_end).mono fun e w' ⟨h1, ⟨vh', rb', h2⟩, h3⟩ => ⟨h1, vh', rb', h2, h3, h3⟩
theorem c_Held3 {B nb : Nat} {vk vn vh : Value} {rb : List (Nat × Nat)} (w : World) (h : NetAt w B nb vk vn vh [1] swN (swR 3) rb) :
    Calls Tryd.prog 25 #[.pointer (some ⟨nb, 0, none⟩), .int .i64 2, .int .i64 0] w fun e w' => e = .returned (.tuple #[.agg #[.int .i64 0, .int .i64 1, .string ⟨#[97]⟩, .int .i64 930818648], .int .i64 0]) ∧ Below w.heap.size w w' :=
  (c_HeldN 2 0 w h (by rw [sw_len]; decide)).mono fun e w' ⟨h1, h2⟩ => ⟨by rw [sw_held] at h1; exact h1, h2⟩
theorem int1_slice {w : World} {b : Nat} (hb : b < w.heap.size) (h : w.cell? ⟨b, 0, none⟩ = some (.int .i64 1)) : IntSlice w (some ⟨b, 0, none⟩) [1] := by
  intro k hk
  obtain rfl : k = 0 := by simp at hk; exact hk
  exact ⟨b, 0, rfl, hb, h⟩
theorem sw_slice {w : World} {b : Nat} (hb : b < w.heap.size) (h0 : w.cell? ⟨b, 0, none⟩ = some (.int .i64 0)) (h1 : w.cell? ⟨b, 1, none⟩ = some (.int .i64 1)) (h2 : w.cell? ⟨b, 2, none⟩ = some (.int .i64 1)) (h3 : w.cell? ⟨b, 3, none⟩ = some (.int .i64 2)) : EdSlice w (some ⟨b, 0, none⟩) swE := by
  intro k hk
  have hk2 : k = 0 ∨ k = 1 := by
    have : swE.length = 2 := rfl
    omega
  rcases hk2 with rfl | rfl
  · exact ⟨b, 0, rfl, hb, h0, h1⟩
  · exact ⟨b, 0, rfl, hb, h2, h3⟩
set_option maxHeartbeats 1000000 in
theorem c_spreadWorks (w : World) (hT : NTab w) :
    Calls Tryd.prog 20 #[] w fun e w' => e = .returned (.bool true) ∧ Below w.heap.size w w' := by
  have HT := Lib.hid hT
  clear hT
  have hgen := sgen; have hgen2 := sgen2; have hgen3 := sgen3; go_enter Tryd.func20, Tryd.ntmps20
  go_upto_region 2 with (go_at_call 21; (with_reducible refine (c_New3 (some ⟨w.heap.size, 0, none⟩) (some ⟨w.heap.size + 1, 0, none⟩) 1 2 _ (int1_slice (by simp only [World.size_alloc]; omega) (by go_simp)) (sw_slice (by simp only [World.size_alloc]; omega) (by go_simp) (by go_simp) (by go_simp) (by go_simp))).mono ?_); rintro e w1 ⟨nb, vk, vn, vh, rb, rfl, hN1, hnb, hb⟩; have hz := hb.size; (try simp only [szA, szS, szD, szN] at hz); (try (refine bcB (n := w.heap.size) hb ?_; intro h_w_0 e_w_0 d_w_0 _ _)); (try (refine bcB (n := w.heap.size + 1) hb ?_; intro h_w_1 e_w_1 d_w_1 _ _)))
  have hB1 : Below w.heap.size w w1 := by exact belz
  have hs1 : w.heap.size + 2 ≤ w1.heap.size := by simpa using hb.size
  have HN1 := Lib.hid (show NetAt w1 (w.heap.size + 1 + 1) nb vk vn vh [1] swN (List.replicate 3 (List.replicate 1 zNt)) rb by simpa using hN1)
  have HB1 := Lib.hid hB1
  have hnb2 : w.heap.size + 1 + 1 ≤ nb := by simpa using hnb
  clear hN1 hB1 hb hnb
  go_wp2_with (first | (go_at_call 24; (with_reducible refine (c_Put3 _ HN1.out (HT.out.below HB1.out) (by omega)).mono ?_); rintro e w2 ⟨rfl, hN2, hP2, hb⟩; have hz := hb.size; (try simp only [szA, szS, szD, szN] at hz); (try (refine bcB (n := w.heap.size) hb ?_; intro h_w_0 e_w_0 d_w_0 _ _)); (try (refine bcB (n := w1.heap.size) hb ?_; intro h_w1_0 e_w1_0 d_w1_0 _ _))) | (go_at_call 43; (with_reducible refine (c_Settle3 _ hN2 (by omega) hnb2).mono ?_); rintro e w3 ⟨rfl, vh3, rb3, hN3, hS3, hb⟩; have hz := hb.size; (try simp only [szA, szS, szD, szN] at hz); (try (refine bcB (n := w.heap.size) hb ?_; intro h_w_0 e_w_0 d_w_0 _ _)); (try (refine bcB (n := w1.heap.size) hb ?_; intro h_w1_0 e_w1_0 d_w1_0 _ _)); (try (refine bcB (n := w2.heap.size) hb ?_; intro h_w2_0 e_w2_0 d_w2_0 _ _))) | (go_at_call 25; (with_reducible refine (c_Held3 _ hN3).mono ?_); rintro e w4 ⟨rfl, hb⟩; have hz := hb.size; (try simp only [szA, szS, szD, szN] at hz); (try (refine bcB (n := w.heap.size) hb ?_; intro h_w_0 e_w_0 d_w_0 _ _)); (try (refine bcB (n := w1.heap.size) hb ?_; intro h_w1_0 e_w1_0 d_w1_0 _ _)); (try (refine bcB (n := w2.heap.size) hb ?_; intro h_w2_0 e_w2_0 d_w2_0 _ _)); (try (refine bcB (n := w3.heap.size) hb ?_; intro h_w3_0 e_w3_0 d_w3_0 _ _))))
  go_ret
  refine ⟨rfl, ((HB1.out.trans (hP2.mono (by omega))).trans (hS3.mono (by omega))).trans ?_⟩
  have hz3 : w.heap.size ≤ w3.heap.size := by omega
  exact belz
end
end Go.Proofs.YtbcehnhiedbbbaaDoor
