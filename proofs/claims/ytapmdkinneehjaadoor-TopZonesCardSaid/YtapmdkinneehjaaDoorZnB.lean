/- The contract of zone.Check. zonetext.Print: the text of a zone, and the contract where the zone is refused. What a zone is that zone.Check does not refuse. The steps of zonetext.Print's text. The rows of a zone's text, read back: plain. The offset in force, and the instants with a local time: plain. -/
import Derived.Test.YtapmdkinneehjaaDoorZnA
import Derived.BigQuiet
import Derived.Test.YtapmdkinneehjaaDoorWalkFgT
import Derived.Test.YtapmdkinneehjaaDoorFgQ
import Derived.Lib.ItoaLen
set_option linter.unusedVariables false
set_option linter.unusedSimpArgs false
namespace Go.Proofs.YtapmdkinneehjaaDoor
section
open Go.RowKit
theorem calls_belowZ {f : FuncId} {args : Array Value} {w : World} {v : Ending} (h : Calls Tryd.prog f args w fun e w' => e = v ∧ ∃ n, w' = w.drewN n) : Calls Tryd.prog f args w fun e w' => e = v ∧ Below w.heap.size w w' :=
  h.mono fun e w' ⟨he, n, hw⟩ => ⟨he, by rw [hw]; exact below_drewN (Below.refl _ _) n⟩
set_option maxRecDepth 100000 in
set_option maxHeartbeats 4000000 in
theorem c_zCheck (nm : ByteArray) (f : Int) (a : Option Addr) (cap : Nat) (l : List Zc) (w : World) (hsz : nm.size ≤ 9223372036854775807) (hc : l.length ≤ cap) (hs : ZcSlice w a l) (hwf : ∀ y ∈ l, (-9223372036854775808 ≤ y.t ∧ y.t ≤ 9223372036854775807) ∧ y.lb.size ≤ 9223372036854775807) :
    Calls Tryd.prog 10 #[.agg #[.string nm, .int .i64 f, .slice a l.length cap]] w fun e w' => e = .returned (.int .i64 (zE nm f l)) ∧ Below w.heap.size w w' := by
  have hn := fun w1 => c_isName nm w1 hsz
  have ho := fun w1 => c_isOff f w1
  cases hq1 : nameB nm
  case false =>
    rw [hq1] at hn
    have HN := Lib.hid hn
    have HV := Lib.hid (show zE nm f l = 5 by unfold zE; rw [if_pos hq1])
    clear hn ho hq1
    have hgen := sgen; have hgen2 := sgen2; have hgen3 := sgen3; go_enter Tryd.func10, Tryd.ntmps10
    go_wp2_with (go_at_call 24; (with_reducible refine (HN.out _).mono ?_); rintro e w1 ⟨rfl, hb⟩; have hz := hb.size; (try simp only [szA, szS, szD, szN] at hz); (try (refine bcB (n := w.heap.size) hb ?_; intro h_w_0 e_w_0 d_w_0 _ _)))
    go_ret
    exact ⟨by rw [HV.out]; rfl, by exact belz⟩
  rw [hq1] at hn
  have HN := Lib.hid hn
  cases hq2 : offB f
  case false =>
    rw [hq2] at ho
    have HO := Lib.hid ho
    have HV := Lib.hid (show zE nm f l = 3 by unfold zE; rw [if_neg (by rw [hq1]; decide), if_pos hq2])
    clear hn ho hq1 hq2
    have hgen := sgen; have hgen2 := sgen2; have hgen3 := sgen3; go_enter Tryd.func10, Tryd.ntmps10
    go_wp2_with (first | (go_at_call 24; (with_reducible refine (HN.out _).mono ?_); rintro e w1 ⟨rfl, hb⟩; have hz := hb.size; (try simp only [szA, szS, szD, szN] at hz); (try (refine bcB (n := w.heap.size) hb ?_; intro h_w_0 e_w_0 d_w_0 _ _))) | (go_at_call 25; (refine (HO.out _).mono ?_); rintro e w' ⟨rfl, rfl⟩))
    go_ret
    exact ⟨by rw [HV.out]; rfl, by exact belz⟩
  rw [hq2] at ho
  have HO := Lib.hid ho
  by_cases hq3 : 200 < l.length
  · have g3 := decide_eq_true (show (200 : Int) < (l.length : Int) by omega)
    have HV := Lib.hid (show zE nm f l = 2 by unfold zE; rw [if_neg (by rw [hq1]; decide), if_neg (by rw [hq2]; decide), if_pos hq3])
    clear hn ho hq1 hq2
    have hgen := sgen; have hgen2 := sgen2; have hgen3 := sgen3; go_enter Tryd.func10, Tryd.ntmps10
    go_wp2_with (first | (go_at_call 24; (with_reducible refine (HN.out _).mono ?_); rintro e w1 ⟨rfl, hb⟩; have hz := hb.size; (try simp only [szA, szS, szD, szN] at hz); (try (refine bcB (n := w.heap.size) hb ?_; intro h_w_0 e_w_0 d_w_0 _ _))) | (go_at_call 25; (refine (HO.out _).mono ?_); rintro e w' ⟨rfl, rfl⟩))
    go_ret
    exact ⟨by rw [HV.out]; rfl, by exact belz⟩
  have g3 := decide_eq_false (show ¬ (200 : Int) < (l.length : Int) by omega)
  have HV := Lib.hid (show zE nm f l = zlE none l by unfold zE; rw [if_neg (by rw [hq1]; decide), if_neg (by rw [hq2]; decide), if_neg hq3])
  have HS := Lib.hid hs
  have HWf := Lib.hid hwf
  clear hn ho hq1 hq2 hs hwf
  have hgen := sgen; have hgen2 := sgen2; have hgen3 := sgen3; go_enter Tryd.func10, Tryd.ntmps10
  go_wp2_with (first | (go_at_call 24; (with_reducible refine (HN.out _).mono ?_); rintro e w1 ⟨rfl, hb⟩; have hz := hb.size; (try simp only [szA, szS, szD, szN] at hz); (try (refine bcB (n := w.heap.size) hb ?_; intro h_w_0 e_w_0 d_w_0 _ _))) | (go_at_call 25; (refine (HO.out _).mono ?_); rintro e w' ⟨rfl, rfl⟩))
  have hB1 : Below w.heap.size w w1 := by exact belz
  have HB1 := Lib.hid hB1
  have x0 : w1.cell? ⟨w.heap.size, 0, none⟩ = some (.string nm) := by go_simp
  have x2 : w1.cell? ⟨w.heap.size, 2, none⟩ = some (.slice a l.length cap) := by go_simp
  have hs1 : w.heap.size < w1.heap.size := by assumption
  clear hb hB1 HN HO
  go_loopg [20] l.length (fun gk i wr => ∃ k : Nat, gk + k = l.length ∧ i = .int .i64 k ∧ zlE (prevZ l k) (l.drop k) = zlE none l ∧ Below w1.heap.size w1 wr)
  case atStart => exact ⟨0, by omega, rfl, rfl, Below.refl _ _⟩
  case round =>
    obtain ⟨k, hk, rfl, hz, hbel⟩ := hrel
    have hzs := hbel.size
    have hbw := HB1.out.trans (hbel.mono (Nat.le_of_lt hs1))
    have z2 := (hbel.cell (p := ⟨w.heap.size, 2, none⟩) hs1).trans x2
    by_cases hlt : k < l.length
    · obtain ⟨bb, off, ha, hbb, y0, y1, y2⟩ := HS.out k hlt
      have ix := @ix_Zc a bb off l.length cap k ha hlt
      clear ha
      have c0 := (hbw.cell (p := ⟨bb, off + k * 3, none⟩) hbb).trans y0
      have c1 := (hbw.cell (p := ⟨bb, off + k * 3 + 1, none⟩) hbb).trans y1
      have c2 := (hbw.cell (p := ⟨bb, off + k * 3 + 2, none⟩) hbb).trans y2
      have hlb : bb < wr.heap.size := by omega
      rw [zl_step l k hlt] at hz
      have HZ := Lib.hid hz
      obtain ⟨⟨w1', w2'⟩, w3'⟩ := HWf.out l[k] (List.getElem_mem hlt)
      have hi := fun w1 => calls_belowZ (c_isInstZ l[k].t w1 w1' w2')
      have hoc := fun w1 => c_isOff l[k].o w1
      have hl := fun w1 => c_isLabel l[k].lb w1 w3'
      clear hz y0 y1 y2
      generalize hx : l[k] = x at *
      have HX := Lib.hid hx
      obtain ⟨t, o, lb⟩ := x
      dsimp only at c0 c1 c2 hi hoc hl w1' w2' w3'
      clear hx
      cases hq1 : instZ t
      case false =>
        rw [hq1] at hi
        have HI := Lib.hid hi
        have HR := Lib.hid (show zlE none l = 3 from zl_bad HZ.out (zc1_a hq1) (by decide))
        clear hi hoc hl hq1
        go_wp2_with (go_at_call 22; (with_reducible refine (HI.out _).mono ?_); rintro e w2 ⟨rfl, hb⟩; have hz := hb.size; (try simp only [szA, szS, szD, szN] at hz); (try (refine bcB (n := w.heap.size) hb ?_; intro h_w_0 e_w_0 d_w_0 _ _)); (try (refine bcB (n := wr.heap.size) hb ?_; intro h_wr_0 e_wr_0 d_wr_0 _ _)))
        go_ret
        refine ⟨by rw [HV.out, HR.out]; rfl, hbw.trans (Below.mono ?_ (show w.heap.size ≤ wr.heap.size by omega))⟩
        (clear hbel hbw; exact belz)
      rw [hq1] at hi
      have HI := Lib.hid hi
      cases hq2 : offB o
      case false =>
        rw [hq2] at hoc
        have HOc := Lib.hid hoc
        have HR := Lib.hid (show zlE none l = 3 from zl_bad HZ.out (zc1_b hq2) (by decide))
        clear hi hoc hl hq1 hq2
        go_wp2_with (first | (go_at_call 22; (with_reducible refine (HI.out _).mono ?_); rintro e w2 ⟨rfl, hb⟩; have hz := hb.size; (try simp only [szA, szS, szD, szN] at hz); (try (refine bcB (n := w.heap.size) hb ?_; intro h_w_0 e_w_0 d_w_0 _ _)); (try (refine bcB (n := wr.heap.size) hb ?_; intro h_wr_0 e_wr_0 d_wr_0 _ _))) | (go_at_call 25; (refine (HOc.out _).mono ?_); rintro e w' ⟨rfl, rfl⟩))
        go_ret
        refine ⟨by rw [HV.out, HR.out]; rfl, hbw.trans (Below.mono ?_ (show w.heap.size ≤ wr.heap.size by omega))⟩
        (clear hbel hbw; exact belz)
      rw [hq2] at hoc
      have HOc := Lib.hid hoc
      cases hq3 : labB lb
      case false =>
        rw [hq3] at hl
        have HL := Lib.hid hl
        have HR := Lib.hid (show zlE none l = 8 from zl_bad HZ.out (zc1_c hq1 hq2 hq3) (by decide))
        clear hi hoc hl hq1 hq2 hq3
        go_wp2_with (first | (go_at_call 22; (with_reducible refine (HI.out _).mono ?_); rintro e w2 ⟨rfl, hb⟩; have hz := hb.size; (try simp only [szA, szS, szD, szN] at hz); (try (refine bcB (n := w.heap.size) hb ?_; intro h_w_0 e_w_0 d_w_0 _ _)); (try (refine bcB (n := wr.heap.size) hb ?_; intro h_wr_0 e_wr_0 d_wr_0 _ _))) | (go_at_call 25; (refine (HOc.out _).mono ?_); rintro e w' ⟨rfl, rfl⟩) | (go_at_call 26; (with_reducible refine (HL.out _).mono ?_); rintro e w3 ⟨rfl, hb⟩; have hz := hb.size; (try simp only [szA, szS, szD, szN] at hz); (try (refine bcB (n := w.heap.size) hb ?_; intro h_w_0 e_w_0 d_w_0 _ _)); (try (refine bcB (n := wr.heap.size) hb ?_; intro h_wr_0 e_wr_0 d_wr_0 _ _)); (try (refine bcB (n := w2.heap.size) hb ?_; intro h_w2_0 e_w2_0 d_w2_0 _ _))))
        go_ret
        refine ⟨by rw [HV.out, HR.out]; rfl, hbw.trans (Below.mono ?_ (show w.heap.size ≤ wr.heap.size by omega))⟩
        (clear hbel hbw; exact belz)
      rw [hq3] at hl
      have HL := Lib.hid hl
      have HD := Lib.hid (zc1_d (p := prevZ l k) (c := ⟨t, o, lb⟩) hq1 hq2 hq3)
      clear hi hoc hl hq1 hq2 hq3
      go_upto_region 14 with (first | (go_at_call 22; (with_reducible refine (HI.out _).mono ?_); rintro e w2 ⟨rfl, hb⟩; have hz := hb.size; (try simp only [szA, szS, szD, szN] at hz); (try (refine bcB (n := w.heap.size) hb ?_; intro h_w_0 e_w_0 d_w_0 _ _)); (try (refine bcB (n := wr.heap.size) hb ?_; intro h_wr_0 e_wr_0 d_wr_0 _ _))) | (go_at_call 25; (refine (HOc.out _).mono ?_); rintro e w' ⟨rfl, rfl⟩) | (go_at_call 26; (with_reducible refine (HL.out _).mono ?_); rintro e w3 ⟨rfl, hb⟩; have hz := hb.size; (try simp only [szA, szS, szD, szN] at hz); (try (refine bcB (n := w.heap.size) hb ?_; intro h_w_0 e_w_0 d_w_0 _ _)); (try (refine bcB (n := wr.heap.size) hb ?_; intro h_wr_0 e_wr_0 d_wr_0 _ _)); (try (refine bcB (n := w2.heap.size) hb ?_; intro h_w2_0 e_w2_0 d_w2_0 _ _))))
      have hbr : Below wr.heap.size wr w3 := by (clear hbel hbw; exact belz)
      have hz3 := hbr.size
      have t0 : w3.cell? ⟨wr.heap.size, 0, none⟩ = some (.int .i64 t) := by go_simp
      have z3 := (hbr.cell (p := ⟨w.heap.size, 2, none⟩) (show w.heap.size < wr.heap.size by omega)).trans z2
      have HBr := Lib.hid hbr
      have hbw3 := hbw.trans (hbr.mono (show w.heap.size ≤ wr.heap.size by omega))
      have HBw3 := Lib.hid hbw3
      have hs3 : w.heap.size < w3.heap.size := by omega
      have hs4 : wr.heap.size < w3.heap.size := by assumption
      have HB13 := Lib.hid (hbel.trans (hbr.mono hzs))
      have hs13 : w1.heap.size ≤ w3.heap.size := by omega
      have hs03 : w.heap.size ≤ w3.heap.size := by omega
      clear hb hbr hbel
      by_cases hk0 : k = 0
      · have g0 : decide ((0 : Int) < (k : Int)) = false := decide_eq_false (by omega)
        have HG := Lib.hid (zl_go HZ.out (by rw [HD.out, hk0, prevZ_zero]))
        clear hbw
        go_quiet (fail)
        go_wp2_with fail
        go_roundg (l.length - (k + 1))
        case measure => omega
        case rel => exact ⟨k + 1, by omega, by go_num, HG.out, HB13.out.trans ((show Below w3.heap.size w3 _ from (by exact belz)).mono hs13)⟩
      · obtain ⟨m, hm⟩ : ∃ m, k = m + 1 := ⟨k - 1, by omega⟩
        have hml : m < l.length := by omega
        obtain ⟨b2, off2, ha2, hb2, yy, -, -⟩ := HS.out m hml
        have ix2 := @ix_Zc a b2 off2 l.length cap m ha2 hml
        clear ha2
        have d0 := (hbw3.cell (p := ⟨b2, off2 + m * 3, none⟩) hb2).trans yy
        have d1 := (hbw.cell (p := ⟨b2, off2 + m * 3, none⟩) hb2).trans yy
        have hb24 : b2 < wr.heap.size := by omega
        have hw4 : w.heap.size < wr.heap.size := by omega
        have hn4 : w.heap.size ≠ wr.heap.size := by omega
        have hn5 : b2 ≠ wr.heap.size := by omega
        have v3 : IntKind.i64.wrap (m : Int) = (m : Int) := IntWalk.i64_in _ (by omega)
        have hb23 : b2 < w3.heap.size := by omega
        have v2 : (k : Int) - 1 = (m : Int) := by omega
        have g0 : decide ((0 : Int) < (k : Int)) = true := decide_eq_true (by omega)
        have g00 : decide (0 < k) = true := decide_eq_true (by omega)
        have hkp : 0 < k := by omega
        have hpv : prevZ l k = some l[m].t := by rw [hm]; exact prevZ_succ l m hml
        have HPv := Lib.hid hpv
        have HM := Lib.hid hm
        clear hm hpv yy hbw3 hbw
        generalize l[m].t = u at *
        by_cases hq : t ≤ u
        · have g1 := decide_eq_true hq
          have HR := Lib.hid (show zlE none l = 9 from zl_bad HZ.out (by rw [HD.out, HPv.out]; exact if_pos hq) (by decide))
          go_quiet (fail)
          go_wp2_with fail
          go_ret
          exact ⟨by rw [HV.out, HR.out]; rfl, HBw3.out.trans ((show Below w3.heap.size w3 _ from (by exact belz)).mono hs03)⟩
        · have g1 := decide_eq_false hq
          have HG := Lib.hid (zl_go HZ.out (by rw [HD.out, HPv.out]; exact if_neg hq))
          go_quiet (fail)
          go_wp2_with fail
          go_roundg (l.length - (k + 1))
          case measure => omega
          case rel => exact ⟨k + 1, by omega, by go_num, HG.out, HB13.out.trans ((show Below w3.heap.size w3 _ from (by exact belz)).mono hs13)⟩
    · obtain rfl : k = l.length := by omega
      rw [zl_end] at hz
      have HZ := Lib.hid hz
      go_wp2_with fail
      go_ret
      exact ⟨by rw [HV.out, ← HZ.out]; rfl, hbw⟩
end
section
open Go.RowKit
/-- The row of a change. -/
def zrT (c : Zc) : List UInt8 := [97, 116, 32] ++ Go.Lib.itoa (c.t / 86400000) ++ [32] ++ Go.Lib.itoa (c.t % 86400000) ++ [32] ++ offT c.o ++ [32] ++ c.lb.data.toList ++ [10]
/-- The rows. -/
def zrsT : List Zc → List UInt8
  | [] => []
  | c :: l => zrT c ++ zrsT l
/-- The head. -/
def zhT (nm : ByteArray) (f : Int) : List UInt8 := [122, 111, 110, 101, 32] ++ nm.data.toList ++ [32] ++ offT f ++ [10]
/-- The text of a zone. -/
def zT (nm : ByteArray) (f : Int) (l : List Zc) : List UInt8 := zhT nm f ++ zrsT l
theorem zrsT_append (l m : List Zc) : zrsT (l ++ m) = zrsT l ++ zrsT m := by
  induction l with
  | nil => rfl
  | cons c l ih => simp only [List.cons_append, zrsT, ih, List.append_assoc]
theorem c_zPrint_bad (nm : ByteArray) (f : Int) (a : Option Addr) (cap : Nat) (l : List Zc) (w : World) (hsz : nm.size ≤ 9223372036854775807) (hc : l.length ≤ cap) (hs : ZcSlice w a l) (hwf : ∀ y ∈ l, (-9223372036854775808 ≤ y.t ∧ y.t ≤ 9223372036854775807) ∧ y.lb.size ≤ 9223372036854775807) (h : zE nm f l ≠ 0) :
    Calls Tryd.prog 4 #[.agg #[.string nm, .int .i64 f, .slice a l.length cap]] w fun e w' => e = .returned (.tuple #[.string ⟨#[]⟩, .int .i64 (zE nm f l)]) ∧ Below w.heap.size w w' := by
  have HC := Lib.hid (fun w1 (h1 : ZcSlice w1 a l) => c_zCheck nm f a cap l w1 hsz hc h1 hwf)
  generalize zE nm f l = x at *
  have g : (x == 0) = false := by simpa using h
  have g2 : (x != 0) = true := by simpa using h
  have HS := Lib.hid hs
  clear hs hwf
  have hgen := sgen; have hgen2 := sgen2; have hgen3 := sgen3; go_enter Tryd.func4, Tryd.ntmps4
  go_wp2_with (go_at_call 10; (with_reducible refine (HC.out _ (HS.out.below (Nat.le_refl _) (by exact belz))).mono ?_); rintro e w1 ⟨rfl, hb⟩; have hz := hb.size; (try simp only [szA, szS, szD, szN] at hz); (try (refine bcB (n := w.heap.size) hb ?_; intro h_w_0 e_w_0 d_w_0 _ _)); (try (refine bcB (n := w.heap.size + 1) hb ?_; intro h_w_1 e_w_1 d_w_1 _ _)))
  refine bodyPost_ret (v := .tuple #[.string ⟨#[]⟩, .int .i64 x]) (by simp only [results, Tryd.results4]; go_simp) rfl ⟨rfl, ?_⟩
  exact belz
end
section
theorem zc1_ok {p : Option Int} {c : Zc} (h : zc1 p c = 0) : instZ c.t = true ∧ offB c.o = true ∧ labB c.lb = true ∧ ∀ q, p = some q → q < c.t := by
  unfold zc1 at h
  split at h
  · omega
  · next h1 =>
    split at h
    · omega
    · next h2 =>
      refine ⟨by simpa using fun e => h1 (.inl e), by simpa using fun e => h1 (.inr e), by simpa using h2, ?_⟩
      rintro q rfl
      dsimp only at h
      split at h
      · omega
      · omega
theorem zlE_ok : ∀ (l : List Zc) (p : Option Int), zlE p l = 0 → (∀ c ∈ l, instZ c.t = true ∧ offB c.o = true ∧ labB c.lb = true) ∧ (∀ q, p = some q → ∀ c ∈ l, q < c.t) ∧ l.Pairwise (fun c d => c.t < d.t)
  | [], _, _ => ⟨by simp, by simp, .nil⟩
  | c :: l, p, h => by
    rw [zlE] at h
    have h1 : zc1 p c = 0 := by
      by_cases e : zc1 p c = 0
      · exact e
      · rw [if_pos e] at h; exact h
    rw [if_neg (fun e => e h1)] at h
    obtain ⟨a1, a2, a3, a4⟩ := zc1_ok h1
    obtain ⟨b1, b2, b3⟩ := zlE_ok l _ h
    have b4 := b2 _ rfl
    refine ⟨fun x hx => ?_, fun q hq x hx => ?_, .cons b4 b3⟩
    · rcases List.mem_cons.1 hx with rfl | hx
      · exact ⟨a1, a2, a3⟩
      · exact b1 x hx
    · rcases List.mem_cons.1 hx with rfl | hx
      · exact a4 q hq
      · exact Int.lt_trans (a4 q hq) (b4 x hx)
theorem zE_ok {nm : ByteArray} {f : Int} {l : List Zc} (h : zE nm f l = 0) : nameB nm = true ∧ offB f = true ∧ l.length ≤ 200 ∧ (∀ c ∈ l, instZ c.t = true ∧ offB c.o = true ∧ labB c.lb = true) ∧ l.Pairwise (fun c d => c.t < d.t) := by
  unfold zE at h
  split at h
  · omega
  · next h1 =>
    split at h
    · omega
    · next h2 =>
      split at h
      · omega
      · next h3 =>
        obtain ⟨b1, -, b3⟩ := zlE_ok l none h
        exact ⟨by simpa using h1, by simpa using h2, by omega, b1, b3⟩
/-- The number of changes at or ahead of an instant. -/
def zk (l : List Zc) (t : Int) : Nat := (l.filter fun c => decide (c.t ≤ t)).length
theorem zk_le (l : List Zc) (t : Int) : zk l t ≤ l.length := List.length_filter_le _ _
/-- The changes behind the place zk are later, those ahead of it are not. -/
theorem zk_at : ∀ (l : List Zc) (t : Int), l.Pairwise (fun c d => c.t < d.t) → ∀ i (hi : i < l.length), (l[i].t ≤ t ↔ i < zk l t)
  | [], _, _, i, hi => absurd hi (Nat.not_lt_zero i)
  | c :: l, t, hp, i, hi => by
    obtain ⟨h1, h2⟩ := List.pairwise_cons.1 hp
    by_cases hc : c.t ≤ t
    · have e : zk (c :: l) t = zk l t + 1 := by unfold zk; rw [List.filter_cons, if_pos (by simpa using hc)]; rfl
      rw [e]
      cases i with
      | zero => exact ⟨fun _ => by omega, fun _ => hc⟩
      | succ i =>
        have := zk_at l t h2 i (by simpa using hi)
        rw [List.getElem_cons_succ]
        omega
    · have e : zk (c :: l) t = 0 := by
        unfold zk
        rw [List.length_eq_zero_iff, List.filter_eq_nil_iff]
        intro x hx
        rcases List.mem_cons.1 hx with rfl | hx
        · simpa using hc
        · have := h1 x hx; simp; omega
      rw [e]
      cases i with
      | zero => exact ⟨fun h => absurd h hc, fun h => by omega⟩
      | succ i =>
        rw [List.getElem_cons_succ]
        have hi2 : i < l.length := by simpa using hi
        have := h1 l[i] (List.getElem_mem hi2)
        omega
end
section
open Go.RowKit
theorem zh_steps {X Y : List UInt8} (h1 : X.length ≤ 43) (h2 : Y.length ≤ 43) :
    (∀ w0, (Op.stringOp .add ⟨#[122, 111, 110, 101, 32]⟩ (strB X)).run Tryd.prog w0 = .ok (.string (strB ([122, 111, 110, 101, 32] ++ X))) w0) ∧
    (∀ w0, (Op.stringOp .add (strB ([122, 111, 110, 101, 32] ++ X)) ⟨#[32]⟩).run Tryd.prog w0 = .ok (.string (strB ([122, 111, 110, 101, 32] ++ X ++ [32]))) w0) ∧
    (∀ w0, (Op.stringOp .add (strB ([122, 111, 110, 101, 32] ++ X ++ [32])) (strB Y)).run Tryd.prog w0 = .ok (.string (strB ([122, 111, 110, 101, 32] ++ X ++ [32] ++ Y))) w0) ∧
    (∀ w0, (Op.stringOp .add (strB ([122, 111, 110, 101, 32] ++ X ++ [32] ++ Y)) ⟨#[10]⟩).run Tryd.prog w0 = .ok (.string (strB ([122, 111, 110, 101, 32] ++ X ++ [32] ++ Y ++ [10]))) w0) := by
  refine ⟨fun w0 => add_str [122, 111, 110, 101, 32] X ?_ w0, fun w0 => add_str _ [32] ?_ w0, fun w0 => add_str _ _ ?_ w0, fun w0 => add_str _ [10] ?_ w0⟩ <;> (simp; omega)
theorem zr_steps {A B C D : List UInt8} (h1 : A.length ≤ 43) (h2 : B.length ≤ 43) (h3 : C.length ≤ 43) (h4 : D.length ≤ 43) :
    (∀ w0, (Op.stringOp .add ⟨#[97, 116, 32]⟩ (strB A)).run Tryd.prog w0 = .ok (.string (strB ([97, 116, 32] ++ A))) w0) ∧
    (∀ w0, (Op.stringOp .add (strB ([97, 116, 32] ++ A)) ⟨#[32]⟩).run Tryd.prog w0 = .ok (.string (strB ([97, 116, 32] ++ A ++ [32]))) w0) ∧
    (∀ w0, (Op.stringOp .add (strB ([97, 116, 32] ++ A ++ [32])) (strB B)).run Tryd.prog w0 = .ok (.string (strB ([97, 116, 32] ++ A ++ [32] ++ B))) w0) ∧
    (∀ w0, (Op.stringOp .add (strB ([97, 116, 32] ++ A ++ [32] ++ B)) ⟨#[32]⟩).run Tryd.prog w0 = .ok (.string (strB ([97, 116, 32] ++ A ++ [32] ++ B ++ [32]))) w0) ∧
    (∀ w0, (Op.stringOp .add (strB ([97, 116, 32] ++ A ++ [32] ++ B ++ [32])) (strB C)).run Tryd.prog w0 = .ok (.string (strB ([97, 116, 32] ++ A ++ [32] ++ B ++ [32] ++ C))) w0) ∧
    (∀ w0, (Op.stringOp .add (strB ([97, 116, 32] ++ A ++ [32] ++ B ++ [32] ++ C)) ⟨#[32]⟩).run Tryd.prog w0 = .ok (.string (strB ([97, 116, 32] ++ A ++ [32] ++ B ++ [32] ++ C ++ [32]))) w0) ∧
    (∀ w0, (Op.stringOp .add (strB ([97, 116, 32] ++ A ++ [32] ++ B ++ [32] ++ C ++ [32])) (strB D)).run Tryd.prog w0 = .ok (.string (strB ([97, 116, 32] ++ A ++ [32] ++ B ++ [32] ++ C ++ [32] ++ D))) w0) ∧
    (∀ w0, (Op.stringOp .add (strB ([97, 116, 32] ++ A ++ [32] ++ B ++ [32] ++ C ++ [32] ++ D)) ⟨#[10]⟩).run Tryd.prog w0 = .ok (.string (strB ([97, 116, 32] ++ A ++ [32] ++ B ++ [32] ++ C ++ [32] ++ D ++ [10]))) w0) := by
  refine ⟨fun w0 => add_str [97, 116, 32] A ?_ w0, fun w0 => add_str _ [32] ?_ w0, fun w0 => add_str _ _ ?_ w0, fun w0 => add_str _ [32] ?_ w0, fun w0 => add_str _ _ ?_ w0, fun w0 => add_str _ [32] ?_ w0, fun w0 => add_str _ _ ?_ w0, fun w0 => add_str _ [10] ?_ w0⟩ <;> (simp; omega)
theorem lab_le {T : ByteArray} (h : labB T = true) : T.data.toList.length ≤ 6 := by
  unfold labB at h
  simp only [Bool.and_eq_true, decide_eq_true_eq] at h
  simpa using h.2.2
theorem name_le {T : ByteArray} (h : nameB T = true) : T.data.toList.length ≤ 12 := by
  unfold nameB at h
  split at h
  · cases h
  · next h1 =>
    have : ¬ 12 < T.size := fun e => h1 (.inr (.inl e))
    simpa using this
theorem off_le {n : Int} (h : offB n = true) : -64800000 ≤ n ∧ n ≤ 64800000 := by
  unfold offB at h
  simp only [Bool.and_eq_true, decide_eq_true_eq] at h
  exact h.2
end
section
theorem two_atoi (n : Nat) (h : n < 100) : Go.Lib.atoiAll (two n) = .ok (n : Int) := by
  have : ∀ n : Fin 100, (match Go.Lib.atoiAll (two n.val) with | .ok v => v == (n.val : Int) | _ => false) = true := by decide +kernel
  have h2 := this ⟨n, h⟩
  dsimp only at h2
  split at h2
  · next v hv => rw [hv, beq_iff_eq.1 h2]
  · cases h2
theorem two_chars (n : Nat) (h : n < 100) : ∀ c ∈ two n, c ≠ 32 ∧ c ≠ 10 := by
  have : ∀ n : Fin 100, ((two n.val).all fun c => c != 32 && c != 10) = true := by decide +kernel
  intro c hc
  have h2 := List.all_eq_true.1 (this ⟨n, h⟩) c hc
  simpa using h2
theorem offT_chars {n : Int} (h0 : -64800000 ≤ n) (h1 : n ≤ 64800000) : ∀ c ∈ offT n, c ≠ 32 ∧ c ≠ 10 := by
  intro c hc
  unfold offT at hc
  simp only [List.mem_append] at hc
  rcases hc with ((((hc | hc) | hc) | hc) | hc) | hc
  · split at hc <;> (simp at hc; subst hc; decide)
  · exact two_chars _ (by omega) c hc
  · simp at hc; subst hc; decide
  · exact two_chars _ (by omega) c hc
  · simp at hc; subst hc; decide
  · exact two_chars _ (by omega) c hc
theorem lab_chars {T : ByteArray} (h : labB T = true) : ∀ c ∈ T.data.toList, c ≠ 32 ∧ c ≠ 10 := by
  unfold labB at h
  simp only [Bool.and_eq_true] at h
  intro c hc
  have h2 := List.all_eq_true.1 h.1 c hc
  constructor <;> (rintro rfl; revert h2; decide)
theorem name_chars {T : ByteArray} (h : nameB T = true) : ∀ c ∈ T.data.toList, c ≠ 32 ∧ c ≠ 10 := by
  unfold nameB at h
  split at h
  · cases h
  · intro c hc
    have h2 := List.all_eq_true.1 h c hc
    constructor <;> (rintro rfl; revert h2; decide)
/-- The row of a change without its end. -/
def zlT (c : Zc) : List UInt8 := [97, 116] ++ 32 :: (Go.Lib.itoa (c.t / 86400000) ++ 32 :: (Go.Lib.itoa (c.t % 86400000) ++ 32 :: (offT c.o ++ 32 :: c.lb.data.toList)))
/-- The head without its end. -/
def zhL (nm : ByteArray) (f : Int) : List UInt8 := [122, 111, 110, 101] ++ 32 :: (nm.data.toList ++ 32 :: offT f)
theorem zrT_eq (c : Zc) (r : List UInt8) : zrT c ++ r = zlT c ++ 10 :: r := by simp [zrT, zlT]
theorem zhT_eq (nm : ByteArray) (f : Int) (r : List UInt8) : zhT nm f ++ r = zhL nm f ++ 10 :: r := by simp [zhT, zhL]
/-- A change that zone.Check takes. -/
def zcOk (c : Zc) : Prop := instZ c.t = true ∧ offB c.o = true ∧ labB c.lb = true
theorem inst_le {t : Int} (h : instZ t = true) : -345600000000000 ≤ t ∧ t < 345600086400000 := by
  unfold instZ at h
  simpa using h
theorem spl_zl {c : Zc} (h : zcOk c) : spl (zlT c) = [[97, 116], Go.Lib.itoa (c.t / 86400000), Go.Lib.itoa (c.t % 86400000), offT c.o, c.lb.data.toList] := by
  obtain ⟨h1, h2, h3⟩ := h
  obtain ⟨f1, f2⟩ := off_le h2
  unfold zlT
  rw [spl_hit _ _ (by decide), spl_hit _ _ (fun x hx => (itoa_chars _ x hx).1), spl_hit _ _ (fun x hx => (itoa_chars _ x hx).1), spl_hit _ _ (fun x hx => (offT_chars f1 f2 x hx).1), spl_miss _ (fun x hx => (lab_chars h3 x hx).1)]
theorem spl_zh {nm : ByteArray} {f : Int} (h1 : nameB nm = true) (h2 : offB f = true) : spl (zhL nm f) = [[122, 111, 110, 101], nm.data.toList, offT f] := by
  obtain ⟨f1, f2⟩ := off_le h2
  unfold zhL
  rw [spl_hit _ _ (by decide), spl_hit _ _ (fun x hx => (name_chars h1 x hx).1), spl_miss _ (fun x hx => (offT_chars f1 f2 x hx).1)]
theorem zl_no10 {c : Zc} (h : zcOk c) : ∀ x ∈ zlT c, x ≠ 10 := by
  obtain ⟨h1, h2, h3⟩ := h
  obtain ⟨f1, f2⟩ := off_le h2
  intro x hx
  unfold zlT at hx
  simp only [List.mem_append, List.mem_cons] at hx
  rcases hx with hx | hx | hx | hx | hx | hx | hx | hx | hx
  · revert hx; simp; rintro (rfl | rfl) <;> decide
  · subst hx; decide
  · exact (itoa_chars _ x hx).2.2
  · subst hx; decide
  · exact (itoa_chars _ x hx).2.2
  · subst hx; decide
  · exact (offT_chars f1 f2 x hx).2
  · subst hx; decide
  · exact (lab_chars h3 x hx).2
theorem zh_no10 {nm : ByteArray} {f : Int} (h1 : nameB nm = true) (h2 : offB f = true) : ∀ x ∈ zhL nm f, x ≠ 10 := by
  obtain ⟨f1, f2⟩ := off_le h2
  intro x hx
  unfold zhL at hx
  simp only [List.mem_append, List.mem_cons] at hx
  rcases hx with hx | hx | hx | hx | hx
  · revert hx; simp; rintro (rfl | rfl | rfl | rfl) <;> decide
  · subst hx; decide
  · exact (name_chars h1 x hx).2
  · subst hx; decide
  · exact (offT_chars f1 f2 x hx).2
theorem cut_zr {c : Zc} (h : zcOk c) (r : List UInt8) : Go.Lib.cut (zrT c ++ r) [10] = (zlT c, r, true) := by
  rw [zrT_eq]; exact cutb_hit 10 _ _ (zl_no10 h)
theorem cut_zh {nm : ByteArray} {f : Int} (h1 : nameB nm = true) (h2 : offB f = true) (r : List UInt8) : Go.Lib.cut (zhT nm f ++ r) [10] = (zhL nm f, r, true) := by
  rw [zhT_eq]; exact cutb_hit 10 _ _ (zh_no10 h1 h2)
theorem zl_len {c : Zc} (h : zcOk c) : (zlT c).length ≤ 64 := by
  obtain ⟨h1, h2, h3⟩ := h
  obtain ⟨i1, i2⟩ := inst_le h1
  have a1 := Go.Lib.itoa_length_le (c.t / 86400000) (by omega) (by omega)
  have a2 := Go.Lib.itoa_length_le (c.t % 86400000) (by omega) (by omega)
  have a3 := lab_le h3
  have a4 := offT_len c.o
  unfold zlT
  simp only [List.length_append, List.length_cons, List.length_nil, a4]
  omega
theorem zrs_len : ∀ {l : List Zc}, (∀ c ∈ l, zcOk c) → (zrsT l).length ≤ 65 * l.length
  | [], _ => by simp [zrsT]
  | c :: l, h => by
    have a := zl_len (h c (by simp))
    have b := zrs_len (l := l) (fun x hx => h x (by simp [hx]))
    have e := zrT_eq c (zrsT l)
    rw [zrsT, e]
    simp only [List.length_append, List.length_cons]
    omega
theorem zh_len {nm : ByteArray} {f : Int} (h1 : nameB nm = true) : (zhT nm f).length ≤ 40 := by
  have := name_le h1
  simp [zhT, offT_len]
  simp at this
  omega
theorem zrs_drop {l : List Zc} {k : Nat} (h : k < l.length) : zrsT (l.drop k) = zrT l[k] ++ zrsT (l.drop (k + 1)) := by
  rw [List.drop_eq_getElem_cons h, zrsT]
theorem ext9 (s a b g c d h e f : UInt8) : ((strB [s, a, b, g, c, d, h, e, f]).extract 1 3).data.toList = [a, b] ∧ ((strB [s, a, b, g, c, d, h, e, f]).extract 4 6).data.toList = [c, d] ∧ ((strB [s, a, b, g, c, d, h, e, f]).extract 7 9).data.toList = [e, f] := by
  refine ⟨?_, ?_, ?_⟩ <;> (rw [ByteArray.data_extract, Array.toList_extract]; rfl)
theorem offT_eq (n : Int) (s : UInt8) (hs : (if n < 0 then [45] else [43] : List UInt8) = [s]) (x y z : Nat) (hx : n.natAbs / 1000 / 3600 = x) (hy : n.natAbs / 1000 / 60 % 60 = y) (hz : n.natAbs / 1000 % 60 = z) :
    offT n = [s, UInt8.ofNat (48 + x / 10), UInt8.ofNat (48 + x % 10), 58, UInt8.ofNat (48 + y / 10), UInt8.ofNat (48 + y % 10), 58, UInt8.ofNat (48 + z / 10), UInt8.ofNat (48 + z % 10)] := by
  unfold offT
  rw [hs, hx, hy, hz]
  rfl
/-- The three numbers of an offset's text. -/
theorem off_parts (n : Int) (x y z : Nat) (hx : n.natAbs / 1000 / 3600 = x) (hy : n.natAbs / 1000 / 60 % 60 = y) (hz : n.natAbs / 1000 % 60 = z) : ((strB (offT n)).extract 1 3).data.toList = two x ∧ ((strB (offT n)).extract 4 6).data.toList = two y ∧ ((strB (offT n)).extract 7 9).data.toList = two z := by
  by_cases h : n < 0
  · rw [offT_eq n 45 (if_pos h) x y z hx hy hz]
    exact ext9 _ _ _ _ _ _ _ _ _
  · rw [offT_eq n 43 (if_neg h) x y z hx hy hz]
    exact ext9 _ _ _ _ _ _ _ _ _
theorem off_sign (n : Int) : (strB (offT n)).data.toList[0]? = some (if n < 0 then 45 else 43) := by
  rw [strB_l]
  unfold offT
  split <;> rfl
end
section
/-- The offset behind k changes. -/
def ofZ (f : Int) (l : List Zc) (k : Nat) : Int := if k = 0 then f else ((l[k - 1]?).map Zc.o).getD 0
def lbZ (l : List Zc) (k : Nat) : ByteArray := if k = 0 then ⟨#[]⟩ else ((l[k - 1]?).map Zc.lb).getD ⟨#[]⟩
theorem ofZ_zero (f : Int) (l : List Zc) : ofZ f l 0 = f := if_pos rfl
theorem ofZ_succ (f : Int) (l : List Zc) (k : Nat) (h : k < l.length) : ofZ f l (k + 1) = l[k].o := by unfold ofZ; rw [if_neg (by omega)]; simp [h]
theorem lbZ_zero (l : List Zc) : lbZ l 0 = ⟨#[]⟩ := if_pos rfl
theorem lbZ_succ (l : List Zc) (k : Nat) (h : k < l.length) : lbZ l (k + 1) = l[k].lb := by unfold lbZ; rw [if_neg (by omega)]; simp [h]
/-- Whether an instant lies behind k changes. -/
def prB (p : Option Int) (u : Int) : Bool := match p with
  | none => true
  | some q => decide (q ≤ u)
def nxB (p : Option Zc) (u : Int) : Bool := match p with
  | none => true
  | some c => decide (u < c.t)
def hereZ (l : List Zc) (k : Nat) (u : Int) : Bool := prB (prevZ l k) u && nxB l[k]? u
def candZ (f : Int) (l : List Zc) (loc : Int) (k : Nat) : Bool := instZ (loc - ofZ f l k) && hereZ l k (loc - ofZ f l k)
/-- What zone.Instants answers, of the first n places. -/
def zI (f : Int) (l : List Zc) (loc : Int) : Nat → List Int
  | 0 => []
  | n + 1 => if candZ f l loc n = true then zI f l loc n ++ [loc - ofZ f l n] else zI f l loc n
theorem zI_mem (f : Int) (l : List Zc) (loc : Int) (k : Nat) (h : candZ f l loc k = true) : ∀ n, k < n → loc - ofZ f l k ∈ zI f l loc n
  | 0, hk => absurd hk (Nat.not_lt_zero k)
  | n + 1, hk => by
    rw [zI]
    by_cases e : k = n
    · subst e; rw [if_pos h]; simp
    · have := zI_mem f l loc k h n (by omega)
      split
      · simp [this]
      · exact this
theorem zI_len (f : Int) (l : List Zc) (loc : Int) : ∀ n, (zI f l loc n).length ≤ n
  | 0 => Nat.le_refl _
  | n + 1 => by
    rw [zI]
    have := zI_len f l loc n
    split
    · simp; omega
    · omega
theorem here_zk (l : List Zc) (t : Int) (hp : l.Pairwise (fun c d => c.t < d.t)) : hereZ l (zk l t) t = true := by
  have hle := zk_le l t
  unfold hereZ
  rw [Bool.and_eq_true]
  unfold prB nxB
  constructor
  · split
    · rfl
    · next q hq =>
      unfold prevZ at hq
      split at hq
      · cases hq
      · next h0 =>
        have hk : zk l t - 1 < l.length := by omega
        rw [List.getElem?_eq_getElem hk] at hq
        injection hq with hq
        subst hq
        exact decide_eq_true ((zk_at l t hp _ hk).2 (by omega))
  · split
    · rfl
    · next c hc =>
      obtain ⟨hk, rfl⟩ := List.getElem?_eq_some_iff.1 hc
      have := zk_at l t hp _ hk
      exact decide_eq_true (by omega)
/-- An instant is among those with its local time. -/
theorem zI_self (f : Int) (l : List Zc) (t loc : Int) (hp : l.Pairwise (fun c d => c.t < d.t)) (ht : instZ t = true) (hl : loc = t + ofZ f l (zk l t)) : t ∈ zI f l loc (l.length + 1) := by
  have e : loc - ofZ f l (zk l t) = t := by omega
  have h : candZ f l loc (zk l t) = true := by unfold candZ; rw [e, ht, here_zk l t hp]; rfl
  have := zI_mem f l loc (zk l t) h (l.length + 1) (by have := zk_le l t; omega)
  rwa [e] at this
theorem one_mem {t : Int} {L : List Int} (h : t ∈ L) (h1 : L.length = 1) : L = [t] := by
  match L, h1 with
  | [x], _ => simp at h; rw [h]
end
end Go.Proofs.YtapmdkinneehjaaDoor
