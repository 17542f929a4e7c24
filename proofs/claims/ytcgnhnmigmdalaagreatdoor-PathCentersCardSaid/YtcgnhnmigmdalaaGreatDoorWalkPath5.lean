/- The walk of path.Center where the shadow falls. -/
import Derived.Test.YtcgnhnmigmdalaaGreatDoorPhB
set_option linter.unusedVariables false
set_option linter.unusedSimpArgs false
set_option maxRecDepth 100000
namespace Go.Proofs.YtcgnhnmigmdalaaGreatDoor
open Go.RowKit
structure PaB (t xl xh yl yh sma smb za zb la lb sa sb ca cb ma mb na nb va vb oa ob pa pb fa fb ra rb ta tb ga gb ia ib ja jb ka kb aa ab er da db ea eb wa wb : Int) : Prop where
  rt : ∀ w1, Calls Tryz.prog 58 #[.agg #[.int .i64 (1000000000 - smb), .int .i64 (1000000000 - sma)]] w1 fun e w' => e = .returned (.agg #[.int .i64 za, .int .i64 zb]) ∧ Below w1.heap.size w1 w'
  lo : ∀ w1, Tab w1 → Calls Tryz.prog 46 #[.int .i64 t] w1 fun e w' => e = .returned (.tuple #[.agg #[.int .i64 la, .int .i64 lb], .int .i64 0]) ∧ Below w1.heap.size w1 w'
  si : ∀ w1, Tab w1 → Calls Tryz.prog 59 #[.agg #[.int .i64 la, .int .i64 lb]] w1 fun e w' => e = .returned (.tuple #[.agg #[.int .i64 sa, .int .i64 sb], .int .i64 0]) ∧ Below w1.heap.size w1 w'
  co : ∀ w1, Tab w1 → Calls Tryz.prog 60 #[.agg #[.int .i64 la, .int .i64 lb]] w1 fun e w' => e = .returned (.tuple #[.agg #[.int .i64 ca, .int .i64 cb], .int .i64 0]) ∧ Below w1.heap.size w1 w'
  tm : ∀ w1, Calls Tryz.prog 62 #[.agg #[.int .i64 za, .int .i64 zb], .agg #[.int .i64 sa, .int .i64 sb]] w1 fun e w' => e = .returned (.agg #[.int .i64 ma, .int .i64 mb]) ∧ Below w1.heap.size w1 w'
  tn : ∀ w1, Calls Tryz.prog 62 #[.agg #[.int .i64 xl, .int .i64 xh], .agg #[.int .i64 ca, .int .i64 cb]] w1 fun e w' => e = .returned (.agg #[.int .i64 na, .int .i64 nb]) ∧ Below w1.heap.size w1 w'
  pv : ∀ w1, Calls Tryz.prog 56 #[.agg #[.int .i64 ma, .int .i64 mb], .agg #[.int .i64 na, .int .i64 nb]] w1 fun e w' => e = .returned (.agg #[.int .i64 va, .int .i64 vb]) ∧ Below w1.heap.size w1 w'
  tz : ∀ w1, Calls Tryz.prog 62 #[.agg #[.int .i64 za, .int .i64 zb], .agg #[.int .i64 ca, .int .i64 cb]] w1 fun e w' => e = .returned (.agg #[.int .i64 oa, .int .i64 ob]) ∧ Below w1.heap.size w1 w'
  tp : ∀ w1, Calls Tryz.prog 62 #[.agg #[.int .i64 xl, .int .i64 xh], .agg #[.int .i64 sa, .int .i64 sb]] w1 fun e w' => e = .returned (.agg #[.int .i64 pa, .int .i64 pb]) ∧ Below w1.heap.size w1 w'
  mf : ∀ w1, Calls Tryz.prog 63 #[.agg #[.int .i64 oa, .int .i64 ob], .agg #[.int .i64 pa, .int .i64 pb]] w1 fun e w' => e = .returned (.agg #[.int .i64 fa, .int .i64 fb]) ∧ Below w1.heap.size w1 w'
  tr : ∀ w1, Calls Tryz.prog 62 #[.agg #[.int .i64 va, .int .i64 vb], .agg #[.int .i64 917482416, .int .i64 917482417]] w1 fun e w' => e = .returned (.agg #[.int .i64 ra, .int .i64 rb]) ∧ Below w1.heap.size w1 w'
  tt : ∀ w1, Calls Tryz.prog 62 #[.agg #[.int .i64 yl, .int .i64 yh], .agg #[.int .i64 397776337, .int .i64 397776338]] w1 fun e w' => e = .returned (.agg #[.int .i64 ta, .int .i64 tb]) ∧ Below w1.heap.size w1 w'
  mg : ∀ w1, Calls Tryz.prog 63 #[.agg #[.int .i64 ra, .int .i64 rb], .agg #[.int .i64 ta, .int .i64 tb]] w1 fun e w' => e = .returned (.agg #[.int .i64 ga, .int .i64 gb]) ∧ Below w1.heap.size w1 w'
  ti : ∀ w1, Calls Tryz.prog 62 #[.agg #[.int .i64 va, .int .i64 vb], .agg #[.int .i64 397776337, .int .i64 397776338]] w1 fun e w' => e = .returned (.agg #[.int .i64 ia, .int .i64 ib]) ∧ Below w1.heap.size w1 w'
  tj : ∀ w1, Calls Tryz.prog 62 #[.agg #[.int .i64 yl, .int .i64 yh], .agg #[.int .i64 917482416, .int .i64 917482417]] w1 fun e w' => e = .returned (.agg #[.int .i64 ja, .int .i64 jb]) ∧ Below w1.heap.size w1 w'
  pk : ∀ w1, Calls Tryz.prog 56 #[.agg #[.int .i64 ia, .int .i64 ib], .agg #[.int .i64 ja, .int .i64 jb]] w1 fun e w' => e = .returned (.agg #[.int .i64 ka, .int .i64 kb]) ∧ Below w1.heap.size w1 w'
  ac : ∀ w1, Calls Tryz.prog 52 #[.agg #[.int .i64 ga, .int .i64 gb], .agg #[.int .i64 fa, .int .i64 fb]] w1 fun e w' => e = .returned (.tuple #[.agg #[.int .i64 aa, .int .i64 ab], .int .i64 er]) ∧ Below w1.heap.size w1 w'
  asn : ∀ w1, Calls Tryz.prog 51 #[.agg #[.int .i64 ka, .int .i64 kb]] w1 fun e w' => e = .returned (.tuple #[.agg #[.int .i64 da, .int .i64 db], .int .i64 0]) ∧ Below w1.heap.size w1 w'
  sd : ∀ w1, Tab w1 → Calls Tryz.prog 44 #[.agg #[.int .i64 0, .int .i64 0], .int .i64 t] w1 fun e w' => e = .returned (.tuple #[.agg #[.int .i64 ea, .int .i64 eb], .int .i64 0]) ∧ Below w1.heap.size w1 w'
  le : ∀ w1, Calls Tryz.prog 64 #[.agg #[.int .i64 aa, .int .i64 ab], .agg #[.int .i64 ea, .int .i64 eb]] w1 fun e w' => e = .returned (.agg #[.int .i64 wa, .int .i64 wb]) ∧ Below w1.heap.size w1 w'
/-- What is known behind region 15. -/
structure PaW (w0 w : World) (br b4 b5 b7 b10 b12 b14 b15 : Nat) (xl xh yl yh za zb sa sb ca cb : Int) : Prop where
  m4 : SpAt w b4 xl xh
  m5 : SpAt w b5 yl yh
  m7 : SpAt w b7 za zb
  m10 : SpAt w b10 sa sb
  m12 : SpAt w b12 ca cb
  m14 : SpAt w b14 397776337 397776338
  m15 : SpAt w b15 917482416 917482417
  mr : PpAt w br 0 0 0 0 0
  hb : Below w0.heap.size w0 w
theorem PaW.below {w0 w w' : World} {br b4 b5 b7 b10 b12 b14 b15 : Nat} {xl xh yl yh za zb sa sb ca cb : Int} (h : PaW w0 w br b4 b5 b7 b10 b12 b14 b15 xl xh yl yh za zb sa sb ca cb) (hb : Below w.heap.size w w') (hs : w0.heap.size ≤ w.heap.size) : PaW w0 w' br b4 b5 b7 b10 b12 b14 b15 xl xh yl yh za zb sa sb ca cb :=
  ⟨h.m4.below hb, h.m5.below hb, h.m7.below hb, h.m10.below hb, h.m12.below hb, h.m14.below hb, h.m15.below hb, h.mr.below hb, Below.call h.hb hs hb⟩
set_option maxHeartbeats 16000000 in
theorem c_Ctr_main {t xl xh yl yh xa xb ya yb sma smb za zb la lb sa sb ca cb ma mb na nb va vb oa ob pa pb fa fb ra rb ta tb ga gb ia ib ja jb ka kb aa ab er da db ea eb wa wb x r0 r1 r2 r3 r4 : Int} (w : World) (hN : PaA t xl xh yl yh xa xb ya yb sma smb) (hM : PaB t xl xh yl yh sma smb za zb la lb sa sb ca cb ma mb na nb va vb oa ob pa pb fa fb ra rb ta tb ga gb ia ib ja jb ka kb aa ab er da db ea eb wa wb) (hT : Tab w) (n1 : xl ≤ 2000000000) (n2 : -2000000000 ≤ xh) (n3 : yl ≤ 2000000000) (n4 : -2000000000 ≤ yh) (s0 : 0 ≤ sma) (s1 : sma ≤ 1000000000) (s2 : smb ≤ 1000000000) (s3 : 0 ≤ smb)
    (h : (er = 11 ∧ x = 11 ∧ r0 = 0 ∧ r1 = 0 ∧ r2 = 0 ∧ r3 = 0 ∧ r4 = 0) ∨ (er = 0 ∧ x = 0 ∧ t = r0 ∧ wa = r1 ∧ wb = r2 ∧ da = r3 ∧ db = r4)) :
    Calls Tryz.prog 24 #[.int .i64 t] w fun e w' => e = .returned (.tuple #[.agg #[.int .i64 r0, .int .i64 r1, .int .i64 r2, .int .i64 r3, .int .i64 r4], .int .i64 x]) ∧ Below w.heap.size w w' := by
  have HN := Lib.hid hN
  have HM := Lib.hid hM
  have HT := Lib.hid hT
  have HH := Lib.hid h
  have d1 : decide (xl > 2000000000) = false := decide_eq_false (by omega)
  have d2 : decide (xh < -2000000000) = false := decide_eq_false (by omega)
  have d3 : decide (yl > 2000000000) = false := decide_eq_false (by omega)
  have d4 : decide (yh < -2000000000) = false := decide_eq_false (by omega)
  have v1 : IntKind.i64.wrap (1000000000 - smb) = 1000000000 - smb := IntWalk.i64_in _ (by omega)
  have v2 : IntKind.i64.wrap (1000000000 - sma) = 1000000000 - sma := IntWalk.i64_in _ (by omega)
  have d5 : decide (sma > 1000000000) = false := decide_eq_false (by omega)
  have d6 : decide (smb > 1000000000) = false := decide_eq_false (by omega)
  clear hN hM hT h n1 n2 n3 n4 s0 s1 s2 s3
  have hgen := sgen; have hgen2 := sgen2; have hgen3 := sgen3; go_enter Tryz.func24, Tryz.ntmps24
  go_upto_region 3 with (go_at_call 54; (with_reducible refine (HN.out.it _).mono ?_); rintro e w1 ⟨rfl, hb⟩; have hz := hb.size; (try simp only [szA, szS, szD, szN] at hz); (try (refine bcB (n := w.heap.size) hb ?_; intro h_w_0 e_w_0 d_w_0 _ _)))
  go_cut [4, 5] (fun s4 s5 wc => ∃ b4 b5 : Nat, s4 = .pointer (some ⟨b4, 0, none⟩) ∧ s5 = .pointer (some ⟨b5, 0, none⟩) ∧ SpAt wc b4 xl xh ∧ SpAt wc b5 yl yh ∧ PpAt wc w.heap.size 0 0 0 0 0 ∧ Below w.heap.size w wc)
  case first =>
    go_wp2_with (go_at_call 55; (with_reducible refine (HN.out.off _ (HT.out.below (by exact belz))).mono ?_); rintro e w2 ⟨rfl, hb⟩; have hz := hb.size; (try simp only [szA, szS, szD, szN] at hz); (try (refine bcB (n := w.heap.size) hb ?_; intro h_w_0 e_w_0 d_w_0 _ _)); (try (refine bcB (n := w1.heap.size) hb ?_; intro h_w1_0 e_w1_0 d_w1_0 _ _)))
    go_meet
    case rel =>
      refine ⟨w2.heap.size, w2.heap.size + 1, by go_simp, by go_simp, ?_, ?_, ?_, ?_⟩
      all_goals first | (constructor <;> go_simp; done) | exact belz
  case rest =>
    obtain ⟨b4, b5, rfl, rfl, m4, m5, mr, hbc⟩ := hcut
    have hsz := hbc.size
    have ⟨l4, c40, c41, f40, f41⟩ := m4
    have ⟨l5, c50, c51, f50, f51⟩ := m5
    obtain ⟨wd, rfl⟩ : ∃ wd : World, wd = wc := ⟨_, rfl⟩
    go_upto_region 6 with fail
    clear d1 d2 d3 d4
    go_cut [6] (fun s wc => ∃ b6 : Nat, s = .pointer (some ⟨b6, 0, none⟩) ∧ SpAt wc b6 sma smb ∧ Below wd.heap.size wd wc)
    case first =>
      go_region_held3 (fun w' => w'.cell? ⟨b4, 0, none⟩ = some (.int .i64 xl) ∧ w'.cell? ⟨b4, 1, none⟩ = some (.int .i64 xh) ∧ w'.cell? ⟨b5, 0, none⟩ = some (.int .i64 yl) ∧ w'.cell? ⟨b5, 1, none⟩ = some (.int .i64 yh)) (refine ⟨?_, ?_, ?_, ?_⟩ <;> (first | (go_simp; done) | go_keep)) (first | (go_at_call 57; (with_reducible refine (HN.out.sx _).mono ?_); rintro e w3 ⟨rfl, hb⟩; have hz := hb.size; (try simp only [szA, szS, szD, szN] at hz); (try (refine bcB (n := b4) hb ?_; intro h_bb4_0 e_bb4_0 d_bb4_0 _ _)); (try (refine bcB (n := b5) hb ?_; intro h_bb5_0 e_bb5_0 d_bb5_0 _ _)); (try (refine bcB (n := wd.heap.size) hb ?_; intro h_wd_0 e_wd_0 d_wd_0 _ _))) | (go_at_call 57; (with_reducible refine (HN.out.sy _).mono ?_); rintro e w4 ⟨rfl, hb⟩; have hz := hb.size; (try simp only [szA, szS, szD, szN] at hz); (try (refine bcB (n := b4) hb ?_; intro h_bb4_0 e_bb4_0 d_bb4_0 _ _)); (try (refine bcB (n := b5) hb ?_; intro h_bb5_0 e_bb5_0 d_bb5_0 _ _)); (try (refine bcB (n := wd.heap.size) hb ?_; intro h_wd_0 e_wd_0 d_wd_0 _ _)); (try (refine bcB (n := w3.heap.size) hb ?_; intro h_w3_0 e_w3_0 d_w3_0 _ _))) | (go_at_call 56; (with_reducible refine (HN.out.pl _).mono ?_); rintro e w5 ⟨rfl, hb⟩; have hz := hb.size; (try simp only [szA, szS, szD, szN] at hz); (try (refine bcB (n := b4) hb ?_; intro h_bb4_0 e_bb4_0 d_bb4_0 _ _)); (try (refine bcB (n := b5) hb ?_; intro h_bb5_0 e_bb5_0 d_bb5_0 _ _)); (try (refine bcB (n := wd.heap.size) hb ?_; intro h_wd_0 e_wd_0 d_wd_0 _ _)); (try (refine bcB (n := w3.heap.size) hb ?_; intro h_w3_0 e_w3_0 d_w3_0 _ _)); (try (refine bcB (n := w4.heap.size) hb ?_; intro h_w4_0 e_w4_0 d_w4_0 _ _))))
      all_goals (go_step; apply_assumption; refine Met.intro ?_; apply_assumption; (repeat apply Exists.intro); refine ⟨?_, rfl⟩; (refine ⟨_, rfl, ?_, ?_⟩ <;> first | (constructor <;> go_simp; done) | exact belz))
    case rest =>
      obtain ⟨b6, rfl, m6, hbd⟩ := hcut
      have hM : PpAt wc w.heap.size 0 0 0 0 0 ∧ SpAt wc b4 xl xh ∧ SpAt wc b5 yl yh ∧ Below w.heap.size w wc := ⟨mr.below hbd, m4.below hbd, m5.below hbd, Below.call hbc (by omega) hbd⟩
      have hsd := hbd.size
      clear m4 m5 mr hbc hbd c40 c41 f40 f41 c50 c51 f50 f51 l4 l5
      obtain ⟨mr, m4, m5, hbc⟩ := hM
      have ⟨l0, x0, x1, x2, x3, x4, y0, y1, y2, y3, y4⟩ := mr
      have ⟨l4, c40, c41, f40, f41⟩ := m4
      have ⟨l5, c50, c51, f50, f51⟩ := m5
      obtain ⟨l6, c60, c61, f60, f61⟩ := m6
      clear mr m4 m5
      obtain ⟨we, rfl⟩ : ∃ we : World, we = wc := ⟨_, rfl⟩
      go_upto_region 15 with (first | (go_at_call 58; (with_reducible refine (HM.out.rt _).mono ?_); rintro e w3 ⟨rfl, hb⟩; have hz := hb.size; (try simp only [szA, szS, szD, szN] at hz); (try (refine bcB (n := w.heap.size) hb ?_; intro h_w_0 e_w_0 d_w_0 _ _)); (try (refine bcB (n := b4) hb ?_; intro h_bb4_0 e_bb4_0 d_bb4_0 _ _)); (try (refine bcB (n := b5) hb ?_; intro h_bb5_0 e_bb5_0 d_bb5_0 _ _)); (try (refine bcB (n := b6) hb ?_; intro h_bb6_0 e_bb6_0 d_bb6_0 _ _))) | (go_at_call 46; (with_reducible refine (HM.out.lo _ (HT.out.below (by exact belz))).mono ?_); rintro e w4 ⟨rfl, hb⟩; have hz := hb.size; (try simp only [szA, szS, szD, szN] at hz); (try (refine bcB (n := w.heap.size) hb ?_; intro h_w_0 e_w_0 d_w_0 _ _)); (try (refine bcB (n := b4) hb ?_; intro h_bb4_0 e_bb4_0 d_bb4_0 _ _)); (try (refine bcB (n := b5) hb ?_; intro h_bb5_0 e_bb5_0 d_bb5_0 _ _)); (try (refine bcB (n := w3.heap.size) hb ?_; intro h_w3_0 e_w3_0 d_w3_0 _ _))) | (go_at_call 59; (with_reducible refine (HM.out.si _ (HT.out.below (by exact belz))).mono ?_); rintro e w5 ⟨rfl, hb⟩; have hz := hb.size; (try simp only [szA, szS, szD, szN] at hz); (try (refine bcB (n := w.heap.size) hb ?_; intro h_w_0 e_w_0 d_w_0 _ _)); (try (refine bcB (n := b4) hb ?_; intro h_bb4_0 e_bb4_0 d_bb4_0 _ _)); (try (refine bcB (n := b5) hb ?_; intro h_bb5_0 e_bb5_0 d_bb5_0 _ _)); (try (refine bcB (n := w3.heap.size) hb ?_; intro h_w3_0 e_w3_0 d_w3_0 _ _)); (try (refine bcB (n := w4.heap.size) hb ?_; intro h_w4_0 e_w4_0 d_w4_0 _ _))) | (go_at_call 60; (with_reducible refine (HM.out.co _ (HT.out.below (by exact belz))).mono ?_); rintro e w6 ⟨rfl, hb⟩; have hz := hb.size; (try simp only [szA, szS, szD, szN] at hz); (try (refine bcB (n := w.heap.size) hb ?_; intro h_w_0 e_w_0 d_w_0 _ _)); (try (refine bcB (n := b4) hb ?_; intro h_bb4_0 e_bb4_0 d_bb4_0 _ _)); (try (refine bcB (n := b5) hb ?_; intro h_bb5_0 e_bb5_0 d_bb5_0 _ _)); (try (refine bcB (n := w3.heap.size) hb ?_; intro h_w3_0 e_w3_0 d_w3_0 _ _)); (try (refine bcB (n := w4.heap.size) hb ?_; intro h_w4_0 e_w4_0 d_w4_0 _ _)); (try (refine bcB (n := w5.heap.size) hb ?_; intro h_w5_0 e_w5_0 d_w5_0 _ _))))
      go_cut [7, 10, 12, 14, 15] (fun s7 s10 s12 s14 s15 wc => ∃ b7 b10 b12 b14 b15 : Nat, s7 = .pointer (some ⟨b7, 0, none⟩) ∧ s10 = .pointer (some ⟨b10, 0, none⟩) ∧ s12 = .pointer (some ⟨b12, 0, none⟩) ∧ s14 = .pointer (some ⟨b14, 0, none⟩) ∧ s15 = .pointer (some ⟨b15, 0, none⟩) ∧ PaW w wc w.heap.size b4 b5 b7 b10 b12 b14 b15 xl xh yl yh za zb sa sb ca cb)
      case first =>
        go_wp2_with (go_at_call 61; (with_reducible refine (c_Tilt _ (HT.out.below (by exact belz))).mono ?_); rintro e w7 ⟨rfl, hb⟩; have hz := hb.size; (try simp only [szA, szS, szD, szN] at hz); (try (refine bcB (n := w.heap.size) hb ?_; intro h_w_0 e_w_0 d_w_0 _ _)); (try (refine bcB (n := b4) hb ?_; intro h_bb4_0 e_bb4_0 d_bb4_0 _ _)); (try (refine bcB (n := b5) hb ?_; intro h_bb5_0 e_bb5_0 d_bb5_0 _ _)); (try (refine bcB (n := w3.heap.size) hb ?_; intro h_w3_0 e_w3_0 d_w3_0 _ _)); (try (refine bcB (n := w5.heap.size) hb ?_; intro h_w5_0 e_w5_0 d_w5_0 _ _)); (try (refine bcB (n := w6.heap.size) hb ?_; intro h_w6_0 e_w6_0 d_w6_0 _ _)))
        go_meet
        case rel =>
          refine ⟨w3.heap.size, w5.heap.size, w6.heap.size, w7.heap.size, w7.heap.size + 1, by go_simp, by go_simp, by go_simp, by go_simp, by go_simp, ⟨?_, ?_, ?_, ?_, ?_, ?_, ?_, ?_, ?_⟩⟩
          all_goals first | (constructor <;> go_simp; done) | exact belz
      case rest =>
        obtain ⟨b7, b10, b12, b14, b15, rfl, rfl, rfl, rfl, rfl, mm⟩ := hcut
        clear hbc hsz hsd
        have hs0 := mm.hb.size
        clear l0 x0 x1 x2 x3 x4 y0 y1 y2 y3 y4 l4 c40 c41 f40 f41 l5 c50 c51 f50 f51 l6 c60 c61 f60 f61
        obtain ⟨wg0, rfl⟩ : ∃ wg0 : World, wg0 = wc := ⟨_, rfl⟩
        go_upto_region 16 with fail
        go_cut [16] (fun s wc => ∃ b16 : Nat, s = .pointer (some ⟨b16, 0, none⟩) ∧ SpAt wc b16 va vb ∧ Below wg0.heap.size wg0 wc)
        case first =>
          have ⟨l7, c70, c71, f70, f71⟩ := mm.m7
          have ⟨l10, c100, c101, f100, f101⟩ := mm.m10
          have ⟨l4, c40, c41, f40, f41⟩ := mm.m4
          have ⟨l12, c120, c121, f120, f121⟩ := mm.m12
          go_region_held3 (fun w' => w'.cell? ⟨b7, 0, none⟩ = some (.int .i64 za) ∧ w'.cell? ⟨b7, 1, none⟩ = some (.int .i64 zb) ∧ w'.cell? ⟨b10, 0, none⟩ = some (.int .i64 sa) ∧ w'.cell? ⟨b10, 1, none⟩ = some (.int .i64 sb) ∧ w'.cell? ⟨b4, 0, none⟩ = some (.int .i64 xl) ∧ w'.cell? ⟨b4, 1, none⟩ = some (.int .i64 xh) ∧ w'.cell? ⟨b12, 0, none⟩ = some (.int .i64 ca) ∧ w'.cell? ⟨b12, 1, none⟩ = some (.int .i64 cb)) (refine ⟨?_, ?_, ?_, ?_, ?_, ?_, ?_, ?_⟩ <;> (first | (go_simp; done) | go_keep)) (first | (go_at_call 62; (with_reducible refine (HM.out.tm _).mono ?_); rintro e w1 ⟨rfl, hb⟩; have hz := hb.size; (try simp only [szA, szS, szD, szN] at hz); (try (refine bcB (n := b7) hb ?_; intro h_bb7_0 e_bb7_0 d_bb7_0 _ _)); (try (refine bcB (n := b10) hb ?_; intro h_bb10_0 e_bb10_0 d_bb10_0 _ _)); (try (refine bcB (n := b4) hb ?_; intro h_bb4_0 e_bb4_0 d_bb4_0 _ _)); (try (refine bcB (n := b12) hb ?_; intro h_bb12_0 e_bb12_0 d_bb12_0 _ _)); (try (refine bcB (n := wg0.heap.size) hb ?_; intro h_wg0_0 e_wg0_0 d_wg0_0 _ _))) | (go_at_call 62; (with_reducible refine (HM.out.tn _).mono ?_); rintro e w2 ⟨rfl, hb⟩; have hz := hb.size; (try simp only [szA, szS, szD, szN] at hz); (try (refine bcB (n := b7) hb ?_; intro h_bb7_0 e_bb7_0 d_bb7_0 _ _)); (try (refine bcB (n := b10) hb ?_; intro h_bb10_0 e_bb10_0 d_bb10_0 _ _)); (try (refine bcB (n := b4) hb ?_; intro h_bb4_0 e_bb4_0 d_bb4_0 _ _)); (try (refine bcB (n := b12) hb ?_; intro h_bb12_0 e_bb12_0 d_bb12_0 _ _)); (try (refine bcB (n := wg0.heap.size) hb ?_; intro h_wg0_0 e_wg0_0 d_wg0_0 _ _)); (try (refine bcB (n := w1.heap.size) hb ?_; intro h_w1_0 e_w1_0 d_w1_0 _ _))) | (go_at_call 56; (with_reducible refine (HM.out.pv _).mono ?_); rintro e w3 ⟨rfl, hb⟩; have hz := hb.size; (try simp only [szA, szS, szD, szN] at hz); (try (refine bcB (n := b7) hb ?_; intro h_bb7_0 e_bb7_0 d_bb7_0 _ _)); (try (refine bcB (n := b10) hb ?_; intro h_bb10_0 e_bb10_0 d_bb10_0 _ _)); (try (refine bcB (n := b4) hb ?_; intro h_bb4_0 e_bb4_0 d_bb4_0 _ _)); (try (refine bcB (n := b12) hb ?_; intro h_bb12_0 e_bb12_0 d_bb12_0 _ _)); (try (refine bcB (n := wg0.heap.size) hb ?_; intro h_wg0_0 e_wg0_0 d_wg0_0 _ _)); (try (refine bcB (n := w1.heap.size) hb ?_; intro h_w1_0 e_w1_0 d_w1_0 _ _)); (try (refine bcB (n := w2.heap.size) hb ?_; intro h_w2_0 e_w2_0 d_w2_0 _ _))))
          all_goals (go_step; apply_assumption; refine Met.intro ?_; apply_assumption; (repeat apply Exists.intro); refine ⟨?_, rfl⟩; (refine ⟨_, rfl, ?_, ?_⟩ <;> first | (constructor <;> go_simp; done) | exact belz))
        case rest =>
          obtain ⟨b16, rfl, m16, hbd⟩ := hcut
          replace mm := mm.below hbd (Below.size mm.hb)
          clear hbd
          obtain ⟨wg1, rfl⟩ : ∃ wg1 : World, wg1 = wc := ⟨_, rfl⟩
          go_upto_region 17 with fail
          go_cut [17] (fun s wc => ∃ b17 : Nat, s = .pointer (some ⟨b17, 0, none⟩) ∧ SpAt wc b17 fa fb ∧ Below wg1.heap.size wg1 wc)
          case first =>
            have ⟨l7, c70, c71, f70, f71⟩ := mm.m7
            have ⟨l12, c120, c121, f120, f121⟩ := mm.m12
            have ⟨l4, c40, c41, f40, f41⟩ := mm.m4
            have ⟨l10, c100, c101, f100, f101⟩ := mm.m10
            go_region_held3 (fun w' => w'.cell? ⟨b7, 0, none⟩ = some (.int .i64 za) ∧ w'.cell? ⟨b7, 1, none⟩ = some (.int .i64 zb) ∧ w'.cell? ⟨b12, 0, none⟩ = some (.int .i64 ca) ∧ w'.cell? ⟨b12, 1, none⟩ = some (.int .i64 cb) ∧ w'.cell? ⟨b4, 0, none⟩ = some (.int .i64 xl) ∧ w'.cell? ⟨b4, 1, none⟩ = some (.int .i64 xh) ∧ w'.cell? ⟨b10, 0, none⟩ = some (.int .i64 sa) ∧ w'.cell? ⟨b10, 1, none⟩ = some (.int .i64 sb)) (refine ⟨?_, ?_, ?_, ?_, ?_, ?_, ?_, ?_⟩ <;> (first | (go_simp; done) | go_keep)) (first | (go_at_call 62; (with_reducible refine (HM.out.tz _).mono ?_); rintro e w1 ⟨rfl, hb⟩; have hz := hb.size; (try simp only [szA, szS, szD, szN] at hz); (try (refine bcB (n := b7) hb ?_; intro h_bb7_0 e_bb7_0 d_bb7_0 _ _)); (try (refine bcB (n := b12) hb ?_; intro h_bb12_0 e_bb12_0 d_bb12_0 _ _)); (try (refine bcB (n := b4) hb ?_; intro h_bb4_0 e_bb4_0 d_bb4_0 _ _)); (try (refine bcB (n := b10) hb ?_; intro h_bb10_0 e_bb10_0 d_bb10_0 _ _)); (try (refine bcB (n := wg1.heap.size) hb ?_; intro h_wg1_0 e_wg1_0 d_wg1_0 _ _))) | (go_at_call 62; (with_reducible refine (HM.out.tp _).mono ?_); rintro e w2 ⟨rfl, hb⟩; have hz := hb.size; (try simp only [szA, szS, szD, szN] at hz); (try (refine bcB (n := b7) hb ?_; intro h_bb7_0 e_bb7_0 d_bb7_0 _ _)); (try (refine bcB (n := b12) hb ?_; intro h_bb12_0 e_bb12_0 d_bb12_0 _ _)); (try (refine bcB (n := b4) hb ?_; intro h_bb4_0 e_bb4_0 d_bb4_0 _ _)); (try (refine bcB (n := b10) hb ?_; intro h_bb10_0 e_bb10_0 d_bb10_0 _ _)); (try (refine bcB (n := wg1.heap.size) hb ?_; intro h_wg1_0 e_wg1_0 d_wg1_0 _ _)); (try (refine bcB (n := w1.heap.size) hb ?_; intro h_w1_0 e_w1_0 d_w1_0 _ _))) | (go_at_call 63; (with_reducible refine (HM.out.mf _).mono ?_); rintro e w3 ⟨rfl, hb⟩; have hz := hb.size; (try simp only [szA, szS, szD, szN] at hz); (try (refine bcB (n := b7) hb ?_; intro h_bb7_0 e_bb7_0 d_bb7_0 _ _)); (try (refine bcB (n := b12) hb ?_; intro h_bb12_0 e_bb12_0 d_bb12_0 _ _)); (try (refine bcB (n := b4) hb ?_; intro h_bb4_0 e_bb4_0 d_bb4_0 _ _)); (try (refine bcB (n := b10) hb ?_; intro h_bb10_0 e_bb10_0 d_bb10_0 _ _)); (try (refine bcB (n := wg1.heap.size) hb ?_; intro h_wg1_0 e_wg1_0 d_wg1_0 _ _)); (try (refine bcB (n := w1.heap.size) hb ?_; intro h_w1_0 e_w1_0 d_w1_0 _ _)); (try (refine bcB (n := w2.heap.size) hb ?_; intro h_w2_0 e_w2_0 d_w2_0 _ _))))
            all_goals (go_step; apply_assumption; refine Met.intro ?_; apply_assumption; (repeat apply Exists.intro); refine ⟨?_, rfl⟩; (refine ⟨_, rfl, ?_, ?_⟩ <;> first | (constructor <;> go_simp; done) | exact belz))
          case rest =>
            obtain ⟨b17, rfl, m17, hbd⟩ := hcut
            replace mm := mm.below hbd (Below.size mm.hb)
            replace m16 := m16.below hbd
            clear hbd
            obtain ⟨wg2, rfl⟩ : ∃ wg2 : World, wg2 = wc := ⟨_, rfl⟩
            go_upto_region 18 with fail
            go_cut [18] (fun s wc => ∃ b18 : Nat, s = .pointer (some ⟨b18, 0, none⟩) ∧ SpAt wc b18 ga gb ∧ Below wg2.heap.size wg2 wc)
            case first =>
              have ⟨l16, c160, c161, f160, f161⟩ := m16
              have ⟨l15, c150, c151, f150, f151⟩ := mm.m15
              have ⟨l5, c50, c51, f50, f51⟩ := mm.m5
              have ⟨l14, c140, c141, f140, f141⟩ := mm.m14
              go_region_held3 (fun w' => w'.cell? ⟨b16, 0, none⟩ = some (.int .i64 va) ∧ w'.cell? ⟨b16, 1, none⟩ = some (.int .i64 vb) ∧ w'.cell? ⟨b15, 0, none⟩ = some (.int .i64 917482416) ∧ w'.cell? ⟨b15, 1, none⟩ = some (.int .i64 917482417) ∧ w'.cell? ⟨b5, 0, none⟩ = some (.int .i64 yl) ∧ w'.cell? ⟨b5, 1, none⟩ = some (.int .i64 yh) ∧ w'.cell? ⟨b14, 0, none⟩ = some (.int .i64 397776337) ∧ w'.cell? ⟨b14, 1, none⟩ = some (.int .i64 397776338)) (refine ⟨?_, ?_, ?_, ?_, ?_, ?_, ?_, ?_⟩ <;> (first | (go_simp; done) | go_keep)) (first | (go_at_call 62; (with_reducible refine (HM.out.tr _).mono ?_); rintro e w1 ⟨rfl, hb⟩; have hz := hb.size; (try simp only [szA, szS, szD, szN] at hz); (try (refine bcB (n := b16) hb ?_; intro h_bb16_0 e_bb16_0 d_bb16_0 _ _)); (try (refine bcB (n := b15) hb ?_; intro h_bb15_0 e_bb15_0 d_bb15_0 _ _)); (try (refine bcB (n := b5) hb ?_; intro h_bb5_0 e_bb5_0 d_bb5_0 _ _)); (try (refine bcB (n := b14) hb ?_; intro h_bb14_0 e_bb14_0 d_bb14_0 _ _)); (try (refine bcB (n := wg2.heap.size) hb ?_; intro h_wg2_0 e_wg2_0 d_wg2_0 _ _))) | (go_at_call 62; (with_reducible refine (HM.out.tt _).mono ?_); rintro e w2 ⟨rfl, hb⟩; have hz := hb.size; (try simp only [szA, szS, szD, szN] at hz); (try (refine bcB (n := b16) hb ?_; intro h_bb16_0 e_bb16_0 d_bb16_0 _ _)); (try (refine bcB (n := b15) hb ?_; intro h_bb15_0 e_bb15_0 d_bb15_0 _ _)); (try (refine bcB (n := b5) hb ?_; intro h_bb5_0 e_bb5_0 d_bb5_0 _ _)); (try (refine bcB (n := b14) hb ?_; intro h_bb14_0 e_bb14_0 d_bb14_0 _ _)); (try (refine bcB (n := wg2.heap.size) hb ?_; intro h_wg2_0 e_wg2_0 d_wg2_0 _ _)); (try (refine bcB (n := w1.heap.size) hb ?_; intro h_w1_0 e_w1_0 d_w1_0 _ _))) | (go_at_call 63; (with_reducible refine (HM.out.mg _).mono ?_); rintro e w3 ⟨rfl, hb⟩; have hz := hb.size; (try simp only [szA, szS, szD, szN] at hz); (try (refine bcB (n := b16) hb ?_; intro h_bb16_0 e_bb16_0 d_bb16_0 _ _)); (try (refine bcB (n := b15) hb ?_; intro h_bb15_0 e_bb15_0 d_bb15_0 _ _)); (try (refine bcB (n := b5) hb ?_; intro h_bb5_0 e_bb5_0 d_bb5_0 _ _)); (try (refine bcB (n := b14) hb ?_; intro h_bb14_0 e_bb14_0 d_bb14_0 _ _)); (try (refine bcB (n := wg2.heap.size) hb ?_; intro h_wg2_0 e_wg2_0 d_wg2_0 _ _)); (try (refine bcB (n := w1.heap.size) hb ?_; intro h_w1_0 e_w1_0 d_w1_0 _ _)); (try (refine bcB (n := w2.heap.size) hb ?_; intro h_w2_0 e_w2_0 d_w2_0 _ _))))
              all_goals (go_step; apply_assumption; refine Met.intro ?_; apply_assumption; (repeat apply Exists.intro); refine ⟨?_, rfl⟩; (refine ⟨_, rfl, ?_, ?_⟩ <;> first | (constructor <;> go_simp; done) | exact belz))
            case rest =>
              obtain ⟨b18, rfl, m18, hbd⟩ := hcut
              replace mm := mm.below hbd (Below.size mm.hb)
              replace m16 := m16.below hbd
              replace m17 := m17.below hbd
              clear hbd
              obtain ⟨wg3, rfl⟩ : ∃ wg3 : World, wg3 = wc := ⟨_, rfl⟩
              go_upto_region 19 with fail
              go_cut [19] (fun s wc => ∃ b19 : Nat, s = .pointer (some ⟨b19, 0, none⟩) ∧ SpAt wc b19 ka kb ∧ Below wg3.heap.size wg3 wc)
              case first =>
                have ⟨l16, c160, c161, f160, f161⟩ := m16
                have ⟨l14, c140, c141, f140, f141⟩ := mm.m14
                have ⟨l5, c50, c51, f50, f51⟩ := mm.m5
                have ⟨l15, c150, c151, f150, f151⟩ := mm.m15
                go_region_held3 (fun w' => w'.cell? ⟨b16, 0, none⟩ = some (.int .i64 va) ∧ w'.cell? ⟨b16, 1, none⟩ = some (.int .i64 vb) ∧ w'.cell? ⟨b14, 0, none⟩ = some (.int .i64 397776337) ∧ w'.cell? ⟨b14, 1, none⟩ = some (.int .i64 397776338) ∧ w'.cell? ⟨b5, 0, none⟩ = some (.int .i64 yl) ∧ w'.cell? ⟨b5, 1, none⟩ = some (.int .i64 yh) ∧ w'.cell? ⟨b15, 0, none⟩ = some (.int .i64 917482416) ∧ w'.cell? ⟨b15, 1, none⟩ = some (.int .i64 917482417)) (refine ⟨?_, ?_, ?_, ?_, ?_, ?_, ?_, ?_⟩ <;> (first | (go_simp; done) | go_keep)) (first | (go_at_call 62; (with_reducible refine (HM.out.ti _).mono ?_); rintro e w1 ⟨rfl, hb⟩; have hz := hb.size; (try simp only [szA, szS, szD, szN] at hz); (try (refine bcB (n := b16) hb ?_; intro h_bb16_0 e_bb16_0 d_bb16_0 _ _)); (try (refine bcB (n := b14) hb ?_; intro h_bb14_0 e_bb14_0 d_bb14_0 _ _)); (try (refine bcB (n := b5) hb ?_; intro h_bb5_0 e_bb5_0 d_bb5_0 _ _)); (try (refine bcB (n := b15) hb ?_; intro h_bb15_0 e_bb15_0 d_bb15_0 _ _)); (try (refine bcB (n := wg3.heap.size) hb ?_; intro h_wg3_0 e_wg3_0 d_wg3_0 _ _))) | (go_at_call 62; (with_reducible refine (HM.out.tj _).mono ?_); rintro e w2 ⟨rfl, hb⟩; have hz := hb.size; (try simp only [szA, szS, szD, szN] at hz); (try (refine bcB (n := b16) hb ?_; intro h_bb16_0 e_bb16_0 d_bb16_0 _ _)); (try (refine bcB (n := b14) hb ?_; intro h_bb14_0 e_bb14_0 d_bb14_0 _ _)); (try (refine bcB (n := b5) hb ?_; intro h_bb5_0 e_bb5_0 d_bb5_0 _ _)); (try (refine bcB (n := b15) hb ?_; intro h_bb15_0 e_bb15_0 d_bb15_0 _ _)); (try (refine bcB (n := wg3.heap.size) hb ?_; intro h_wg3_0 e_wg3_0 d_wg3_0 _ _)); (try (refine bcB (n := w1.heap.size) hb ?_; intro h_w1_0 e_w1_0 d_w1_0 _ _))) | (go_at_call 56; (with_reducible refine (HM.out.pk _).mono ?_); rintro e w3 ⟨rfl, hb⟩; have hz := hb.size; (try simp only [szA, szS, szD, szN] at hz); (try (refine bcB (n := b16) hb ?_; intro h_bb16_0 e_bb16_0 d_bb16_0 _ _)); (try (refine bcB (n := b14) hb ?_; intro h_bb14_0 e_bb14_0 d_bb14_0 _ _)); (try (refine bcB (n := b5) hb ?_; intro h_bb5_0 e_bb5_0 d_bb5_0 _ _)); (try (refine bcB (n := b15) hb ?_; intro h_bb15_0 e_bb15_0 d_bb15_0 _ _)); (try (refine bcB (n := wg3.heap.size) hb ?_; intro h_wg3_0 e_wg3_0 d_wg3_0 _ _)); (try (refine bcB (n := w1.heap.size) hb ?_; intro h_w1_0 e_w1_0 d_w1_0 _ _)); (try (refine bcB (n := w2.heap.size) hb ?_; intro h_w2_0 e_w2_0 d_w2_0 _ _))))
                all_goals (go_step; apply_assumption; refine Met.intro ?_; apply_assumption; (repeat apply Exists.intro); refine ⟨?_, rfl⟩; (refine ⟨_, rfl, ?_, ?_⟩ <;> first | (constructor <;> go_simp; done) | exact belz))
              case rest =>
                obtain ⟨b19, rfl, m19, hbd⟩ := hcut
                replace mm := mm.below hbd (Below.size mm.hb)
                replace m16 := m16.below hbd
                replace m17 := m17.below hbd
                replace m18 := m18.below hbd
                clear hbd
                obtain ⟨wg4, rfl⟩ : ∃ wg4 : World, wg4 = wc := ⟨_, rfl⟩
                have hs1 := mm.hb.size
                have hbc := mm.hb
                have ⟨l0, x0, x1, x2, x3, x4, y0, y1, y2, y3, y4⟩ := mm.mr
                have ⟨l17, c170, c171, f170, f171⟩ := m17
                have ⟨l18, c180, c181, f180, f181⟩ := m18
                have ⟨l19, c190, c191, f190, f191⟩ := m19
                clear mm m16 m17 m18 m19
                rcases HH.out with ⟨rfl, rfl, rfl, rfl, rfl, rfl, rfl⟩ | ⟨rfl, rfl, e0, e1, e2, e3, e4⟩
                · go_wp2_with (go_at_call 52; (with_reducible refine (HM.out.ac _).mono ?_); rintro e w1 ⟨rfl, hb⟩; have hz := hb.size; (try simp only [szA, szS, szD, szN] at hz); (try (refine bcB (n := w.heap.size) hb ?_; intro h_w_0 e_w_0 d_w_0 _ _)); (try (refine bcB (n := b17) hb ?_; intro h_bb17_0 e_bb17_0 d_bb17_0 _ _)); (try (refine bcB (n := b18) hb ?_; intro h_bb18_0 e_bb18_0 d_bb18_0 _ _)); (try (refine bcB (n := b19) hb ?_; intro h_bb19_0 e_bb19_0 d_bb19_0 _ _)); (try (refine bcB (n := wg4.heap.size) hb ?_; intro h_wg4_0 e_wg4_0 d_wg4_0 _ _)))
                  refine bodyPost_ret (v := .tuple #[.agg #[.int .i64 0, .int .i64 0, .int .i64 0, .int .i64 0, .int .i64 0], .int .i64 11]) (by simp only [results, Tryz.results24]; go_simp) rfl ⟨rfl, ?_⟩
                  exact belz
                · subst e0 e1 e2 e3 e4
                  go_upto_region 24 with (first | (go_at_call 52; (with_reducible refine (HM.out.ac _).mono ?_); rintro e w1 ⟨rfl, hb⟩; have hz := hb.size; (try simp only [szA, szS, szD, szN] at hz); (try (refine bcB (n := w.heap.size) hb ?_; intro h_w_0 e_w_0 d_w_0 _ _)); (try (refine bcB (n := b17) hb ?_; intro h_bb17_0 e_bb17_0 d_bb17_0 _ _)); (try (refine bcB (n := b18) hb ?_; intro h_bb18_0 e_bb18_0 d_bb18_0 _ _)); (try (refine bcB (n := b19) hb ?_; intro h_bb19_0 e_bb19_0 d_bb19_0 _ _)); (try (refine bcB (n := wg4.heap.size) hb ?_; intro h_wg4_0 e_wg4_0 d_wg4_0 _ _))) | (go_at_call 51; (with_reducible refine (HM.out.asn _).mono ?_); rintro e w2 ⟨rfl, hb⟩; have hz := hb.size; (try simp only [szA, szS, szD, szN] at hz); (try (refine bcB (n := w.heap.size) hb ?_; intro h_w_0 e_w_0 d_w_0 _ _)); (try (refine bcB (n := b17) hb ?_; intro h_bb17_0 e_bb17_0 d_bb17_0 _ _)); (try (refine bcB (n := b18) hb ?_; intro h_bb18_0 e_bb18_0 d_bb18_0 _ _)); (try (refine bcB (n := b19) hb ?_; intro h_bb19_0 e_bb19_0 d_bb19_0 _ _)); (try (refine bcB (n := wg4.heap.size) hb ?_; intro h_wg4_0 e_wg4_0 d_wg4_0 _ _)); (try (refine bcB (n := w1.heap.size) hb ?_; intro h_w1_0 e_w1_0 d_w1_0 _ _))))
                  go_cut [20, 22, 24] (fun s20 s22 s24 wc => ∃ b20 b22 b24 : Nat, s20 = .pointer (some ⟨b20, 0, none⟩) ∧ s22 = .pointer (some ⟨b22, 0, none⟩) ∧ s24 = .pointer (some ⟨b24, 0, none⟩) ∧ SpAt wc b20 aa ab ∧ SpAt wc b22 da db ∧ SpAt wc b24 ea eb ∧ PpAt wc w.heap.size 0 0 0 0 0 ∧ w.heap.size < b20 ∧ w.heap.size < b22 ∧ w.heap.size < b24 ∧ Below w.heap.size w wc)
                  case first =>
                    go_wp2_with (go_at_call 44; (with_reducible refine (HM.out.sd _ (HT.out.below (by exact belz))).mono ?_); rintro e w3 ⟨rfl, hb⟩; have hz := hb.size; (try simp only [szA, szS, szD, szN] at hz); (try (refine bcB (n := w.heap.size) hb ?_; intro h_w_0 e_w_0 d_w_0 _ _)); (try (refine bcB (n := w1.heap.size) hb ?_; intro h_w1_0 e_w1_0 d_w1_0 _ _)); (try (refine bcB (n := w2.heap.size) hb ?_; intro h_w2_0 e_w2_0 d_w2_0 _ _)); (try (refine bcB (n := wg4.heap.size) hb ?_; intro h_wg4_0 e_wg4_0 d_wg4_0 _ _)))
                    go_meet
                    case rel =>
                      refine ⟨w1.heap.size, w2.heap.size, w3.heap.size, by go_simp, by go_simp, by go_simp, ?_, ?_, ?_, ?_, by omega, by omega, by omega, ?_⟩
                      all_goals first | (constructor <;> go_simp; done) | exact belz
                  case rest =>
                    clear hbc hs1 l0 x0 x1 x2 x3 x4 y0 y1 y2 y3 y4
                    obtain ⟨b20, b22, b24, rfl, rfl, rfl, ⟨l20, c200, c201, f200, f201⟩, ⟨l22, c220, c221, f220, f221⟩, ⟨l24, c240, c241, f240, f241⟩, ⟨l0, x0, x1, x2, x3, x4, y0, y1, y2, y3, y4⟩, q1, q2, q3, hbc⟩ := hcut
                    have hs1 := hbc.size
                    have e1 : b20 ≠ w.heap.size := by omega
                    have e2 : b22 ≠ w.heap.size := by omega
                    have e3 : b24 ≠ w.heap.size := by omega
                    obtain ⟨wz, rfl⟩ : ∃ wz : World, wz = wc := ⟨_, rfl⟩
                    go_upto_region 25 with fail
                    go_region_held3 (fun w' => w'.cell? ⟨b20, 0, none⟩ = some (.int .i64 aa) ∧ w'.cell? ⟨b20, 1, none⟩ = some (.int .i64 ab) ∧ w'.cell? ⟨b22, 0, none⟩ = some (.int .i64 da) ∧ w'.cell? ⟨b22, 1, none⟩ = some (.int .i64 db) ∧ w'.cell? ⟨b24, 0, none⟩ = some (.int .i64 ea) ∧ w'.cell? ⟨b24, 1, none⟩ = some (.int .i64 eb)) (refine ⟨?_, ?_, ?_, ?_, ?_, ?_⟩ <;> (first | (go_simp; done) | go_keep)) (first | (go_at_call 64; (with_reducible refine (HM.out.le _).mono ?_); rintro e w1 ⟨rfl, hb⟩; have hz := hb.size; (try simp only [szA, szS, szD, szN] at hz); (try (refine bcB (n := w.heap.size) hb ?_; intro h_w_0 e_w_0 d_w_0 _ _)); (try (refine bcB (n := b20) hb ?_; intro h_bb20_0 e_bb20_0 d_bb20_0 _ _)); (try (refine bcB (n := b22) hb ?_; intro h_bb22_0 e_bb22_0 d_bb22_0 _ _)); (try (refine bcB (n := b24) hb ?_; intro h_bb24_0 e_bb24_0 d_bb24_0 _ _)); (try (refine bcB (n := wz.heap.size) hb ?_; intro h_wz_0 e_wz_0 d_wz_0 _ _))))
                    all_goals go_wp2_with fail
                    all_goals refine bodyPost_ret (v := .tuple #[.agg #[.int .i64 t, .int .i64 wa, .int .i64 wb, .int .i64 da, .int .i64 db], .int .i64 0]) (by simp only [results, Tryz.results24]; go_simp) rfl ⟨rfl, ?_⟩
                    all_goals exact belz
end Go.Proofs.YtcgnhnmigmdalaaGreatDoor
