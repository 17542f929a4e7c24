/- Narrower intervals of seasons and phases. No program in sight. -/
import Derived.Test.YtplhegjgkmabiaaDoorPlainSea2
import Derived.Test.YtplhegjgkmabiaaDoorPlainLun
set_option linter.unusedVariables false
set_option linter.unusedSimpArgs false
namespace Go.Proofs.YtplhegjgkmabiaaDoor
theorem sun_at_m {tg T x : Int} (hT : T % 1000000000 = tg % 1000000000) (h1 : -400000000 < sL x - T) (h2 : sL x - T < 400000000) : sunSide tg x = -1 ↔ sH x < T := by
  rw [side_sun hT h1 h2]
  by_cases c : sH x < T
  · rw [if_pos c]; exact ⟨fun _ => c, fun _ => rfl⟩
  · rw [if_neg c]
    constructor
    · intro h; split at h <;> omega
    · intro h; exact absurd h c
theorem sun_at_p {tg T x : Int} (hT : T % 1000000000 = tg % 1000000000) (h1 : -400000000 < sL x - T) (h2 : sL x - T < 400000000) : sunSide tg x = 1 ↔ T < sL x := by
  have w := sun_wd x
  rw [side_sun hT h1 h2]
  by_cases c : sH x < T
  · rw [if_pos c]; constructor <;> intro h <;> omega
  · rw [if_neg c]
    by_cases d : sL x ≤ T
    · rw [if_pos d]; constructor <;> intro h <;> omega
    · rw [if_neg d]; constructor <;> intro h <;> omega
theorem el_at_m {tg T x : Int} (hT : T % 1000000000 = tg % 1000000000) (h1 : -400000000 < eL x - T) (h2 : eL x - T < 400000000) : elSide tg x = -1 ↔ eH x < T := by
  rw [side_el hT h1 h2]
  by_cases c : eH x < T
  · rw [if_pos c]; exact ⟨fun _ => c, fun _ => rfl⟩
  · rw [if_neg c]
    constructor
    · intro h; split at h <;> omega
    · intro h; exact absurd h c
theorem el_at_p {tg T x : Int} (hT : T % 1000000000 = tg % 1000000000) (h1 : -400000000 < eL x - T) (h2 : eL x - T < 400000000) : elSide tg x = 1 ↔ T < eL x := by
  have w := el_wd x
  rw [side_el hT h1 h2]
  by_cases c : eH x < T
  · rw [if_pos c]; constructor <;> intro h <;> omega
  · rw [if_neg c]
    by_cases d : eL x ≤ T
    · rw [if_pos d]; constructor <;> intro h <;> omega
    · rw [if_neg d]; constructor <;> intro h <;> omega
/-- The narrower interval of a season. -/
def shS (q y wd : Int) : NarR := narF (sunSide (q * 250000000)) wd 62 (seR q y).lo (seR q y).hi
structure ShOk (tg T wd : Int) (r s : NarR) : Prop where
  tt : T % 1000000000 = tg % 1000000000
  a : r.lo ≤ s.lo
  b : s.lo < s.hi
  c : s.hi ≤ r.hi
  w : s.is = true → s.hi - s.lo ≤ wd
  is : 200000 ≤ wd → s.is = true
  lo : sH s.lo < T
  lo4 : T - 400000000 < sL s.lo
  hi : T < sL s.hi
  hi4 : sL s.hi < T + 400000000
theorem shS_ok {y q wd : Int} (h1 : -10000 ≤ y) (h2 : y ≤ 10000) (q0 : 0 ≤ q) (q1 : q ≤ 3) (w0 : 1 ≤ wd) :
    ShOk (q * 250000000) (sL (nyD y * 86400000) + snM (q * 250000000) (nyD y * 86400000)) wd (seR q y) (shS q y wd) := by
  have h := seR_ok h1 h2 q0 q1
  unfold shS
  generalize seR q y = r at *
  generalize sL (nyD y * 86400000) + snM (q * 250000000) (nyD y * 86400000) = T at *
  have hT := h.tt
  have hb := h.b
  have hw := h.w
  have near : ∀ x, r.lo ≤ x → x ≤ r.hi → -400000000 < sL x - T ∧ sL x - T < 400000000 := by
    intro x x1 x2
    have g := sun_grow x1
    have g2 := sun_grow x2
    have hh := h.hi
    have l := h.lo
    have w := sun_wd r.lo
    omega
  obtain ⟨a1, a2⟩ := near r.lo (by omega) (by omega)
  obtain ⟨b1, b2⟩ := near r.hi (by omega) (by omega)
  have sz : r.hi - r.lo ≤ 2 ^ 62 := by rw [show (2 : Int) ^ 62 = 4611686018427387904 from rfl]; omega
  obtain ⟨ok, is⟩ := narF_all (s := sunSide (q * 250000000)) w0 62 r.lo r.hi hb sz sz ((sun_at_m hT a1 a2).2 h.lo) ((sun_at_p hT b1 b2).2 h.hi)
  generalize narF (sunSide (q * 250000000)) wd 62 r.lo r.hi = s at *
  have oa := ok.a
  have ob := ok.b
  have oc := ok.c
  obtain ⟨c1, c2⟩ := near s.lo (by omega) (by omega)
  obtain ⟨d1, d2⟩ := near s.hi (by omega) (by omega)
  have l := (sun_at_m hT c1 c2).1 ok.m
  have p := (sun_at_p hT d1 d2).1 ok.p
  exact ⟨hT, oa, ob, oc, ok.w, fun h20 => is 132000 h.und (by omega) (by omega), l, by omega, p, by omega⟩
/-- The narrower interval of a phase. -/
def shP (n q wd : Int) : NarR := narF (elSide (q * 250000000)) wd 62 (phR n q).lo (phR n q).hi
structure ShpOk (tg T wd : Int) (r s : NarR) : Prop where
  tt : T % 1000000000 = tg % 1000000000
  a : r.lo ≤ s.lo
  b : s.lo < s.hi
  c : s.hi ≤ r.hi
  w : s.is = true → s.hi - s.lo ≤ wd
  is : 200000 ≤ wd → s.is = true
  lo : eH s.lo < T
  lo4 : T - 400000000 < eL s.lo
  hi : T < eL s.hi
  hi4 : eL s.hi < T + 400000000
theorem shP_ok {n q wd : Int} (n0 : -100000 ≤ n) (n1 : n ≤ 100000) (q0 : 0 ≤ q) (q1 : q ≤ 3) (w0 : 1 ≤ wd) : ShpOk (q * 250000000) (phT n q) wd (phR n q) (shP n q wd) := by
  have h := phR_ok n0 n1 q0 q1
  unfold shP
  generalize phR n q = r at *
  have hT : phT n q % 1000000000 = (q * 250000000) % 1000000000 := by have := h.tt; omega
  have hb := h.b
  have hw := h.w
  have ha := h.a
  have hc := h.c
  have near : ∀ x, r.lo ≤ x → x ≤ r.hi → -400000000 < eL x - phT n q ∧ eL x - phT n q < 400000000 := by
    intro x x1 x2
    have mx := ph_mid n0 n1 q0 q1 (x := x) (by omega) (by omega)
    constructor <;> omega
  obtain ⟨a1, a2⟩ := near r.lo (by omega) (by omega)
  obtain ⟨b1, b2⟩ := near r.hi (by omega) (by omega)
  have sz : r.hi - r.lo ≤ 2 ^ 62 := by rw [show (2 : Int) ^ 62 = 4611686018427387904 from rfl]; omega
  obtain ⟨ok, is⟩ := narF_all (s := elSide (q * 250000000)) w0 62 r.lo r.hi hb sz sz ((el_at_m hT a1 a2).2 h.lo) ((el_at_p hT b1 b2).2 h.hi)
  generalize narF (elSide (q * 250000000)) wd 62 r.lo r.hi = s at *
  have oa := ok.a
  have ob := ok.b
  have oc := ok.c
  obtain ⟨c1, c2⟩ := near s.lo (by omega) (by omega)
  obtain ⟨d1, d2⟩ := near s.hi (by omega) (by omega)
  have l := (el_at_m hT c1 c2).1 ok.m
  have p := (el_at_p hT d1 d2).1 ok.p
  exact ⟨hT, oa, ob, oc, ok.w, fun h20 => is 137000 (fun x y x1 x2 => h.und x y (by omega) (by omega)) (by omega) (by omega), l, by omega, p, by omega⟩
theorem sh_fix : (shS 0 2000 500000).is = true ∧ (shS 0 2000 500000).lo ≤ 63089219834394 ∧ 63089219834394 ≤ (shS 0 2000 500000).hi ∧ (shS 0 2000 500000).hi - (shS 0 2000 500000).lo ≤ 500000 := by
  obtain ⟨f1, f2, f3, f4⟩ := sea_fix
  have h := shS_ok (y := 2000) (q := 0) (wd := 500000) (by omega) (by omega) (by omega) (by omega) (by omega)
  rw [f4, show (0 : Int) * 250000000 = 0 from rfl, f1, f3] at h
  have is := h.is (by omega)
  refine ⟨is, ?_, ?_, h.w is⟩
  · by_cases c : (shS 0 2000 500000).lo ≤ 63089219834394
    · exact c
    · have g := sun_grow (x := 63089219834394) (y := (shS 0 2000 500000).lo) (by omega)
      have w := sun_wd (shS 0 2000 500000).lo
      have l := h.lo
      rw [f2] at g
      omega
  · by_cases c : 63089219834394 ≤ (shS 0 2000 500000).hi
    · exact c
    · have g := sun_grow (x := (shS 0 2000 500000).hi) (y := 63089219834394) (by omega)
      have l := h.hi
      rw [f2] at g
      omega
/-- With the width of the interval itself nothing is narrowed. -/
theorem shS_self {y q : Int} (h1 : -10000 ≤ y) (h2 : y ≤ 10000) (q0 : 0 ≤ q) (q1 : q ≤ 3) : shS q y 600000 = ⟨(seR q y).lo, (seR q y).hi, true⟩ := by
  have hw := (seR_ok h1 h2 q0 q1).w
  unfold shS
  unfold narF
  rw [if_neg (by omega)]
theorem shP_self {n q : Int} (n0 : -100000 ≤ n) (n1 : n ≤ 100000) (q0 : 0 ≤ q) (q1 : q ≤ 3) : shP n q 600000 = ⟨(phR n q).lo, (phR n q).hi, true⟩ := by
  have hw := (phR_ok n0 n1 q0 q1).w
  unfold shP
  unfold narF
  rw [if_neg (by omega)]
end Go.Proofs.YtplhegjgkmabiaaDoor
