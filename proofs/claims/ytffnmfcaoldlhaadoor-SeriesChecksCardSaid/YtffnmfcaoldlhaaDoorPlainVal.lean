/- The value of a sum in floating point. No program in sight. -/
import Derived.Test.YtffnmfcaoldlhaaDoorPlainPart
set_option linter.unusedVariables false
set_option linter.unusedSimpArgs false
namespace Go.Proofs.YtffnmfcaoldlhaaDoor
open Ieee
/-- The sum of the first terms, in floating point and exactly. -/
def vAt (l : List Tm) (inst : Int) (k : Nat) : Nat := (l.take k).foldl (fun v t => fadd v (partW t inst)) 0
def termX (inst : Int) (t : Tm) : Rat := t.amp * S (2 * piQ * partA t inst / 1000000000)
def xAt (l : List Tm) (inst : Int) (k : Nat) : Rat := (l.take k).foldl (fun v t => v + termX inst t) 0
theorem vAt_snoc (l : List Tm) (inst : Int) (k : Nat) (h : k < l.length) : vAt l inst (k + 1) = fadd (vAt l inst k) (partW l[k] inst) := by
  unfold vAt; rw [fe_take l k h, List.foldl_append]; rfl
theorem xAt_snoc (l : List Tm) (inst : Int) (k : Nat) (h : k < l.length) : xAt l inst (k + 1) = xAt l inst k + termX inst l[k] := by
  unfold xAt; rw [fe_take l k h, List.foldl_append]; rfl
theorem termX_bd {t : Tm} {inst : Int} (h : TmOk t) : termX inst t ≤ 1010000000 ∧ -1010000000 ≤ termX inst t := by
  obtain ⟨xr, x, q, Y, sq, p, -, -, -, -, -, -, e7, e8, -, -, -, -, -⟩ := part_run (inst := inst) h
  have sb := sin_bd e7 e8
  have t17 : (1 : Rat) / 10 ^ 17 ≤ 1 / 1000 := by decide +kernel
  have a2 : (t.amp : Rat) ≤ 1000000000 := Rat.intCast_le_intCast.2 h.a2
  have a1 : -1000000000 ≤ (t.amp : Rat) := Rat.intCast_le_intCast.2 h.a1
  unfold termX
  have b := bil2 (u := (t.amp : Rat)) (v := S (2 * piQ * partA t inst / 1000000000)) (c := 1000000000) (d := 101/100) a1 a2 (by grind) (by grind)
  constructor <;> grind
/-- The sums stay near, and every addition has an answer. -/
theorem val_run {l : List Tm} {inst : Int} (h40 : l.length ≤ 40) (h : ∀ t ∈ l, TmOk t) : ∀ k, k ≤ l.length →
    Ap (vAt l inst k) (xAt l inst k) ((k : Rat) * (34 / 1000000)) ∧ xAt l inst k ≤ 1010000000 * (k : Rat) ∧ -(1010000000 * (k : Rat)) ≤ xAt l inst k ∧ (∀ hk : k < l.length, double.add (vAt l inst k) (partW l[k] inst) = some (vAt l inst (k + 1)))
  | 0, _ => by
    have e0 : ((0 : Nat) : Rat) = 0 := rfl
    have z : Ap (vAt l inst 0) (xAt l inst 0) 0 := num_zero.ap
    have x0 : xAt l inst 0 = 0 := rfl
    refine ⟨by rw [e0]; exact z.mono (by grind), by rw [x0, e0]; grind, by rw [x0, e0]; grind, fun hk => ?_⟩
    obtain ⟨xr, x, q, Y, sq, p, -, -, -, -, -, -, -, -, -, -, -, e12, e13⟩ := part_run (inst := inst) (h l[0] (List.getElem_mem hk))
    have tb := termX_bd (inst := inst) (h l[0] (List.getElem_mem hk))
    have p36 : p2 ((36 : Nat) : Int) = 68719476736 := by decide +kernel
    rw [← e12]
    obtain ⟨r, r1, r2⟩ := add_ap 36 (by omega) z e13 (by rw [p36, x0]; unfold termX at tb; grind) (by rw [p36, x0]; unfold termX at tb; grind)
    rw [r1, vAt_snoc l inst 0 hk, ← e12, fadd_of r1]
  | k + 1, hk1 => by
    have hk : k < l.length := by omega
    obtain ⟨i1, i2, i3, i4⟩ := val_run h40 h k (by omega)
    obtain ⟨xr, x, q, Y, sq, p, -, -, -, -, -, -, -, -, -, -, -, e12, e13⟩ := part_run (inst := inst) (h l[k] (List.getElem_mem hk))
    have tb := termX_bd (inst := inst) (h l[k] (List.getElem_mem hk))
    have p36 : p2 ((36 : Nat) : Int) = 68719476736 := by decide +kernel
    have u36 : p2 (((36 : Nat) : Int) - 53) ≤ 8 / 1000000 := by decide +kernel
    have k40 : (k : Rat) ≤ 39 := by
      have : (k : Rat) ≤ ((39 : Nat) : Rat) := cast_le (by omega)
      exact this
    have k0 : (0 : Rat) ≤ (k : Rat) := by exact_mod_cast Nat.zero_le k
    have ck : ((k + 1 : Nat) : Rat) = (k : Rat) + 1 := by push_cast; rfl
    have a4 := i4 hk
    rw [← e12] at a4
    have e13' : Ap p (termX inst l[k]) (26 / 1000000) := e13
    obtain ⟨r, r1, r2⟩ := add_ap 36 (by omega) i1 e13' (by rw [p36]; grind) (by rw [p36]; grind)
    rw [a4] at r1
    obtain rfl := Option.some.inj r1
    rw [xAt_snoc l inst k hk]
    have j1 : Ap (vAt l inst (k + 1)) (xAt l inst k + termX inst l[k]) (((k + 1 : Nat) : Rat) * (34 / 1000000)) := r2.mono (by rw [ck]; grind)
    have j2 : xAt l inst k + termX inst l[k] ≤ 1010000000 * ((k + 1 : Nat) : Rat) := by rw [ck]; grind
    have j3 : -(1010000000 * ((k + 1 : Nat) : Rat)) ≤ xAt l inst k + termX inst l[k] := by rw [ck]; grind
    refine ⟨j1, j2, j3, fun hkk => ?_⟩
    obtain ⟨xr', x', q', Y', sq', p', -, -, -, -, -, -, -, -, -, -, -, f12, f13⟩ := part_run (inst := inst) (h l[k + 1] (List.getElem_mem hkk))
    have tb' := termX_bd (inst := inst) (h l[k + 1] (List.getElem_mem hkk))
    have f13' : Ap p' (termX inst l[k + 1]) (26 / 1000000) := f13
    rw [← f12]
    obtain ⟨r', s1, s2⟩ := add_ap 36 (by omega) j1 f13' (by rw [p36]; grind) (by rw [p36]; grind)
    rw [s1, vAt_snoc l inst (k + 1) hkk, ← f12, fadd_of s1]
def valLo (m : Int) (l : List Tm) (s inst : Int) : Int := (if l.length = 0 then m else m + arLo (vAt l inst l.length)) - s
def valHi (m : Int) (l : List Tm) (s inst : Int) : Int := (if l.length = 0 then m else m + arHi (vAt l inst l.length)) + s
/-- The interval around the sum of all terms. -/
theorem val_around {l : List Tm} {inst : Int} (h40 : l.length ≤ 40) (h : ∀ t ∈ l, TmOk t) :
    ∃ s1 s2 X1 X2, double.sub (vAt l inst l.length) wSl = some s1 ∧ double.add (vAt l inst l.length) wSl = some s2 ∧ Num s1 X1 ∧ Num s2 X2 ∧ (double.read (fflr s1)).toInt .zero = some (arLo (vAt l inst l.length)) ∧ (double.read (fcei s2)).toInt .zero = some (arHi (vAt l inst l.length)) ∧
      -50000000000 ≤ arLo (vAt l inst l.length) ∧ arLo (vAt l inst l.length) ≤ 50000000000 ∧ -50000000000 ≤ arHi (vAt l inst l.length) ∧ arHi (vAt l inst l.length) ≤ 50000000000 ∧
      (arLo (vAt l inst l.length) : Rat) ≤ xAt l inst l.length - 1/1000 + 138 / 100000 ∧ xAt l inst l.length - 1/1000 - 138 / 100000 < (arLo (vAt l inst l.length) : Rat) + 1 ∧
      xAt l inst l.length + 1/1000 ≤ (arHi (vAt l inst l.length) : Rat) + 138 / 100000 ∧ (arHi (vAt l inst l.length) : Rat) < xAt l inst l.length + 1/1000 + 138 / 100000 + 1 := by
  obtain ⟨i1, i2, i3, -⟩ := val_run (inst := inst) h40 h l.length (Nat.le_refl _)
  have p36 : p2 ((36 : Nat) : Int) = 68719476736 := by decide +kernel
  have u36 : p2 (((36 : Nat) : Int) - 53) ≤ 8 / 1000000 := by decide +kernel
  have k40 : (l.length : Rat) ≤ 40 := by
    have : (l.length : Rat) ≤ ((40 : Nat) : Rat) := cast_le h40
    exact this
  have k0 : (0 : Rat) ≤ (l.length : Rat) := by exact_mod_cast Nat.zero_le _
  have t18 : (1 : Rat) / 10 ^ 18 ≤ 1 / 1000000000 := by decide +kernel
  have i1' := i1.mono (e' := 136 / 100000) (by grind)
  obtain ⟨s1, s2, X1, X2, g1, g2, g3, g4, g5, g6, g7, g8, g9, g10, g11, g12, g13, g14⟩ := around_run 36 (by omega) i1' (by rw [p36]; grind) (by rw [p36]; grind)
  have cancel : ∀ {a b : Int}, (a : Rat) ≤ (b : Rat) → a ≤ b := fun h => Rat.intCast_le_intCast.1 h
  have w1 : ((50000000000 : Int) : Rat) = 50000000000 := rfl
  have w2 : ((-50000000000 : Int) : Rat) = -50000000000 := rfl
  generalize (1 : Rat) / 10 ^ 18 = d at *
  exact ⟨s1, s2, X1, X2, g1, g2, g3, g4, g5, g6, cancel (by rw [w2]; grind), cancel (by rw [w1]; grind), cancel (by rw [w2]; grind), cancel (by rw [w1]; grind), by grind, by grind, by grind, by grind⟩
end Go.Proofs.YtffnmfcaoldlhaaDoor
