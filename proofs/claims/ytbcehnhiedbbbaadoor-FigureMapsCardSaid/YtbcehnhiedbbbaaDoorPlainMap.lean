/- The arithmetic of fractions that figure.Mapped runs, as functions. -/
import Derived.Test.YtbcehnhiedbbbaaDoorPlainFc
set_option linter.unusedVariables false
set_option linter.unusedSimpArgs false
namespace Go.Proofs.YtbcehnhiedbbbaaDoor
/-- A fraction and an error. -/
structure FrR where
  e : Int
  n : Int
  d : Int
def ofR (n d : Int) : FrR :=
  if 2147483647 < n.natAbs / Nat.gcd n.natAbs d.natAbs ∨ 2147483647 < d.natAbs / Nat.gcd n.natAbs d.natAbs then ⟨14, 0, 0⟩
  else ⟨0, if n < 0 then -((n.natAbs / Nat.gcd n.natAbs d.natAbs : Nat) : Int) else ((n.natAbs / Nat.gcd n.natAbs d.natAbs : Nat) : Int), ((d.natAbs / Nat.gcd n.natAbs d.natAbs : Nat) : Int)⟩
theorem ofR_ok {n d : Int} (hd : 1 ≤ d) (h : (ofR n d).e = 0) : fcE (ofR n d).n (ofR n d).d = 0 := by
  unfold ofR at *
  by_cases hb : 2147483647 < n.natAbs / Nat.gcd n.natAbs d.natAbs ∨ 2147483647 < d.natAbs / Nat.gcd n.natAbs d.natAbs
  · rw [if_pos hb] at h; cases h
  · rw [if_neg hb]
    have hg : 0 < Nat.gcd n.natAbs d.natAbs := Nat.gcd_pos_of_pos_right _ (by omega)
    have hco : Nat.gcd (n.natAbs / Nat.gcd n.natAbs d.natAbs) (d.natAbs / Nat.gcd n.natAbs d.natAbs) = 1 := by
      rw [Nat.gcd_div (Nat.gcd_dvd_left _ _) (Nat.gcd_dvd_right _ _)]; exact Nat.div_self hg
    have hpos : 0 < d.natAbs / Nat.gcd n.natAbs d.natAbs := Nat.div_pos (Nat.le_of_dvd (by omega) (Nat.gcd_dvd_right _ _)) hg
    generalize n.natAbs / Nat.gcd n.natAbs d.natAbs = a at *
    generalize d.natAbs / Nat.gcd n.natAbs d.natAbs = b at *
    simp only
    have hn : (if n < 0 then -(a : Int) else (a : Int)).natAbs = a := by split <;> omega
    unfold fcE
    rw [if_neg, hn, if_pos]
    · rw [show (b : Int).natAbs = b from rfl]; exact hco
    · unfold fcB; split <;> omega
def mulR (x y : Int × Int) : FrR := ofR (x.1 * y.1) (x.2 * y.2)
def addR (x y : Int × Int) : FrR := ofR (x.1 * y.2 + y.1 * x.2) (x.2 * y.2)
def okF (x : Int × Int) : Prop := fcE x.1 x.2 = 0
theorem den_pos {x y : Int × Int} (hx : okF x) (hy : okF y) : 1 ≤ x.2 * y.2 := by
  have a := (fcE_ok hx).1
  have b := (fcE_ok hy).1
  have := Int.mul_le_mul a b (by decide) (by omega)
  omega
theorem mulR_ok {x y : Int × Int} (hx : okF x) (hy : okF y) (h : (mulR x y).e = 0) : okF ((mulR x y).n, (mulR x y).d) := ofR_ok (den_pos hx hy) h
theorem addR_ok {x y : Int × Int} (hx : okF x) (hy : okF y) (h : (addR x y).e = 0) : okF ((addR x y).n, (addR x y).d) := ofR_ok (den_pos hx hy) h
/-- a x + b y + c. -/
def lineR (a x b y c : Int × Int) : FrR :=
  if (mulR a x).e ≠ 0 then ⟨(mulR a x).e, 0, 0⟩
  else if (mulR b y).e ≠ 0 then ⟨(mulR b y).e, 0, 0⟩
  else if (addR ((mulR a x).n, (mulR a x).d) ((mulR b y).n, (mulR b y).d)).e ≠ 0 then ⟨(addR ((mulR a x).n, (mulR a x).d) ((mulR b y).n, (mulR b y).d)).e, 0, 0⟩
  else addR ((addR ((mulR a x).n, (mulR a x).d) ((mulR b y).n, (mulR b y).d)).n, (addR ((mulR a x).n, (mulR a x).d) ((mulR b y).n, (mulR b y).d)).d) c
def fX (p : Fp) : Int × Int := (p.xn, p.xd)
def fY (p : Fp) : Int × Int := (p.yn, p.yd)
abbrev M6 := Nat → Int × Int
def mX (m : M6) (p : Fp) : FrR := lineR (m 0) (fX p) (m 1) (fY p) (m 2)
def mY (m : M6) (p : Fp) : FrR := lineR (m 3) (fX p) (m 4) (fY p) (m 5)
def mpE (m : M6) (p : Fp) : Int := if (mX m p).e ≠ 0 then (mX m p).e else (mY m p).e
def mpP (m : M6) (p : Fp) : Fp := ⟨(mX m p).n, (mX m p).d, (mY m p).n, (mY m p).d⟩
end Go.Proofs.YtbcehnhiedbbbaaDoor
