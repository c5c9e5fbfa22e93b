/-
  Plain law: matrices of small entries; signed permutations and the maps of the hexagon: inverses, powers, orders.
-/
import Derived.Test.YtdhlkhockpblhaaCelC
namespace Go.Proofs.Ytdhlkhockpblhaa.M
open Go.RowKit
attribute [local irreducible] World.setCell

set_option linter.unusedSimpArgs false
set_option linter.unusedVariables false

@[ext] structure Mt where
  p00 : Int
  p01 : Int
  p02 : Int
  p10 : Int
  p11 : Int
  p12 : Int
  p20 : Int
  p21 : Int
  p22 : Int
deriving DecidableEq
def one : Mt := ⟨1, 0, 0, 0, 1, 0, 0, 0, 1⟩
def mulW (a b : Mt) : Mt := ⟨wrap64 (a.p00 * b.p00 + a.p01 * b.p10 + a.p02 * b.p20), wrap64 (a.p00 * b.p01 + a.p01 * b.p11 + a.p02 * b.p21), wrap64 (a.p00 * b.p02 + a.p01 * b.p12 + a.p02 * b.p22), wrap64 (a.p10 * b.p00 + a.p11 * b.p10 + a.p12 * b.p20), wrap64 (a.p10 * b.p01 + a.p11 * b.p11 + a.p12 * b.p21), wrap64 (a.p10 * b.p02 + a.p11 * b.p12 + a.p12 * b.p22), wrap64 (a.p20 * b.p00 + a.p21 * b.p10 + a.p22 * b.p20), wrap64 (a.p20 * b.p01 + a.p21 * b.p11 + a.p22 * b.p21), wrap64 (a.p20 * b.p02 + a.p21 * b.p12 + a.p22 * b.p22)⟩
def adjW (m : Mt) : Mt := ⟨wrap64 (m.p11 * m.p22 - m.p12 * m.p21), wrap64 (m.p21 * m.p02 - m.p22 * m.p01), wrap64 (m.p01 * m.p12 - m.p02 * m.p11), wrap64 (m.p12 * m.p20 - m.p10 * m.p22), wrap64 (m.p22 * m.p00 - m.p20 * m.p02), wrap64 (m.p02 * m.p10 - m.p00 * m.p12), wrap64 (m.p10 * m.p21 - m.p11 * m.p20), wrap64 (m.p20 * m.p01 - m.p21 * m.p00), wrap64 (m.p00 * m.p11 - m.p01 * m.p10)⟩
def timesD (m : Mt) (d : Int) : Mt := ⟨wrap64 (m.p00 * d), wrap64 (m.p01 * d), wrap64 (m.p02 * d), wrap64 (m.p10 * d), wrap64 (m.p11 * d), wrap64 (m.p12 * d), wrap64 (m.p20 * d), wrap64 (m.p21 * d), wrap64 (m.p22 * d)⟩
def trM (m : Mt) : Mt := ⟨m.p00, m.p10, m.p20, m.p01, m.p11, m.p21, m.p02, m.p12, m.p22⟩
def chkM (m : Mt) : Int := matC m.p00 m.p01 m.p02 m.p10 m.p11 m.p12 m.p20 m.p21 m.p22
def dM (m : Mt) : Int := wrap64 (d9 m.p00 m.p01 m.p02 m.p10 m.p11 m.p12 m.p20 m.p21 m.p22)
def emP (p s c m : Int) : Int := (wrap64 (s + wrap64 (c * (wrap64 (m.tmod p + p)).tmod p))).tmod p
def stP (p : Int) (c m : Mt) : Mt := ⟨emP p (emP p (emP p 0 c.p00 m.p00) c.p01 m.p10) c.p02 m.p20, emP p (emP p (emP p 0 c.p00 m.p01) c.p01 m.p11) c.p02 m.p21, emP p (emP p (emP p 0 c.p00 m.p02) c.p01 m.p12) c.p02 m.p22, emP p (emP p (emP p 0 c.p10 m.p00) c.p11 m.p10) c.p12 m.p20, emP p (emP p (emP p 0 c.p10 m.p01) c.p11 m.p11) c.p12 m.p21, emP p (emP p (emP p 0 c.p10 m.p02) c.p11 m.p12) c.p12 m.p22, emP p (emP p (emP p 0 c.p20 m.p00) c.p21 m.p10) c.p22 m.p20, emP p (emP p (emP p 0 c.p20 m.p01) c.p21 m.p11) c.p22 m.p21, emP p (emP p (emP p 0 c.p20 m.p02) c.p21 m.p12) c.p22 m.p22⟩
def pwP (p : Int) (m : Mt) : Nat → Mt
  | 0 => one
  | k + 1 => stP p (pwP p m k) m
def powB (m : Mt) (n : Nat) : Bool := decide (pwP 2147483647 m n = one) && (decide (pwP 2147483629 m n = one) && decide (pwP 2147483587 m n = one))
def pwG (g : Mt) : Nat → Mt
  | 0 => g
  | k + 1 => mulW (pwG g k) g
def trT (g : Mt) : Int := wrap64 (dM g * wrap64 (wrap64 (g.p00 + g.p11) + g.p22))
def ordB (t : Int) : Nat := if t = 3 then 1 else if t = 2 then 6 else if t = 1 then 4 else if t = 0 then 3 else 2
def ordN (g : Mt) : Nat := if dM g < 0 ∧ ordB (trT g) % 2 = 1 then ordB (trT g) * 2 else ordB (trT g)
/-- What the law asks of the matrix of a map. -/
structure Good (g : Mt) : Prop where
  c : chkM g = 0
  d : dM g = 1 ∨ dM g = -1
  t : trT g = 3 ∨ trT g = 2 ∨ trT g = 1 ∨ trT g = 0 ∨ trT g = -1
  ci : chkM (timesD (adjW g) (dM g)) = 0
  inv : mulW g (timesD (adjW g) (dM g)) = one
  n : ordN g = 1 ∨ ordN g = 2 ∨ ordN g = 3 ∨ ordN g = 4 ∨ ordN g = 6
  pow : powB g (ordN g) = true
  low : ∀ k, k < ordN g → 0 < k → powB g k = false
  wl : ∀ k, k + 1 < ordN g → pwG g k ≠ one
  wn : pwG g (ordN g - 1) = one
def goodB (g : Mt) : Bool :=
  decide (chkM g = 0) && decide (dM g = 1 ∨ dM g = -1) && decide (trT g = 3 ∨ trT g = 2 ∨ trT g = 1 ∨ trT g = 0 ∨ trT g = -1) && decide (chkM (timesD (adjW g) (dM g)) = 0) && decide (mulW g (timesD (adjW g) (dM g)) = one) &&
  decide (ordN g = 1 ∨ ordN g = 2 ∨ ordN g = 3 ∨ ordN g = 4 ∨ ordN g = 6) && powB g (ordN g) && decide (∀ k, k < ordN g → 0 < k → powB g k = false) && decide (∀ k, k < ordN g → k + 1 < ordN g → pwG g k ≠ one) && decide (pwG g (ordN g - 1) = one)
theorem goodB_good {g : Mt} (h : goodB g = true) : Good g := by
  simp only [goodB, Bool.and_eq_true, decide_eq_true_eq] at h
  obtain ⟨⟨⟨⟨⟨⟨⟨⟨⟨h1, h2⟩, h3⟩, h4⟩, h5⟩, h6⟩, h7⟩, h8⟩, h9⟩, h10⟩ := h
  exact ⟨h1, h2, h3, h4, h5, h6, h7, h8, fun k hk => h9 k (by omega) hk, h10⟩
def sgM (n : Nat) : Mt :=
  match n with
  | 0 => ⟨1, 0, 0, 0, 1, 0, 0, 0, 1⟩
  | 1 => ⟨(-1), 0, 0, 0, 1, 0, 0, 0, 1⟩
  | 2 => ⟨1, 0, 0, 0, (-1), 0, 0, 0, 1⟩
  | 3 => ⟨(-1), 0, 0, 0, (-1), 0, 0, 0, 1⟩
  | 4 => ⟨1, 0, 0, 0, 1, 0, 0, 0, (-1)⟩
  | 5 => ⟨(-1), 0, 0, 0, 1, 0, 0, 0, (-1)⟩
  | 6 => ⟨1, 0, 0, 0, (-1), 0, 0, 0, (-1)⟩
  | 7 => ⟨(-1), 0, 0, 0, (-1), 0, 0, 0, (-1)⟩
  | 8 => ⟨1, 0, 0, 0, 0, 1, 0, 1, 0⟩
  | 9 => ⟨(-1), 0, 0, 0, 0, 1, 0, 1, 0⟩
  | 10 => ⟨1, 0, 0, 0, 0, (-1), 0, 1, 0⟩
  | 11 => ⟨(-1), 0, 0, 0, 0, (-1), 0, 1, 0⟩
  | 12 => ⟨1, 0, 0, 0, 0, 1, 0, (-1), 0⟩
  | 13 => ⟨(-1), 0, 0, 0, 0, 1, 0, (-1), 0⟩
  | 14 => ⟨1, 0, 0, 0, 0, (-1), 0, (-1), 0⟩
  | 15 => ⟨(-1), 0, 0, 0, 0, (-1), 0, (-1), 0⟩
  | 16 => ⟨0, 1, 0, 1, 0, 0, 0, 0, 1⟩
  | 17 => ⟨0, (-1), 0, 1, 0, 0, 0, 0, 1⟩
  | 18 => ⟨0, 1, 0, (-1), 0, 0, 0, 0, 1⟩
  | 19 => ⟨0, (-1), 0, (-1), 0, 0, 0, 0, 1⟩
  | 20 => ⟨0, 1, 0, 1, 0, 0, 0, 0, (-1)⟩
  | 21 => ⟨0, (-1), 0, 1, 0, 0, 0, 0, (-1)⟩
  | 22 => ⟨0, 1, 0, (-1), 0, 0, 0, 0, (-1)⟩
  | 23 => ⟨0, (-1), 0, (-1), 0, 0, 0, 0, (-1)⟩
  | 24 => ⟨0, 1, 0, 0, 0, 1, 1, 0, 0⟩
  | 25 => ⟨0, (-1), 0, 0, 0, 1, 1, 0, 0⟩
  | 26 => ⟨0, 1, 0, 0, 0, (-1), 1, 0, 0⟩
  | 27 => ⟨0, (-1), 0, 0, 0, (-1), 1, 0, 0⟩
  | 28 => ⟨0, 1, 0, 0, 0, 1, (-1), 0, 0⟩
  | 29 => ⟨0, (-1), 0, 0, 0, 1, (-1), 0, 0⟩
  | 30 => ⟨0, 1, 0, 0, 0, (-1), (-1), 0, 0⟩
  | 31 => ⟨0, (-1), 0, 0, 0, (-1), (-1), 0, 0⟩
  | 32 => ⟨0, 0, 1, 1, 0, 0, 0, 1, 0⟩
  | 33 => ⟨0, 0, (-1), 1, 0, 0, 0, 1, 0⟩
  | 34 => ⟨0, 0, 1, (-1), 0, 0, 0, 1, 0⟩
  | 35 => ⟨0, 0, (-1), (-1), 0, 0, 0, 1, 0⟩
  | 36 => ⟨0, 0, 1, 1, 0, 0, 0, (-1), 0⟩
  | 37 => ⟨0, 0, (-1), 1, 0, 0, 0, (-1), 0⟩
  | 38 => ⟨0, 0, 1, (-1), 0, 0, 0, (-1), 0⟩
  | 39 => ⟨0, 0, (-1), (-1), 0, 0, 0, (-1), 0⟩
  | 40 => ⟨0, 0, 1, 0, 1, 0, 1, 0, 0⟩
  | 41 => ⟨0, 0, (-1), 0, 1, 0, 1, 0, 0⟩
  | 42 => ⟨0, 0, 1, 0, (-1), 0, 1, 0, 0⟩
  | 43 => ⟨0, 0, (-1), 0, (-1), 0, 1, 0, 0⟩
  | 44 => ⟨0, 0, 1, 0, 1, 0, (-1), 0, 0⟩
  | 45 => ⟨0, 0, (-1), 0, 1, 0, (-1), 0, 0⟩
  | 46 => ⟨0, 0, 1, 0, (-1), 0, (-1), 0, 0⟩
  | _ => ⟨0, 0, (-1), 0, (-1), 0, (-1), 0, 0⟩
def sxM (n : Nat) : Mt :=
  match n with
  | 0 => ⟨1, 0, 0, 0, 1, 0, 0, 0, 1⟩
  | 1 => ⟨1, (-1), 0, 1, 0, 0, 0, 0, 1⟩
  | 2 => ⟨0, (-1), 0, 1, (-1), 0, 0, 0, 1⟩
  | 3 => ⟨(-1), 0, 0, 0, (-1), 0, 0, 0, 1⟩
  | 4 => ⟨(-1), 1, 0, (-1), 0, 0, 0, 0, 1⟩
  | 5 => ⟨0, 1, 0, (-1), 1, 0, 0, 0, 1⟩
  | 6 => ⟨0, 1, 0, 1, 0, 0, 0, 0, (-1)⟩
  | 7 => ⟨(-1), 1, 0, 0, 1, 0, 0, 0, (-1)⟩
  | 8 => ⟨(-1), 0, 0, (-1), 1, 0, 0, 0, (-1)⟩
  | 9 => ⟨0, (-1), 0, (-1), 0, 0, 0, 0, (-1)⟩
  | 10 => ⟨1, (-1), 0, 0, (-1), 0, 0, 0, (-1)⟩
  | 11 => ⟨1, 0, 0, 1, (-1), 0, 0, 0, (-1)⟩
  | 12 => ⟨(-1), 0, 0, 0, (-1), 0, 0, 0, (-1)⟩
  | 13 => ⟨(-1), 1, 0, (-1), 0, 0, 0, 0, (-1)⟩
  | 14 => ⟨0, 1, 0, (-1), 1, 0, 0, 0, (-1)⟩
  | 15 => ⟨1, 0, 0, 0, 1, 0, 0, 0, (-1)⟩
  | 16 => ⟨1, (-1), 0, 1, 0, 0, 0, 0, (-1)⟩
  | 17 => ⟨0, (-1), 0, 1, (-1), 0, 0, 0, (-1)⟩
  | 18 => ⟨0, (-1), 0, (-1), 0, 0, 0, 0, 1⟩
  | 19 => ⟨1, (-1), 0, 0, (-1), 0, 0, 0, 1⟩
  | 20 => ⟨1, 0, 0, 1, (-1), 0, 0, 0, 1⟩
  | 21 => ⟨0, 1, 0, 1, 0, 0, 0, 0, 1⟩
  | 22 => ⟨(-1), 1, 0, 0, 1, 0, 0, 0, 1⟩
  | _ => ⟨(-1), 0, 0, (-1), 1, 0, 0, 0, 1⟩
set_option maxRecDepth 100000 in
theorem sg_all : ∀ n, n < 48 → goodB (sgM n) = true := by decide +kernel
set_option maxRecDepth 100000 in
theorem sx_all : ∀ n, n < 24 → goodB (sxM n) = true := by decide +kernel
theorem sg_good (n : Nat) (h : n < 48) : Good (sgM n) := goodB_good (sg_all n h)
theorem sx_good (n : Nat) (h : n < 24) : Good (sxM n) := goodB_good (sx_all n h)
def In11 (m : Mt) : Prop := (-11 ≤ m.p00 ∧ m.p00 ≤ 11) ∧ (-11 ≤ m.p01 ∧ m.p01 ≤ 11) ∧ (-11 ≤ m.p02 ∧ m.p02 ≤ 11) ∧ (-11 ≤ m.p10 ∧ m.p10 ≤ 11) ∧ (-11 ≤ m.p11 ∧ m.p11 ≤ 11) ∧ (-11 ≤ m.p12 ∧ m.p12 ≤ 11) ∧ (-11 ≤ m.p20 ∧ m.p20 ≤ 11) ∧ (-11 ≤ m.p21 ∧ m.p21 ≤ 11) ∧ (-11 ≤ m.p22 ∧ m.p22 ≤ 11)
@[ext] structure V3 where
  x : Int
  y : Int
  z : Int
def appM (m : Mt) (v : V3) : V3 := ⟨wrap64 (m.p00 * v.x + m.p01 * v.y + m.p02 * v.z), wrap64 (m.p10 * v.x + m.p11 * v.y + m.p12 * v.z), wrap64 (m.p20 * v.x + m.p21 * v.y + m.p22 * v.z)⟩
def InV (n : Int) (v : V3) : Prop := (-n ≤ v.x ∧ v.x ≤ n) ∧ (-n ≤ v.y ∧ v.y ≤ n) ∧ (-n ≤ v.z ∧ v.z ≤ n)
end Go.Proofs.Ytdhlkhockpblhaa.M
