/-
  Words for the loops of the law WholePeaks.
-/
import Derived.Test.YtjghhgapacnpeaaMatK13
namespace Go.Proofs.Ytjghhgapacnpeaa
open Go.RowKit Go.Lib Go.Proofs
attribute [local irreducible] World.setCell
set_option linter.unusedSimpArgs false
set_option linter.unusedVariables false


def loopsOf : Code → List Code
  | .loop c => c :: loopsOf c
  | .seq a b => loopsOf a ++ loopsOf b
  | .block _ c => loopsOf c
  | .scope c => loopsOf c
  | .cond _ a b => loopsOf a ++ loopsOf b
  | _ => []
noncomputable def bodyK (k : Nat) : Code := ((Try.f4.body.map loopsOf).getD []).getD k .skip
/-- What the loops know. -/
structure PkF (L N i q p0 p1 p2 m0 m1 m2 : Nat) (lev x : Int) (f : Nat → Int) (d : Array Pk) : Prop where
  en : N = d.size
  el : L = m0 * m1 * m2
  nl : N ≤ 12
  ll : L ≤ 96
  hi : i < N
  hq : q < L
  pk : isPk m0 m1 m2 f lev q = true
  ed : d[i]! = pkAt m1 m2 f q
  pb : (0 < m0 ∧ m0 ≤ 192) ∧ (0 < m1 ∧ m1 ≤ 192) ∧ 0 < m2 ∧ m2 ≤ 192
  at0 : at0 m1 m2 q = p0
  at1 : at1 m1 m2 q = p1
  at2 : at2 m2 q = p2
  ex : x = f q

end Go.Proofs.Ytjghhgapacnpeaa
