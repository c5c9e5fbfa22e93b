/-
  Sums and products of floats either way round.
-/
import Derived.Test.YtiloleochmdfoaaCxF
namespace Go.Proofs.Ytiloleochmdfoaa
open Go.RowKit
attribute [local irreducible] World.setCell

set_option linter.unusedSimpArgs false
set_option linter.unusedVariables false

theorem product_comm (a b : Ieee.Datum) : a.product b = b.product a := by
  cases a <;> cases b <;> simp [Ieee.Datum.product, Bool.xor_comm, Nat.mul_comm, Int.add_comm]
theorem sum_comm (a b : Ieee.Datum) : a.sum b = b.sum a := by
  cases a with
  | nan s t => cases b <;> rfl
  | infinity s =>
    cases b with
    | nan _ _ => rfl
    | infinity t =>
      simp only [Ieee.Datum.sum]
      by_cases h : s = t
      · rw [if_pos h, if_pos h.symm, h]
      · rw [if_neg h, if_neg (fun q => h q.symm)]
    | number _ _ _ => rfl
  | number s m i =>
    cases b with
    | nan _ _ => rfl
    | infinity t => rfl
    | number t n j =>
      simp only [Ieee.Datum.sum, Int.min_comm i j, Int.add_comm (Ieee.signed s m _), Bool.and_comm s t]
theorem fop_mul_comm (x y : Option Nat) : fop .mul x y = fop .mul y x := by
  cases x <;> cases y <;> simp only [fop]
  simp only [floatBits, Ieee.Format.mul, product_comm]
theorem fop_add_comm (x y : Option Nat) : fop .add x y = fop .add y x := by
  cases x <;> cases y <;> simp only [fop]
  simp only [floatBits, Ieee.Format.add, sum_comm]
theorem both {a b c d : Nat} (h1 : cn a = cn c) (h2 : cn b = cn d) : (samev a c && samev b d) = true := by rw [samev_of h1, samev_of h2]; rfl
end Go.Proofs.Ytiloleochmdfoaa
