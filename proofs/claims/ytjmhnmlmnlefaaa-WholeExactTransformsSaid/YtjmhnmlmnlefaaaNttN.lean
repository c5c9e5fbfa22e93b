/-
  Whole numbers modulo the prime.
-/
import Derived.Test.YtjmhnmlmnlefaaaNttKA
namespace Go.Proofs.Ytjmhnmlmnlefaaa
open Go.RowKit Go.Lib
attribute [local irreducible] World.setCell
set_option linter.unusedSimpArgs false
set_option linter.unusedVariables false


/-- A whole number, modulo the prime. -/
def iF (v : Int) : F := Fin.ofNat PP (v % 18446744069414584321).toNat
theorem iF_val (v : Int) : (iF v).val = (v % 18446744069414584321).toNat := by
  show (v % 18446744069414584321).toNat % 18446744069414584321 = _
  apply Nat.mod_eq_of_lt
  omega
theorem iF_add (a b : Int) : iF (a + b) = iF a + iF b := by
  apply Fin.ext
  rw [Fin.val_add, iF_val, iF_val, iF_val]
  show _ = ((a % 18446744069414584321).toNat + (b % 18446744069414584321).toNat) % 18446744069414584321
  omega
theorem iF_mul (a b : Int) : iF (a * b) = iF a * iF b := by
  apply Fin.ext
  rw [Fin.val_mul, iF_val, iF_val, iF_val]
  show _ = ((a % 18446744069414584321).toNat * (b % 18446744069414584321).toNat) % 18446744069414584321
  have h1 : 0 ≤ a % 18446744069414584321 := by omega
  have h2 : 0 ≤ b % 18446744069414584321 := by omega
  rw [Int.mul_emod a b 18446744069414584321]
  generalize a % 18446744069414584321 = x at *
  generalize b % 18446744069414584321 = y at *
  obtain ⟨p, rfl⟩ : ∃ p : Nat, x = p := ⟨x.toNat, by omega⟩
  obtain ⟨q, rfl⟩ : ∃ q : Nat, y = q := ⟨y.toNat, by omega⟩
  rw [Int.toNat_natCast, Int.toNat_natCast, ← Int.natCast_mul]
  generalize p * q = z
  omega
theorem wd_neg (v : Int) (h0 : v < 0) (h1 : -1048576 ≤ v) : ((18446744069414584321 : Int) + v) = (((iF v).val : Nat) : Int) := by
  rw [iF_val]; omega
theorem wd_pos (v : Int) (h0 : 0 ≤ v) (h1 : v ≤ 1048576) : v = (((iF v).val : Nat) : Int) := by
  rw [iF_val]; omega

/-- The values of a grid along all its edges transformed. -/
def fwd (n0 n1 n2 : Nat) (X : Nat → F) : Nat → F := alongF (dft n2 (rt n2)) 1 n2 (alongF (dft n1 (rt n1)) n2 n1 (alongF (dft n0 (rt n0)) (n1 * n2) n0 X))
def bwd (n0 n1 n2 : Nat) (X : Nat → F) : Nat → F := alongF (idft n2) 1 n2 (alongF (idft n1) n2 n1 (alongF (idft n0) (n1 * n2) n0 X))
/-- Sides that are lengths, of not too many places. -/
structure Box (n0 n1 n2 L : Nat) : Prop where
  h0 : 0 < n0 ∧ 192 % n0 = 0 ∧ n0 ≤ 192
  h1 : 0 < n1 ∧ 192 % n1 = 0 ∧ n1 ≤ 192
  h2 : 0 < n2 ∧ 192 % n2 = 0 ∧ n2 ≤ 192
  hL : L = n0 * n1 * n2
  hb : L ≤ 262144

end Go.Proofs.Ytjmhnmlmnlefaaa
