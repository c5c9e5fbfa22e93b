/-
  A product with its value.
-/
import Derived.Test.YtjghhgapacnpeaaMatD
namespace Go.Proofs.Ytjghhgapacnpeaa
open Go.RowKit
attribute [local irreducible] World.setCell

set_option linter.unusedSimpArgs false
set_option linter.unusedVariables false

theorem ttimes_e (a00 a01 a02 a10 a11 a12 a20 a21 a22 b00 b01 b02 b10 b11 b12 b20 b21 b22 c00 c01 c02 c10 c11 c12 c20 c21 c22 : Int) (h : wrap64 (a00 * b00 + a01 * b10 + a02 * b20) = c00 ∧ wrap64 (a00 * b01 + a01 * b11 + a02 * b21) = c01 ∧ wrap64 (a00 * b02 + a01 * b12 + a02 * b22) = c02 ∧ wrap64 (a10 * b00 + a11 * b10 + a12 * b20) = c10 ∧ wrap64 (a10 * b01 + a11 * b11 + a12 * b21) = c11 ∧ wrap64 (a10 * b02 + a11 * b12 + a12 * b22) = c12 ∧ wrap64 (a20 * b00 + a21 * b10 + a22 * b20) = c20 ∧ wrap64 (a20 * b01 + a21 * b11 + a22 * b21) = c21 ∧ wrap64 (a20 * b02 + a21 * b12 + a22 * b22) = c22) (w : World) : Calls Try.prog 17 #[.agg #[.int .i64 a00, .int .i64 a01, .int .i64 a02, .int .i64 a10, .int .i64 a11, .int .i64 a12, .int .i64 a20, .int .i64 a21, .int .i64 a22], .agg #[.int .i64 b00, .int .i64 b01, .int .i64 b02, .int .i64 b10, .int .i64 b11, .int .i64 b12, .int .i64 b20, .int .i64 b21, .int .i64 b22]] w fun e w' => e = .returned (.agg #[.int .i64 c00, .int .i64 c01, .int .i64 c02, .int .i64 c10, .int .i64 c11, .int .i64 c12, .int .i64 c20, .int .i64 c21, .int .i64 c22]) ∧ Below w.heap.size w w' := by
  have t := ttimes_any a00 a01 a02 a10 a11 a12 a20 a21 a22 b00 b01 b02 b10 b11 b12 b20 b21 b22 w
  obtain ⟨h0, h1, h2, h3, h4, h5, h6, h7, h8⟩ := h
  rw [h0, h1, h2, h3, h4, h5, h6, h7, h8] at t
  exact t
end Go.Proofs.Ytjghhgapacnpeaa
