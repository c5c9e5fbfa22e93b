/-
  The law CplxMirrors: both kinds of lists.
-/
import Derived.Test.YtiloleochmdfoaaLawMirrors
namespace Go.Proofs.Ytiloleochmdfoaa
open Go.RowKit
attribute [local irreducible] World.setCell

set_option linter.unusedSimpArgs false
set_option linter.unusedVariables false

/-- A list of pairs of patterns of bits that came in; the bounds of the second ones. -/
def ListArg2 (w : World) (v : Value) : Prop := (∃ a c, v = .slice a 0 c) ∨ ∃ (bk o n c : Nat) (x y : Nat → Int), v = .slice (some ⟨bk, o, none⟩) n c ∧ bk < w.heap.size ∧ n ≤ c ∧ n * 16 ≤ 140737488351232 ∧
  (∀ k, k < n → w.cell? ⟨bk, o + 2 * k, none⟩ = some (.int .u64 (x k))) ∧ (∀ k, k < n → w.cell? ⟨bk, o + 2 * k + 1, none⟩ = some (.int .u64 (y k))) ∧ ∀ k, k < n → y k < 18446744073709551616
theorem mirrors_arg {w : World} {v : Value} (h : ListArg2 w v) (A B C D : Int) (hA : A < 18446744073709551616) (hB : B < 18446744073709551616) (hC : C < 18446744073709551616) (hD : D < 18446744073709551616) :
    Calls Try.prog 8 #[.agg #[.int .u64 A, .int .u64 B], .agg #[.int .u64 C, .int .u64 D], v] w fun e w' => e = .returned (.bool true) ∧ Below w.heap.size w w' := by
  rcases h with ⟨a, c, rfl⟩ | ⟨bk, o, n, c, x, y, rfl, h1, h2, h3, h4, h5, h6⟩
  · exact mirrors_none A B C D a c w hA hB hC hD
  · exact mirrors_some A B C D bk o n c x y w hA hB hC hD h1 h2 h3 h4 h5 h6
end Go.Proofs.Ytiloleochmdfoaa
