/-
  The law ReduceEnds: it returns true.
-/
import Derived.Test.YtdhlkhockpblhaaLawEndsZ
import Derived.Test.YtdhlkhockpblhaaLawEndsP
namespace Go.Proofs.Ytdhlkhockpblhaa
open Go.RowKit
attribute [local irreducible] World.setCell

set_option linter.unusedSimpArgs false
set_option linter.unusedVariables false

theorem ends_any (aa bb cc bc ac ab : Int) (w : World) : Calls Try.prog 6 #[.agg #[.int .i64 aa, .int .i64 bb, .int .i64 cc, .int .i64 bc, .int .i64 ac, .int .i64 ab]] w fun e w' => e = .returned (.bool true) ∧ Below w.heap.size w w' := by
  by_cases hC : chk ⟨aa, bb, cc, bc, ac, ab⟩ = 0
  · obtain ⟨N, hN0, hN, hl⟩ := chk_end hC
    rcases Nat.eq_zero_or_pos N with h0 | h0
    · exact ends_zero ⟨aa, bb, cc, bc, ac, ab⟩ N w hC hN0 hN hl h0
    · exact ends_pos ⟨aa, bb, cc, bc, ac, ab⟩ N w hC hN0 hN hl h0
  · exact ends_bad ⟨aa, bb, cc, bc, ac, ab⟩ _ w rfl hC
end Go.Proofs.Ytdhlkhockpblhaa
