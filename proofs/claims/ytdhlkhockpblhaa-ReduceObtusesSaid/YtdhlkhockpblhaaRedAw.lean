/-
  The example of layer 12 holds.
-/
import Derived.Test.YtdhlkhockpblhaaRedE1
import Derived.Test.YtdhlkhockpblhaaRedQ
namespace Go.Proofs.Ytdhlkhockpblhaa
open Go.RowKit
attribute [local irreducible] World.setCell

set_option linter.unusedSimpArgs false
set_option linter.unusedVariables false

def aw : Met := ⟨2, 2, 2, 1, 1, 1⟩
theorem aw_N : pick (it aw 4) = 6 := by decide +kernel
theorem aw_l : ∀ k, k < 4 → pick (it aw k) < 6 := by decide +kernel
theorem aw_s : lst (it aw 4) 6 = 2 := by decide +kernel
theorem aw_c : chk aw = 0 := by decide +kernel
theorem aw_r : resS aw = .tuple #[.agg #[.int .i64 6, .int .i64 2, .int .i64 2, .int .i64 (-1), .int .i64 2, .int .i64 (-3)], .agg #[.int .i64 1, .int .i64 0, .int .i64 0, .int .i64 1, .int .i64 (-1), .int .i64 0, .int .i64 0, .int .i64 0, .int .i64 1], .bool true, .int .i64 0] := by kernel_rfl
theorem aw_step (w : World) : Calls Try.prog 10 #[.agg #[.int .i64 2, .int .i64 2, .int .i64 2, .int .i64 1, .int .i64 1, .int .i64 1]] w fun e w' => e = .returned (.tuple #[.agg #[.int .i64 6, .int .i64 2, .int .i64 2, .int .i64 (-1), .int .i64 2, .int .i64 (-3)], .agg #[.int .i64 1, .int .i64 0, .int .i64 0, .int .i64 1, .int .i64 (-1), .int .i64 0, .int .i64 0, .int .i64 0, .int .i64 1], .bool true, .int .i64 0]) ∧ Below w.heap.size w w' := to_v aw_r (Step_all aw w)
theorem aw_short (w : World) : Calls Try.prog 15 #[.agg #[.int .i64 2, .int .i64 2, .int .i64 2, .int .i64 1, .int .i64 1, .int .i64 1]] w fun e w' => e = .returned (.tuple #[.int .i64 2, .int .i64 0]) ∧ Below w.heap.size w w' := to_v (congrArg (fun x => Value.tuple #[.int .i64 x, .int .i64 0]) aw_s) (Shortest_run aw 4 (by omega) aw_N aw_l w aw_c)
set_option maxHeartbeats 800000 in
theorem awake_any  (w : World) :
    Calls Try.prog 12 #[] w fun e w' => e = .returned (.bool true) ∧ Below w.heap.size w w' := by
  go_enter Try.func12, Try.ntmps12
  go_wp2_with fail
  refine (aw_step _).mono ?_
  rintro e w1 ⟨rfl, hb1⟩
  obtain ⟨hc1, hf1⟩ := bcell hb1
  have hz1 := hb1.size
  try simp at hz1
  have z1_0 : w.heap.size < w1.heap.size := by omega
  go_wp2_with fail
  refine (aw_short _).mono ?_
  rintro e w2 ⟨rfl, hb2⟩
  obtain ⟨hc2, hf2⟩ := bcell hb2
  have hz2 := hb2.size
  try simp at hz2
  have z2_0 : w.heap.size < w2.heap.size := by omega
  have z2_1 : w1.heap.size < w2.heap.size := by omega
  have z2_2 : w1.heap.size + 1 < w2.heap.size := by omega
  go_wp2
  go_ret
  refine ⟨rfl, ?_⟩
  repeat (first | exact Below.refl _ _ | assumption | exact Below.alloc (Below.refl _ _) (Nat.le_refl _) _ | refine Below.setCell ?_ (by first | (simp; done) | (simp; omega) | omega) _ | refine below_drewN ?_ _ | refine Below.alloc ?_ (by first | (simp; done) | (simp; omega) | omega) _ | refine Below.trans ?_ (Below.mono (by assumption) (by first | (simp; done) | (simp; omega) | omega)))

end Go.Proofs.Ytdhlkhockpblhaa
