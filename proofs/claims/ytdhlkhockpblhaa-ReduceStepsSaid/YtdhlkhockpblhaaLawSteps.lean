/-
  The law ReduceSteps, walked: it returns true.
-/
import Derived.Test.YtdhlkhockpblhaaRedAw
import Derived.Test.YtdhlkhockpblhaaRedS
namespace Go.Proofs.Ytdhlkhockpblhaa
open Go.RowKit
attribute [local irreducible] World.setCell

set_option linter.unusedSimpArgs false
set_option linter.unusedVariables false

set_option maxHeartbeats 1600000 in
theorem steps_v (m : Met) (M : Met) (Q : Mt) (b : Bool) (c : Int) (r : resS m = .tuple #[.agg #[.int .i64 M.aa, .int .i64 M.bb, .int .i64 M.cc, .int .i64 M.bc, .int .i64 M.ac, .int .i64 M.ab], .agg #[.int .i64 Q.p00, .int .i64 Q.p01, .int .i64 Q.p02, .int .i64 Q.p10, .int .i64 Q.p11, .int .i64 Q.p12, .int .i64 Q.p20, .int .i64 Q.p21, .int .i64 Q.p22], .bool b, .int .i64 c]) (w : World) :
    Calls Try.prog 3 #[.agg #[.int .i64 m.aa, .int .i64 m.bb, .int .i64 m.cc, .int .i64 m.bc, .int .i64 m.ac, .int .i64 m.ab]] w fun e w' => e = .returned (.bool true) ∧ Below w.heap.size w w' := by
  have A1 := fun w => to_v r (Step_all m w)
  have A2 := fun w => to_v r (DocStep_all m w)
  have B1 := Lib.hid A1; have B2 := Lib.hid A2; clear A1 A2 r
  go_enter Try.func3, Try.ntmps3
  go_wp2_with fail
  refine (B1.out _).mono ?_
  rintro e w1 ⟨rfl, hb1⟩
  obtain ⟨hc1, hf1⟩ := bcell hb1
  have hz1 := hb1.size
  try simp at hz1
  have z1_0 : w.heap.size < w1.heap.size := by omega
  go_wp2_with fail
  refine (B2.out _).mono ?_
  rintro e w2 ⟨rfl, hb2⟩
  obtain ⟨hc2, hf2⟩ := bcell hb2
  have hz2 := hb2.size
  try simp at hz2
  have z2_0 : w.heap.size < w2.heap.size := by omega
  have z2_1 : w1.heap.size < w2.heap.size := by omega
  have z2_2 : w1.heap.size + 1 < w2.heap.size := by omega
  have y2_0 : w.heap.size < w1.heap.size + 1 + 1 := by omega
  go_wp2_with fail
  refine (awake_any _).mono ?_
  rintro e w3 ⟨rfl, hb3⟩
  obtain ⟨hc3, hf3⟩ := bcell hb3
  have hz3 := hb3.size
  try simp at hz3
  have z3_0 : w.heap.size < w3.heap.size := by omega
  have z3_1 : w1.heap.size < w3.heap.size := by omega
  have z3_2 : w1.heap.size + 1 < w3.heap.size := by omega
  have z3_3 : w2.heap.size < w3.heap.size := by omega
  have z3_4 : w2.heap.size + 1 < w3.heap.size := by omega
  have y3_0 : w.heap.size < w2.heap.size + 1 + 1 := by omega
  have y3_1 : w1.heap.size < w2.heap.size + 1 + 1 := by omega
  have y3_2 : w1.heap.size + 1 < w2.heap.size + 1 + 1 := by omega
  go_wp2
  go_ret
  refine ⟨rfl, ?_⟩
  repeat (first | exact Below.refl _ _ | assumption | exact Below.alloc (Below.refl _ _) (Nat.le_refl _) _ | refine Below.setCell ?_ (by first | (simp; done) | (simp; omega) | omega) _ | refine below_drewN ?_ _ | refine Below.alloc ?_ (by first | (simp; done) | (simp; omega) | omega) _ | refine Below.trans ?_ (Below.mono (by assumption) (by first | (simp; done) | (simp; omega) | omega)))

theorem steps_any (aa bb cc bc ac ab : Int) (w : World) : Calls Try.prog 3 #[.agg #[.int .i64 aa, .int .i64 bb, .int .i64 cc, .int .i64 bc, .int .i64 ac, .int .i64 ab]] w fun e w' => e = .returned (.bool true) ∧ Below w.heap.size w w' := by
  by_cases hC : chk ⟨aa, bb, cc, bc, ac, ab⟩ = 0
  · exact steps_v ⟨aa, bb, cc, bc, ac, ab⟩ _ _ _ _ (by rw [resS, if_pos hC]) w
  · exact steps_v ⟨aa, bb, cc, bc, ac, ab⟩ ⟨0, 0, 0, 0, 0, 0⟩ ⟨0, 0, 0, 0, 0, 0, 0, 0, 0⟩ _ _ (by rw [resS, if_neg hC]) w
end Go.Proofs.Ytdhlkhockpblhaa
