/-
  The law ReduceTurneds, walked: it returns true.
-/
import Derived.Test.YtdhlkhockpblhaaRedTb
import Derived.Test.YtdhlkhockpblhaaRedAw
namespace Go.Proofs.Ytdhlkhockpblhaa
open Go.RowKit
attribute [local irreducible] World.setCell

set_option linter.unusedSimpArgs false
set_option linter.unusedVariables false

set_option maxHeartbeats 1600000 in
theorem turneds_v (aa bb cc bc ac ab p00 p01 p02 p10 p11 p12 p20 p21 p22 t0 t1 t2 t3 t4 t5 : Int) (c : Int) (A1 : ∀ w : World, Calls Try.prog 24 #[.agg #[.int .i64 aa, .int .i64 bb, .int .i64 cc, .int .i64 bc, .int .i64 ac, .int .i64 ab], .agg #[.int .i64 p00, .int .i64 p01, .int .i64 p02, .int .i64 p10, .int .i64 p11, .int .i64 p12, .int .i64 p20, .int .i64 p21, .int .i64 p22]] w fun e w' => e = .returned (.tuple #[.agg #[.int .i64 t0, .int .i64 t1, .int .i64 t2, .int .i64 t3, .int .i64 t4, .int .i64 t5], .int .i64 c]) ∧ Below w.heap.size w w') (A2 : ∀ w : World, Calls Try.prog 25 #[.agg #[.int .i64 aa, .int .i64 bb, .int .i64 cc, .int .i64 bc, .int .i64 ac, .int .i64 ab], .agg #[.int .i64 p00, .int .i64 p01, .int .i64 p02, .int .i64 p10, .int .i64 p11, .int .i64 p12, .int .i64 p20, .int .i64 p21, .int .i64 p22]] w fun e w' => e = .returned (.tuple #[.agg #[.int .i64 t0, .int .i64 t1, .int .i64 t2, .int .i64 t3, .int .i64 t4, .int .i64 t5], .int .i64 c]) ∧ Below w.heap.size w w') (w : World) :
    Calls Try.prog 7 #[.agg #[.int .i64 aa, .int .i64 bb, .int .i64 cc, .int .i64 bc, .int .i64 ac, .int .i64 ab], .agg #[.int .i64 p00, .int .i64 p01, .int .i64 p02, .int .i64 p10, .int .i64 p11, .int .i64 p12, .int .i64 p20, .int .i64 p21, .int .i64 p22]] w fun e w' => e = .returned (.bool true) ∧ Below w.heap.size w w' := by
  have B1 := Lib.hid A1; have B2 := Lib.hid A2; clear A1 A2
  go_enter Try.func7, Try.ntmps7
  go_wp2_with fail
  refine (B1.out _).mono ?_
  rintro e w1 ⟨rfl, hb1⟩
  obtain ⟨hc1, hf1⟩ := bcell hb1
  have hz1 := hb1.size
  try simp at hz1
  have z1_0 : w.heap.size < w1.heap.size := by omega
  have z1_1 : w.heap.size + 1 < w1.heap.size := by omega
  go_wp2_with fail
  refine (B2.out _).mono ?_
  rintro e w2 ⟨rfl, hb2⟩
  obtain ⟨hc2, hf2⟩ := bcell hb2
  have hz2 := hb2.size
  try simp at hz2
  have z2_0 : w.heap.size < w2.heap.size := by omega
  have z2_1 : w.heap.size + 1 < w2.heap.size := by omega
  have z2_2 : w1.heap.size < w2.heap.size := by omega
  have y2_0 : w.heap.size < w1.heap.size + 1 := by omega
  have y2_1 : w.heap.size + 1 < w1.heap.size + 1 := by omega
  go_wp2_with fail
  refine (awake_any _).mono ?_
  rintro e w3 ⟨rfl, hb3⟩
  obtain ⟨hc3, hf3⟩ := bcell hb3
  have hz3 := hb3.size
  try simp at hz3
  have z3_0 : w.heap.size < w3.heap.size := by omega
  have z3_1 : w.heap.size + 1 < w3.heap.size := by omega
  have z3_2 : w1.heap.size < w3.heap.size := by omega
  have z3_3 : w2.heap.size < w3.heap.size := by omega
  have y3_0 : w.heap.size < w2.heap.size + 1 := by omega
  have y3_1 : w.heap.size + 1 < w2.heap.size + 1 := by omega
  have y3_2 : w1.heap.size < w2.heap.size + 1 := by omega
  go_wp2
  go_ret
  refine ⟨rfl, ?_⟩
  repeat (first | exact Below.refl _ _ | assumption | exact Below.alloc (Below.refl _ _) (Nat.le_refl _) _ | refine Below.setCell ?_ (by first | (simp; done) | (simp; omega) | omega) _ | refine below_drewN ?_ _ | refine Below.alloc ?_ (by first | (simp; done) | (simp; omega) | omega) _ | refine Below.trans ?_ (Below.mono (by assumption) (by first | (simp; done) | (simp; omega) | omega)))

theorem turneds_any (aa bb cc bc ac ab p00 p01 p02 p10 p11 p12 p20 p21 p22 : Int) (w : World) : Calls Try.prog 7 #[.agg #[.int .i64 aa, .int .i64 bb, .int .i64 cc, .int .i64 bc, .int .i64 ac, .int .i64 ab], .agg #[.int .i64 p00, .int .i64 p01, .int .i64 p02, .int .i64 p10, .int .i64 p11, .int .i64 p12, .int .i64 p20, .int .i64 p21, .int .i64 p22]] w fun e w' => e = .returned (.bool true) ∧ Below w.heap.size w w' := by
  have hbad : ∀ C D X : Int, chk ⟨aa, bb, cc, bc, ac, ab⟩ = C → formC p00 p01 p02 p10 p11 p12 p20 p21 p22 = D → ((C = 0 ∧ D = 3 ∧ X = 3) ∨ (C = 0 ∧ D = 4 ∧ X = 4) ∨ (C = 1 ∧ D = 0 ∧ X = 1) ∨ (C = 1 ∧ D = 3 ∧ X = 1) ∨ (C = 1 ∧ D = 4 ∧ X = 1) ∨ (C = 3 ∧ D = 0 ∧ X = 3) ∨ (C = 3 ∧ D = 3 ∧ X = 3) ∨ (C = 3 ∧ D = 4 ∧ X = 3)) → Calls Try.prog 7 #[.agg #[.int .i64 aa, .int .i64 bb, .int .i64 cc, .int .i64 bc, .int .i64 ac, .int .i64 ab], .agg #[.int .i64 p00, .int .i64 p01, .int .i64 p02, .int .i64 p10, .int .i64 p11, .int .i64 p12, .int .i64 p20, .int .i64 p21, .int .i64 p22]] w fun e w' => e = .returned (.bool true) ∧ Below w.heap.size w w' := fun C D X h h2 hX =>
    turneds_v aa bb cc bc ac ab p00 p01 p02 p10 p11 p12 p20 p21 p22 0 0 0 0 0 0 X (fun w => Turned_bad ⟨aa, bb, cc, bc, ac, ab⟩ p00 p01 p02 p10 p11 p12 p20 p21 p22 C D X w h h2 hX) (fun w => DocTurned_bad ⟨aa, bb, cc, bc, ac, ab⟩ p00 p01 p02 p10 p11 p12 p20 p21 p22 C D X w h h2 hX) w
  rcases chk_vals ⟨aa, bb, cc, bc, ac, ab⟩ with h | h | h <;> rcases formC_vals p00 p01 p02 p10 p11 p12 p20 p21 p22 with h2 | h2 | h2
  · exact turneds_v aa bb cc bc ac ab p00 p01 p02 p10 p11 p12 p20 p21 p22 _ _ _ _ _ _ 0 (fun w => Turned_ok ⟨aa, bb, cc, bc, ac, ab⟩ p00 p01 p02 p10 p11 p12 p20 p21 p22 w h h2) (fun w => DocTurned_ok ⟨aa, bb, cc, bc, ac, ab⟩ p00 p01 p02 p10 p11 p12 p20 p21 p22 w h h2) w
  · exact hbad 0 3 3 h h2 (by omega)
  · exact hbad 0 4 4 h h2 (by omega)
  · exact hbad 1 0 1 h h2 (by omega)
  · exact hbad 1 3 1 h h2 (by omega)
  · exact hbad 1 4 1 h h2 (by omega)
  · exact hbad 3 0 3 h h2 (by omega)
  · exact hbad 3 3 3 h h2 (by omega)
  · exact hbad 3 4 3 h h2 (by omega)
end Go.Proofs.Ytdhlkhockpblhaa
