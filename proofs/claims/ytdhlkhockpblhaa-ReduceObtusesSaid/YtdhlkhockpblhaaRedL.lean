/-
  The reference: one step, the next pairs.
-/
import Derived.Test.YtdhlkhockpblhaaRedK
namespace Go.Proofs.Ytdhlkhockpblhaa
open Go.RowKit
attribute [local irreducible] World.setCell

set_option linter.unusedSimpArgs false
set_option linter.unusedVariables false

theorem gout_0_0 (f00 f01 f02 f03 f10 f11 f12 f13 f20 f21 f22 f23 f30 f31 f32 f33 : Int) : Gout (getF [1, 1, 0, 0, 0, (-1), 0, 0, 0, 0, 1, 0, 0, 1, 0, 1]) (getF [f00, f01, f02, f03, f10, f11, f12, f13, f20, f21, f22, f23, f30, f31, f32, f33]) (4 * 4) 0 = wrap64 (f00 + f01 + f10 + f11) := (rfl : _ = wrap64 (0 + 1 * f00 * 1 + 1 * f01 * 1 + 1 * f02 * 0 + 1 * f03 * 0 + 1 * f10 * 1 + 1 * f11 * 1 + 1 * f12 * 0 + 1 * f13 * 0 + 0 * f20 * 1 + 0 * f21 * 1 + 0 * f22 * 0 + 0 * f23 * 0 + 0 * f30 * 1 + 0 * f31 * 1 + 0 * f32 * 0 + 0 * f33 * 0)).trans (congrArg wrap64 (by omega))
theorem gout_0_1 (f00 f01 f02 f03 f10 f11 f12 f13 f20 f21 f22 f23 f30 f31 f32 f33 : Int) : Gout (getF [1, 1, 0, 0, 0, (-1), 0, 0, 0, 0, 1, 0, 0, 1, 0, 1]) (getF [f00, f01, f02, f03, f10, f11, f12, f13, f20, f21, f22, f23, f30, f31, f32, f33]) (4 * 4) 1 = wrap64 ((-1) * f01 + (-1) * f11) := (rfl : _ = wrap64 (0 + 1 * f00 * 0 + 1 * f01 * (-1) + 1 * f02 * 0 + 1 * f03 * 0 + 1 * f10 * 0 + 1 * f11 * (-1) + 1 * f12 * 0 + 1 * f13 * 0 + 0 * f20 * 0 + 0 * f21 * (-1) + 0 * f22 * 0 + 0 * f23 * 0 + 0 * f30 * 0 + 0 * f31 * (-1) + 0 * f32 * 0 + 0 * f33 * 0)).trans (congrArg wrap64 (by omega))
theorem gout_0_2 (f00 f01 f02 f03 f10 f11 f12 f13 f20 f21 f22 f23 f30 f31 f32 f33 : Int) : Gout (getF [1, 1, 0, 0, 0, (-1), 0, 0, 0, 0, 1, 0, 0, 1, 0, 1]) (getF [f00, f01, f02, f03, f10, f11, f12, f13, f20, f21, f22, f23, f30, f31, f32, f33]) (4 * 4) 2 = wrap64 (f02 + f12) := (rfl : _ = wrap64 (0 + 1 * f00 * 0 + 1 * f01 * 0 + 1 * f02 * 1 + 1 * f03 * 0 + 1 * f10 * 0 + 1 * f11 * 0 + 1 * f12 * 1 + 1 * f13 * 0 + 0 * f20 * 0 + 0 * f21 * 0 + 0 * f22 * 1 + 0 * f23 * 0 + 0 * f30 * 0 + 0 * f31 * 0 + 0 * f32 * 1 + 0 * f33 * 0)).trans (congrArg wrap64 (by omega))
theorem gout_0_3 (f00 f01 f02 f03 f10 f11 f12 f13 f20 f21 f22 f23 f30 f31 f32 f33 : Int) : Gout (getF [1, 1, 0, 0, 0, (-1), 0, 0, 0, 0, 1, 0, 0, 1, 0, 1]) (getF [f00, f01, f02, f03, f10, f11, f12, f13, f20, f21, f22, f23, f30, f31, f32, f33]) (4 * 4) 3 = wrap64 (f01 + f03 + f11 + f13) := (rfl : _ = wrap64 (0 + 1 * f00 * 0 + 1 * f01 * 1 + 1 * f02 * 0 + 1 * f03 * 1 + 1 * f10 * 0 + 1 * f11 * 1 + 1 * f12 * 0 + 1 * f13 * 1 + 0 * f20 * 0 + 0 * f21 * 1 + 0 * f22 * 0 + 0 * f23 * 1 + 0 * f30 * 0 + 0 * f31 * 1 + 0 * f32 * 0 + 0 * f33 * 1)).trans (congrArg wrap64 (by omega))
theorem gout_0_4 (f00 f01 f02 f03 f10 f11 f12 f13 f20 f21 f22 f23 f30 f31 f32 f33 : Int) : Gout (getF [1, 1, 0, 0, 0, (-1), 0, 0, 0, 0, 1, 0, 0, 1, 0, 1]) (getF [f00, f01, f02, f03, f10, f11, f12, f13, f20, f21, f22, f23, f30, f31, f32, f33]) (4 * 4) 4 = wrap64 ((-1) * f10 + (-1) * f11) := (rfl : _ = wrap64 (0 + 0 * f00 * 1 + 0 * f01 * 1 + 0 * f02 * 0 + 0 * f03 * 0 + (-1) * f10 * 1 + (-1) * f11 * 1 + (-1) * f12 * 0 + (-1) * f13 * 0 + 0 * f20 * 1 + 0 * f21 * 1 + 0 * f22 * 0 + 0 * f23 * 0 + 0 * f30 * 1 + 0 * f31 * 1 + 0 * f32 * 0 + 0 * f33 * 0)).trans (congrArg wrap64 (by omega))
theorem gout_0_5 (f00 f01 f02 f03 f10 f11 f12 f13 f20 f21 f22 f23 f30 f31 f32 f33 : Int) : Gout (getF [1, 1, 0, 0, 0, (-1), 0, 0, 0, 0, 1, 0, 0, 1, 0, 1]) (getF [f00, f01, f02, f03, f10, f11, f12, f13, f20, f21, f22, f23, f30, f31, f32, f33]) (4 * 4) 5 = wrap64 (f11) := (rfl : _ = wrap64 (0 + 0 * f00 * 0 + 0 * f01 * (-1) + 0 * f02 * 0 + 0 * f03 * 0 + (-1) * f10 * 0 + (-1) * f11 * (-1) + (-1) * f12 * 0 + (-1) * f13 * 0 + 0 * f20 * 0 + 0 * f21 * (-1) + 0 * f22 * 0 + 0 * f23 * 0 + 0 * f30 * 0 + 0 * f31 * (-1) + 0 * f32 * 0 + 0 * f33 * 0)).trans (congrArg wrap64 (by omega))
theorem gout_0_6 (f00 f01 f02 f03 f10 f11 f12 f13 f20 f21 f22 f23 f30 f31 f32 f33 : Int) : Gout (getF [1, 1, 0, 0, 0, (-1), 0, 0, 0, 0, 1, 0, 0, 1, 0, 1]) (getF [f00, f01, f02, f03, f10, f11, f12, f13, f20, f21, f22, f23, f30, f31, f32, f33]) (4 * 4) 6 = wrap64 ((-1) * f12) := (rfl : _ = wrap64 (0 + 0 * f00 * 0 + 0 * f01 * 0 + 0 * f02 * 1 + 0 * f03 * 0 + (-1) * f10 * 0 + (-1) * f11 * 0 + (-1) * f12 * 1 + (-1) * f13 * 0 + 0 * f20 * 0 + 0 * f21 * 0 + 0 * f22 * 1 + 0 * f23 * 0 + 0 * f30 * 0 + 0 * f31 * 0 + 0 * f32 * 1 + 0 * f33 * 0)).trans (congrArg wrap64 (by omega))
theorem gout_0_7 (f00 f01 f02 f03 f10 f11 f12 f13 f20 f21 f22 f23 f30 f31 f32 f33 : Int) : Gout (getF [1, 1, 0, 0, 0, (-1), 0, 0, 0, 0, 1, 0, 0, 1, 0, 1]) (getF [f00, f01, f02, f03, f10, f11, f12, f13, f20, f21, f22, f23, f30, f31, f32, f33]) (4 * 4) 7 = wrap64 ((-1) * f11 + (-1) * f13) := (rfl : _ = wrap64 (0 + 0 * f00 * 0 + 0 * f01 * 1 + 0 * f02 * 0 + 0 * f03 * 1 + (-1) * f10 * 0 + (-1) * f11 * 1 + (-1) * f12 * 0 + (-1) * f13 * 1 + 0 * f20 * 0 + 0 * f21 * 1 + 0 * f22 * 0 + 0 * f23 * 1 + 0 * f30 * 0 + 0 * f31 * 1 + 0 * f32 * 0 + 0 * f33 * 1)).trans (congrArg wrap64 (by omega))
theorem gout_0_8 (f00 f01 f02 f03 f10 f11 f12 f13 f20 f21 f22 f23 f30 f31 f32 f33 : Int) : Gout (getF [1, 1, 0, 0, 0, (-1), 0, 0, 0, 0, 1, 0, 0, 1, 0, 1]) (getF [f00, f01, f02, f03, f10, f11, f12, f13, f20, f21, f22, f23, f30, f31, f32, f33]) (4 * 4) 8 = wrap64 (f20 + f21) := (rfl : _ = wrap64 (0 + 0 * f00 * 1 + 0 * f01 * 1 + 0 * f02 * 0 + 0 * f03 * 0 + 0 * f10 * 1 + 0 * f11 * 1 + 0 * f12 * 0 + 0 * f13 * 0 + 1 * f20 * 1 + 1 * f21 * 1 + 1 * f22 * 0 + 1 * f23 * 0 + 0 * f30 * 1 + 0 * f31 * 1 + 0 * f32 * 0 + 0 * f33 * 0)).trans (congrArg wrap64 (by omega))
theorem gout_0_9 (f00 f01 f02 f03 f10 f11 f12 f13 f20 f21 f22 f23 f30 f31 f32 f33 : Int) : Gout (getF [1, 1, 0, 0, 0, (-1), 0, 0, 0, 0, 1, 0, 0, 1, 0, 1]) (getF [f00, f01, f02, f03, f10, f11, f12, f13, f20, f21, f22, f23, f30, f31, f32, f33]) (4 * 4) 9 = wrap64 ((-1) * f21) := (rfl : _ = wrap64 (0 + 0 * f00 * 0 + 0 * f01 * (-1) + 0 * f02 * 0 + 0 * f03 * 0 + 0 * f10 * 0 + 0 * f11 * (-1) + 0 * f12 * 0 + 0 * f13 * 0 + 1 * f20 * 0 + 1 * f21 * (-1) + 1 * f22 * 0 + 1 * f23 * 0 + 0 * f30 * 0 + 0 * f31 * (-1) + 0 * f32 * 0 + 0 * f33 * 0)).trans (congrArg wrap64 (by omega))
theorem gout_0_10 (f00 f01 f02 f03 f10 f11 f12 f13 f20 f21 f22 f23 f30 f31 f32 f33 : Int) : Gout (getF [1, 1, 0, 0, 0, (-1), 0, 0, 0, 0, 1, 0, 0, 1, 0, 1]) (getF [f00, f01, f02, f03, f10, f11, f12, f13, f20, f21, f22, f23, f30, f31, f32, f33]) (4 * 4) 10 = wrap64 (f22) := (rfl : _ = wrap64 (0 + 0 * f00 * 0 + 0 * f01 * 0 + 0 * f02 * 1 + 0 * f03 * 0 + 0 * f10 * 0 + 0 * f11 * 0 + 0 * f12 * 1 + 0 * f13 * 0 + 1 * f20 * 0 + 1 * f21 * 0 + 1 * f22 * 1 + 1 * f23 * 0 + 0 * f30 * 0 + 0 * f31 * 0 + 0 * f32 * 1 + 0 * f33 * 0)).trans (congrArg wrap64 (by omega))
theorem gout_0_11 (f00 f01 f02 f03 f10 f11 f12 f13 f20 f21 f22 f23 f30 f31 f32 f33 : Int) : Gout (getF [1, 1, 0, 0, 0, (-1), 0, 0, 0, 0, 1, 0, 0, 1, 0, 1]) (getF [f00, f01, f02, f03, f10, f11, f12, f13, f20, f21, f22, f23, f30, f31, f32, f33]) (4 * 4) 11 = wrap64 (f21 + f23) := (rfl : _ = wrap64 (0 + 0 * f00 * 0 + 0 * f01 * 1 + 0 * f02 * 0 + 0 * f03 * 1 + 0 * f10 * 0 + 0 * f11 * 1 + 0 * f12 * 0 + 0 * f13 * 1 + 1 * f20 * 0 + 1 * f21 * 1 + 1 * f22 * 0 + 1 * f23 * 1 + 0 * f30 * 0 + 0 * f31 * 1 + 0 * f32 * 0 + 0 * f33 * 1)).trans (congrArg wrap64 (by omega))
theorem gout_0_12 (f00 f01 f02 f03 f10 f11 f12 f13 f20 f21 f22 f23 f30 f31 f32 f33 : Int) : Gout (getF [1, 1, 0, 0, 0, (-1), 0, 0, 0, 0, 1, 0, 0, 1, 0, 1]) (getF [f00, f01, f02, f03, f10, f11, f12, f13, f20, f21, f22, f23, f30, f31, f32, f33]) (4 * 4) 12 = wrap64 (f10 + f11 + f30 + f31) := (rfl : _ = wrap64 (0 + 0 * f00 * 1 + 0 * f01 * 1 + 0 * f02 * 0 + 0 * f03 * 0 + 1 * f10 * 1 + 1 * f11 * 1 + 1 * f12 * 0 + 1 * f13 * 0 + 0 * f20 * 1 + 0 * f21 * 1 + 0 * f22 * 0 + 0 * f23 * 0 + 1 * f30 * 1 + 1 * f31 * 1 + 1 * f32 * 0 + 1 * f33 * 0)).trans (congrArg wrap64 (by omega))
theorem gout_0_13 (f00 f01 f02 f03 f10 f11 f12 f13 f20 f21 f22 f23 f30 f31 f32 f33 : Int) : Gout (getF [1, 1, 0, 0, 0, (-1), 0, 0, 0, 0, 1, 0, 0, 1, 0, 1]) (getF [f00, f01, f02, f03, f10, f11, f12, f13, f20, f21, f22, f23, f30, f31, f32, f33]) (4 * 4) 13 = wrap64 ((-1) * f11 + (-1) * f31) := (rfl : _ = wrap64 (0 + 0 * f00 * 0 + 0 * f01 * (-1) + 0 * f02 * 0 + 0 * f03 * 0 + 1 * f10 * 0 + 1 * f11 * (-1) + 1 * f12 * 0 + 1 * f13 * 0 + 0 * f20 * 0 + 0 * f21 * (-1) + 0 * f22 * 0 + 0 * f23 * 0 + 1 * f30 * 0 + 1 * f31 * (-1) + 1 * f32 * 0 + 1 * f33 * 0)).trans (congrArg wrap64 (by omega))
theorem gout_0_14 (f00 f01 f02 f03 f10 f11 f12 f13 f20 f21 f22 f23 f30 f31 f32 f33 : Int) : Gout (getF [1, 1, 0, 0, 0, (-1), 0, 0, 0, 0, 1, 0, 0, 1, 0, 1]) (getF [f00, f01, f02, f03, f10, f11, f12, f13, f20, f21, f22, f23, f30, f31, f32, f33]) (4 * 4) 14 = wrap64 (f12 + f32) := (rfl : _ = wrap64 (0 + 0 * f00 * 0 + 0 * f01 * 0 + 0 * f02 * 1 + 0 * f03 * 0 + 1 * f10 * 0 + 1 * f11 * 0 + 1 * f12 * 1 + 1 * f13 * 0 + 0 * f20 * 0 + 0 * f21 * 0 + 0 * f22 * 1 + 0 * f23 * 0 + 1 * f30 * 0 + 1 * f31 * 0 + 1 * f32 * 1 + 1 * f33 * 0)).trans (congrArg wrap64 (by omega))
theorem gout_0_15 (f00 f01 f02 f03 f10 f11 f12 f13 f20 f21 f22 f23 f30 f31 f32 f33 : Int) : Gout (getF [1, 1, 0, 0, 0, (-1), 0, 0, 0, 0, 1, 0, 0, 1, 0, 1]) (getF [f00, f01, f02, f03, f10, f11, f12, f13, f20, f21, f22, f23, f30, f31, f32, f33]) (4 * 4) 15 = wrap64 (f11 + f13 + f31 + f33) := (rfl : _ = wrap64 (0 + 0 * f00 * 0 + 0 * f01 * 1 + 0 * f02 * 0 + 0 * f03 * 1 + 1 * f10 * 0 + 1 * f11 * 1 + 1 * f12 * 0 + 1 * f13 * 1 + 0 * f20 * 0 + 0 * f21 * 1 + 0 * f22 * 0 + 0 * f23 * 1 + 1 * f30 * 0 + 1 * f31 * 1 + 1 * f32 * 0 + 1 * f33 * 1)).trans (congrArg wrap64 (by omega))
set_option maxHeartbeats 6400000 in
set_option maxRecDepth 100000 in
theorem rstep_0 (f00 f01 f02 f03 f10 f11 f12 f13 f20 f21 f22 f23 f30 f31 f32 f33 : Int) (w : World)  (h0 : 0 < f12):
    Calls Try.prog 41 #[.agg #[.int .i64 f00, .int .i64 f01, .int .i64 f02, .int .i64 f03, .int .i64 f10, .int .i64 f11, .int .i64 f12, .int .i64 f13, .int .i64 f20, .int .i64 f21, .int .i64 f22, .int .i64 f23, .int .i64 f30, .int .i64 f31, .int .i64 f32, .int .i64 f33]] w fun e w' => e = .returned (.tuple #[.agg #[.int .i64 (wrap64 (f00 + f01 + f10 + f11)), .int .i64 (wrap64 ((-1) * f01 + (-1) * f11)), .int .i64 (wrap64 (f02 + f12)), .int .i64 (wrap64 (f01 + f03 + f11 + f13)), .int .i64 (wrap64 ((-1) * f10 + (-1) * f11)), .int .i64 (wrap64 (f11)), .int .i64 (wrap64 ((-1) * f12)), .int .i64 (wrap64 ((-1) * f11 + (-1) * f13)), .int .i64 (wrap64 (f20 + f21)), .int .i64 (wrap64 ((-1) * f21)), .int .i64 (wrap64 (f22)), .int .i64 (wrap64 (f21 + f23)), .int .i64 (wrap64 (f10 + f11 + f30 + f31)), .int .i64 (wrap64 ((-1) * f11 + (-1) * f31)), .int .i64 (wrap64 (f12 + f32)), .int .i64 (wrap64 (f11 + f13 + f31 + f33))], .agg #[.int .i64 1, .int .i64 0, .int .i64 0, .int .i64 1, .int .i64 (-1), .int .i64 0, .int .i64 0, .int .i64 0, .int .i64 1], .bool true]) ∧ Below w.heap.size w w' := by
  go_enter Try.func41, Try.ntmps41
  go_wp2_with fail
  refine (rpairs_any _).mono ?_
  rintro e w1 ⟨rfl, hb1⟩
  obtain ⟨hc1, hf1⟩ := bcell hb1
  have hz1 := hb1.size
  try simp at hz1
  have z1_0 : w.heap.size < w1.heap.size := by omega
  have z1_1 : w.heap.size + 1 < w1.heap.size := by omega
  have z1_2 : w.heap.size + 1 + 1 < w1.heap.size := by omega
  go_wp2
  refine wp_loop_rounds 7 ?_
  rw [rounds_succ]
  go_wp2
  have zzx0_0 : w.heap.size < w1.heap.size + 1 := by omega
  have zzx0_1 : w.heap.size + 1 < w1.heap.size + 1 := by omega
  have zzx0_2 : w.heap.size + 1 + 1 < w1.heap.size + 1 := by omega
  have zzx0_3 : w1.heap.size < w1.heap.size + 1 := by omega
  refine region_all (by kernel_rfl) (by kernel_rfl) ?_
  repeat (go_big_quiet_step (fail))
  refine wpQuiet_nil ?_
  rintro x0 ⟨⟨w0, hbx0⟩, rfl⟩
  obtain ⟨hcx0, hfx0⟩ := bcell hbx0
  have hzx0 := hbx0.size
  try simp at hzx0
  have zx0_0 : w.heap.size < x0.heap.size := by omega
  have zx0_1 : w.heap.size + 1 < x0.heap.size := by omega
  have zx0_2 : w.heap.size + 1 + 1 < x0.heap.size := by omega
  have zx0_3 : w1.heap.size < x0.heap.size := by omega
  go_wp2
  refine wp_loop_rounds 5 ?_
  rw [rounds_succ]
  go_wp2
  rw [rounds_succ]
  go_wp2
  rw [rounds_succ]
  go_wp2
  rw [rounds_succ]
  go_wp2
  rw [rounds_succ]
  go_wp2
  obtain ⟨TT, eT⟩ : ∃ T : Nat → Int, T = (getF [1, 1, 0, 0, 0, (-1), 0, 0, 0, 0, 1, 0, 0, 1, 0, 1]) := ⟨_, rfl⟩
  obtain ⟨FF, eF⟩ : ∃ F : Nat → Int, F = (getF [f00, f01, f02, f03, f10, f11, f12, f13, f20, f21, f22, f23, f30, f31, f32, f33]) := ⟨_, rfl⟩
  have cF : ∀ k, k < 16 → x0.cell? ⟨w.heap.size, k, none⟩ = some (.int .i64 (FF k)) := by
    rw [eF]
    refine all16 ?_ ?_ ?_ ?_ ?_ ?_ ?_ ?_ ?_ ?_ ?_ ?_ ?_ ?_ ?_ ?_ <;> (go_simp; try rfl)
  have CF := Lib.hid cF; clear cF
  have ET := Lib.hid eT; have EF := Lib.hid eF; clear eF
  go_loopw [54] (fun i wr => ∃ k : Nat, k ≤ 4 ∧ i = .int .i64 k ∧ GI x0 x0.heap.size (x0.heap.size) (x0.heap.size + 1) TT (Gout TT FF (k * 4)) wr) (fun i _ => 4 - (intOf i).toNat)
  case atStart =>
    refine ⟨0, by omega, rfl, ⟨?_, by (simp <;> omega), by (simp <;> omega), ?_, ?_, by intro o; go_simp⟩⟩
    · repeat (first | exact Below.refl _ _ | assumption | exact Below.alloc (Below.refl _ _) (Nat.le_refl _) _ | refine Below.setCell ?_ (by first | (simp; done) | (simp; omega) | omega) _ | refine below_drewN ?_ _ | refine Below.alloc ?_ (by first | (simp; done) | (simp; omega) | omega) _ | refine Below.trans ?_ (Below.mono (by assumption) (by first | (simp; done) | (simp; omega) | omega)))
    · rw [eT]
      refine all16 ?_ ?_ ?_ ?_ ?_ ?_ ?_ ?_ ?_ ?_ ?_ ?_ ?_ ?_ ?_ ?_ <;> (go_simp; try rfl)
    · refine all16 ?_ ?_ ?_ ?_ ?_ ?_ ?_ ?_ ?_ ?_ ?_ ?_ ?_ ?_ ?_ ?_ <;> (simp only [Gout]; go_simp; try rfl)
  case round =>
    clear eT
    obtain ⟨i, hi, rfl, hinv⟩ := hrel
    by_cases hlt : i < 4
    · go_wp2
      go_loopw [57] (fun j wr => ∃ k : Nat, k ≤ 4 ∧ j = .int .i64 k ∧ GI x0 x0.heap.size (x0.heap.size) (x0.heap.size + 1) TT (Gout TT FF (i * 4 + k)) wr) (fun j _ => 4 - (intOf j).toNat)
      case atStart => exact ⟨0, by omega, rfl, hinv⟩
      case round =>
        clear hinv
        obtain ⟨j, hj, rfl, hjnv⟩ := hrel
        by_cases hlj : j < 4
        · go_wp2
          go_loopw [14] (fun n wr => ∃ k : Nat, k ≤ 16 ∧ n = .int .i64 k ∧ GI x0 x0.heap.size (x0.heap.size) (x0.heap.size + 1) TT (Gin TT FF i j k) wr) (fun n _ => 16 - (intOf n).toNat)
          case atStart => exact ⟨0, by omega, rfl, hjnv.of_eq (in_start TT FF i j)⟩
          case round =>
            clear hjnv
            obtain ⟨n, hn, rfl, hnnv⟩ := hrel
            by_cases hln : n < 16
            · have HN := Lib.hid hnnv
              have cG := hnnv.cells (i * 4 + j) (by omega)
              have cT1 := hnnv.tc (i * 4 + n / 4) (by omega)
              have cT2 := hnnv.tc (j * 4 + n % 4) (by omega)
              have cF := (hnnv.below.cell (p := ⟨w.heap.size, n / 4 * 4 + n % 4, none⟩) (by dsimp only; omega)).trans (CF.out (n / 4 * 4 + n % 4) (by omega))
              have en : FF (n / 4 * 4 + n % 4) = FF n := congrArg FF (by omega)
              rw [en] at cF; clear en
              simp only [Gin, Nat.lt_irrefl, if_false, if_true] at cG
              have fz := hnnv.fz; have zg := hnnv.zg; have zt := hnnv.zt
              clear hnnv
              have ea : (n : Int).tdiv 4 = ((n / 4 : Nat) : Int) := by rw [Int.tdiv_eq_ediv_of_nonneg (by omega)]; omega
              have er : (n : Int).tmod 4 = ((n % 4 : Nat) : Int) := by rw [Int.tmod_eq_emod_of_nonneg (by omega)]; omega
              obtain ⟨a, eqa⟩ : ∃ a, a = n / 4 := ⟨_, rfl⟩
              obtain ⟨r, eqr⟩ : ∃ r, r = n % 4 := ⟨_, rfl⟩
              obtain ⟨S, eS⟩ : ∃ S, S = acc TT FF i j n := ⟨_, rfl⟩
              rw [← eqa] at cT1 cF ea; rw [← eqr] at cT2 cF er; rw [← eS] at cG
              have la : a < 4 := by omega
              have lr : r < 4 := by omega
              obtain ⟨t1, e1⟩ : ∃ t, t = TT (i * 4 + a) := ⟨_, rfl⟩
              obtain ⟨t2, e2⟩ : ∃ t, t = TT (j * 4 + r) := ⟨_, rfl⟩
              obtain ⟨fn, e3⟩ : ∃ t, t = FF n := ⟨_, rfl⟩
              rw [← e1] at cT1; rw [← e2] at cT2; rw [← e3] at cF
              have E1 := Lib.hid e1; have E2 := Lib.hid e2; have E3 := Lib.hid e3; have EA := Lib.hid eqa; have ER := Lib.hid eqr; have ES := Lib.hid eS; clear e1 e2 e3 eqa eqr eS
              go_wp2
              refine region_headq 29 (by kernel_rfl) (by kernel_rfl) ?_
              simp only [List.take_succ_cons, List.take_zero, List.drop_succ_cons, List.drop_zero]
              repeat (go_big_quiet_step (fail))
              refine wpQuiet_nil ?_
              rintro _ ⟨nq, rfl⟩
              go_wp2
              go_roundw
              case rel =>
                refine ⟨n + 1, by omega, by go_num, HN.out.set (by omega) (by omega) (in_step TT FF i j n ?_) _⟩
                rw [E1.out, E2.out, E3.out, ES.out, EA.out, ER.out]
                simp only [wrap_add_l, wrap_add_r, wrap_mul_l]
              case measure => simp [intOf]; omega
            · obtain rfl : n = 16 := by omega
              go_wp2
              go_roundw
              case rel => exact ⟨j + 1, by omega, by go_num, hnnv.of_eq (in_end TT FF i j hlj)⟩
              case measure => simp [intOf]; omega
        · obtain rfl : j = 4 := by omega
          go_wp2
          go_roundw
          case rel => exact ⟨i + 1, by omega, by go_num, hjnv.of_eq (fun k _ => by rw [show i * 4 + 4 = (i + 1) * 4 by omega])⟩
          case measure => simp [intOf]; omega
    · obtain rfl : i = 4 := by omega
      obtain ⟨hcw, hfw⟩ := bcell hinv.below
      have zt := hinv.zt; have zg := hinv.zg
      have hbz := hinv.below.size
      have t0 : wr.cell? ⟨x0.heap.size, 0, none⟩ = some (.int .i64 1) := by have := hinv.tc 0 (by omega); rw [ET.out] at this; exact this
      have g0 : wr.cell? ⟨x0.heap.size + 1, 0, none⟩ = some (.int .i64 (wrap64 (f00 + f01 + f10 + f11))) := by have := hinv.cells 0 (by omega); rw [ET.out, EF.out, gout_0_0 f00 f01 f02 f03 f10 f11 f12 f13 f20 f21 f22 f23 f30 f31 f32 f33] at this; exact this
      have t1 : wr.cell? ⟨x0.heap.size, 1, none⟩ = some (.int .i64 1) := by have := hinv.tc 1 (by omega); rw [ET.out] at this; exact this
      have g1 : wr.cell? ⟨x0.heap.size + 1, 1, none⟩ = some (.int .i64 (wrap64 ((-1) * f01 + (-1) * f11))) := by have := hinv.cells 1 (by omega); rw [ET.out, EF.out, gout_0_1 f00 f01 f02 f03 f10 f11 f12 f13 f20 f21 f22 f23 f30 f31 f32 f33] at this; exact this
      have t2 : wr.cell? ⟨x0.heap.size, 2, none⟩ = some (.int .i64 0) := by have := hinv.tc 2 (by omega); rw [ET.out] at this; exact this
      have g2 : wr.cell? ⟨x0.heap.size + 1, 2, none⟩ = some (.int .i64 (wrap64 (f02 + f12))) := by have := hinv.cells 2 (by omega); rw [ET.out, EF.out, gout_0_2 f00 f01 f02 f03 f10 f11 f12 f13 f20 f21 f22 f23 f30 f31 f32 f33] at this; exact this
      have t3 : wr.cell? ⟨x0.heap.size, 3, none⟩ = some (.int .i64 0) := by have := hinv.tc 3 (by omega); rw [ET.out] at this; exact this
      have g3 : wr.cell? ⟨x0.heap.size + 1, 3, none⟩ = some (.int .i64 (wrap64 (f01 + f03 + f11 + f13))) := by have := hinv.cells 3 (by omega); rw [ET.out, EF.out, gout_0_3 f00 f01 f02 f03 f10 f11 f12 f13 f20 f21 f22 f23 f30 f31 f32 f33] at this; exact this
      have t4 : wr.cell? ⟨x0.heap.size, 4, none⟩ = some (.int .i64 0) := by have := hinv.tc 4 (by omega); rw [ET.out] at this; exact this
      have g4 : wr.cell? ⟨x0.heap.size + 1, 4, none⟩ = some (.int .i64 (wrap64 ((-1) * f10 + (-1) * f11))) := by have := hinv.cells 4 (by omega); rw [ET.out, EF.out, gout_0_4 f00 f01 f02 f03 f10 f11 f12 f13 f20 f21 f22 f23 f30 f31 f32 f33] at this; exact this
      have t5 : wr.cell? ⟨x0.heap.size, 5, none⟩ = some (.int .i64 (-1)) := by have := hinv.tc 5 (by omega); rw [ET.out] at this; exact this
      have g5 : wr.cell? ⟨x0.heap.size + 1, 5, none⟩ = some (.int .i64 (wrap64 (f11))) := by have := hinv.cells 5 (by omega); rw [ET.out, EF.out, gout_0_5 f00 f01 f02 f03 f10 f11 f12 f13 f20 f21 f22 f23 f30 f31 f32 f33] at this; exact this
      have t6 : wr.cell? ⟨x0.heap.size, 6, none⟩ = some (.int .i64 0) := by have := hinv.tc 6 (by omega); rw [ET.out] at this; exact this
      have g6 : wr.cell? ⟨x0.heap.size + 1, 6, none⟩ = some (.int .i64 (wrap64 ((-1) * f12))) := by have := hinv.cells 6 (by omega); rw [ET.out, EF.out, gout_0_6 f00 f01 f02 f03 f10 f11 f12 f13 f20 f21 f22 f23 f30 f31 f32 f33] at this; exact this
      have t7 : wr.cell? ⟨x0.heap.size, 7, none⟩ = some (.int .i64 0) := by have := hinv.tc 7 (by omega); rw [ET.out] at this; exact this
      have g7 : wr.cell? ⟨x0.heap.size + 1, 7, none⟩ = some (.int .i64 (wrap64 ((-1) * f11 + (-1) * f13))) := by have := hinv.cells 7 (by omega); rw [ET.out, EF.out, gout_0_7 f00 f01 f02 f03 f10 f11 f12 f13 f20 f21 f22 f23 f30 f31 f32 f33] at this; exact this
      have t8 : wr.cell? ⟨x0.heap.size, 8, none⟩ = some (.int .i64 0) := by have := hinv.tc 8 (by omega); rw [ET.out] at this; exact this
      have g8 : wr.cell? ⟨x0.heap.size + 1, 8, none⟩ = some (.int .i64 (wrap64 (f20 + f21))) := by have := hinv.cells 8 (by omega); rw [ET.out, EF.out, gout_0_8 f00 f01 f02 f03 f10 f11 f12 f13 f20 f21 f22 f23 f30 f31 f32 f33] at this; exact this
      have t9 : wr.cell? ⟨x0.heap.size, 9, none⟩ = some (.int .i64 0) := by have := hinv.tc 9 (by omega); rw [ET.out] at this; exact this
      have g9 : wr.cell? ⟨x0.heap.size + 1, 9, none⟩ = some (.int .i64 (wrap64 ((-1) * f21))) := by have := hinv.cells 9 (by omega); rw [ET.out, EF.out, gout_0_9 f00 f01 f02 f03 f10 f11 f12 f13 f20 f21 f22 f23 f30 f31 f32 f33] at this; exact this
      have t10 : wr.cell? ⟨x0.heap.size, 10, none⟩ = some (.int .i64 1) := by have := hinv.tc 10 (by omega); rw [ET.out] at this; exact this
      have g10 : wr.cell? ⟨x0.heap.size + 1, 10, none⟩ = some (.int .i64 (wrap64 (f22))) := by have := hinv.cells 10 (by omega); rw [ET.out, EF.out, gout_0_10 f00 f01 f02 f03 f10 f11 f12 f13 f20 f21 f22 f23 f30 f31 f32 f33] at this; exact this
      have t11 : wr.cell? ⟨x0.heap.size, 11, none⟩ = some (.int .i64 0) := by have := hinv.tc 11 (by omega); rw [ET.out] at this; exact this
      have g11 : wr.cell? ⟨x0.heap.size + 1, 11, none⟩ = some (.int .i64 (wrap64 (f21 + f23))) := by have := hinv.cells 11 (by omega); rw [ET.out, EF.out, gout_0_11 f00 f01 f02 f03 f10 f11 f12 f13 f20 f21 f22 f23 f30 f31 f32 f33] at this; exact this
      have t12 : wr.cell? ⟨x0.heap.size, 12, none⟩ = some (.int .i64 0) := by have := hinv.tc 12 (by omega); rw [ET.out] at this; exact this
      have g12 : wr.cell? ⟨x0.heap.size + 1, 12, none⟩ = some (.int .i64 (wrap64 (f10 + f11 + f30 + f31))) := by have := hinv.cells 12 (by omega); rw [ET.out, EF.out, gout_0_12 f00 f01 f02 f03 f10 f11 f12 f13 f20 f21 f22 f23 f30 f31 f32 f33] at this; exact this
      have t13 : wr.cell? ⟨x0.heap.size, 13, none⟩ = some (.int .i64 1) := by have := hinv.tc 13 (by omega); rw [ET.out] at this; exact this
      have g13 : wr.cell? ⟨x0.heap.size + 1, 13, none⟩ = some (.int .i64 (wrap64 ((-1) * f11 + (-1) * f31))) := by have := hinv.cells 13 (by omega); rw [ET.out, EF.out, gout_0_13 f00 f01 f02 f03 f10 f11 f12 f13 f20 f21 f22 f23 f30 f31 f32 f33] at this; exact this
      have t14 : wr.cell? ⟨x0.heap.size, 14, none⟩ = some (.int .i64 0) := by have := hinv.tc 14 (by omega); rw [ET.out] at this; exact this
      have g14 : wr.cell? ⟨x0.heap.size + 1, 14, none⟩ = some (.int .i64 (wrap64 (f12 + f32))) := by have := hinv.cells 14 (by omega); rw [ET.out, EF.out, gout_0_14 f00 f01 f02 f03 f10 f11 f12 f13 f20 f21 f22 f23 f30 f31 f32 f33] at this; exact this
      have t15 : wr.cell? ⟨x0.heap.size, 15, none⟩ = some (.int .i64 1) := by have := hinv.tc 15 (by omega); rw [ET.out] at this; exact this
      have g15 : wr.cell? ⟨x0.heap.size + 1, 15, none⟩ = some (.int .i64 (wrap64 (f11 + f13 + f31 + f33))) := by have := hinv.cells 15 (by omega); rw [ET.out, EF.out, gout_0_15 f00 f01 f02 f03 f10 f11 f12 f13 f20 f21 f22 f23 f30 f31 f32 f33] at this; exact this
      have hbw := hinv.below
      clear hinv
      have y0 : w.heap.size < wr.heap.size := by omega
      have y1 : w.heap.size + 1 < wr.heap.size := by omega
      have y2 : w.heap.size + 1 + 1 < wr.heap.size := by omega
      have y3 : w1.heap.size < wr.heap.size := by omega
      have y4 : x0.heap.size < wr.heap.size := by omega
      have y5 : x0.heap.size + 1 < wr.heap.size := by omega
      go_wp2
      refine wp_loop_rounds 4 ?_
      rw [rounds_succ]
      go_wp2
      refine wp_loop_rounds 4 ?_
      rw [rounds_succ]
      go_wp2
      refine region_headq 14 (by kernel_rfl) (by kernel_rfl) ?_
      simp only [List.take_succ_cons, List.take_zero, List.drop_succ_cons, List.drop_zero]
      repeat (go_big_quiet_step (fail))
      refine wpQuiet_nil ?_
      rintro _ ⟨nq, rfl⟩
      go_wp2
      rw [rounds_succ]
      go_wp2
      refine region_headq 14 (by kernel_rfl) (by kernel_rfl) ?_
      simp only [List.take_succ_cons, List.take_zero, List.drop_succ_cons, List.drop_zero]
      repeat (go_big_quiet_step (fail))
      refine wpQuiet_nil ?_
      rintro _ ⟨nq, rfl⟩
      go_wp2
      rw [rounds_succ]
      go_wp2
      refine region_headq 14 (by kernel_rfl) (by kernel_rfl) ?_
      simp only [List.take_succ_cons, List.take_zero, List.drop_succ_cons, List.drop_zero]
      repeat (go_big_quiet_step (fail))
      refine wpQuiet_nil ?_
      rintro _ ⟨nq, rfl⟩
      go_wp2
      rw [rounds_succ]
      go_wp2
      rw [rounds_succ]
      go_wp2
      refine wp_loop_rounds 4 ?_
      rw [rounds_succ]
      go_wp2
      refine region_headq 14 (by kernel_rfl) (by kernel_rfl) ?_
      simp only [List.take_succ_cons, List.take_zero, List.drop_succ_cons, List.drop_zero]
      repeat (go_big_quiet_step (fail))
      refine wpQuiet_nil ?_
      rintro _ ⟨nq, rfl⟩
      go_wp2
      rw [rounds_succ]
      go_wp2
      refine region_headq 14 (by kernel_rfl) (by kernel_rfl) ?_
      simp only [List.take_succ_cons, List.take_zero, List.drop_succ_cons, List.drop_zero]
      repeat (go_big_quiet_step (fail))
      refine wpQuiet_nil ?_
      rintro _ ⟨nq, rfl⟩
      go_wp2
      rw [rounds_succ]
      go_wp2
      refine region_headq 14 (by kernel_rfl) (by kernel_rfl) ?_
      simp only [List.take_succ_cons, List.take_zero, List.drop_succ_cons, List.drop_zero]
      repeat (go_big_quiet_step (fail))
      refine wpQuiet_nil ?_
      rintro _ ⟨nq, rfl⟩
      go_wp2
      rw [rounds_succ]
      go_wp2
      rw [rounds_succ]
      go_wp2
      refine wp_loop_rounds 4 ?_
      rw [rounds_succ]
      go_wp2
      refine region_headq 14 (by kernel_rfl) (by kernel_rfl) ?_
      simp only [List.take_succ_cons, List.take_zero, List.drop_succ_cons, List.drop_zero]
      repeat (go_big_quiet_step (fail))
      refine wpQuiet_nil ?_
      rintro _ ⟨nq, rfl⟩
      go_wp2
      rw [rounds_succ]
      go_wp2
      refine region_headq 14 (by kernel_rfl) (by kernel_rfl) ?_
      simp only [List.take_succ_cons, List.take_zero, List.drop_succ_cons, List.drop_zero]
      repeat (go_big_quiet_step (fail))
      refine wpQuiet_nil ?_
      rintro _ ⟨nq, rfl⟩
      go_wp2
      rw [rounds_succ]
      go_wp2
      refine region_headq 14 (by kernel_rfl) (by kernel_rfl) ?_
      simp only [List.take_succ_cons, List.take_zero, List.drop_succ_cons, List.drop_zero]
      repeat (go_big_quiet_step (fail))
      refine wpQuiet_nil ?_
      rintro _ ⟨nq, rfl⟩
      go_wp2
      rw [rounds_succ]
      go_wp2
      rw [rounds_succ]
      go_wp2
      go_region_held3 (fun w' => w'.cell? ⟨x0.heap.size + 1, 0, none⟩ = some (.int .i64 (wrap64 (f00 + f01 + f10 + f11))) ∧ w'.cell? ⟨x0.heap.size + 1, 1, none⟩ = some (.int .i64 (wrap64 ((-1) * f01 + (-1) * f11))) ∧ w'.cell? ⟨x0.heap.size + 1, 2, none⟩ = some (.int .i64 (wrap64 (f02 + f12))) ∧ w'.cell? ⟨x0.heap.size + 1, 3, none⟩ = some (.int .i64 (wrap64 (f01 + f03 + f11 + f13))) ∧ w'.cell? ⟨x0.heap.size + 1, 4, none⟩ = some (.int .i64 (wrap64 ((-1) * f10 + (-1) * f11))) ∧ w'.cell? ⟨x0.heap.size + 1, 5, none⟩ = some (.int .i64 (wrap64 (f11))) ∧ w'.cell? ⟨x0.heap.size + 1, 6, none⟩ = some (.int .i64 (wrap64 ((-1) * f12))) ∧ w'.cell? ⟨x0.heap.size + 1, 7, none⟩ = some (.int .i64 (wrap64 ((-1) * f11 + (-1) * f13))) ∧ w'.cell? ⟨x0.heap.size + 1, 8, none⟩ = some (.int .i64 (wrap64 (f20 + f21))) ∧ w'.cell? ⟨x0.heap.size + 1, 9, none⟩ = some (.int .i64 (wrap64 ((-1) * f21))) ∧ w'.cell? ⟨x0.heap.size + 1, 10, none⟩ = some (.int .i64 (wrap64 (f22))) ∧ w'.cell? ⟨x0.heap.size + 1, 11, none⟩ = some (.int .i64 (wrap64 (f21 + f23))) ∧ w'.cell? ⟨x0.heap.size + 1, 12, none⟩ = some (.int .i64 (wrap64 (f10 + f11 + f30 + f31))) ∧ w'.cell? ⟨x0.heap.size + 1, 13, none⟩ = some (.int .i64 (wrap64 ((-1) * f11 + (-1) * f31))) ∧ w'.cell? ⟨x0.heap.size + 1, 14, none⟩ = some (.int .i64 (wrap64 (f12 + f32))) ∧ w'.cell? ⟨x0.heap.size + 1, 15, none⟩ = some (.int .i64 (wrap64 (f11 + f13 + f31 + f33))) ∧ w'.cell? ⟨wr.heap.size, 0, none⟩ = some (.int .i64 1) ∧ w'.cell? ⟨wr.heap.size, 1, none⟩ = some (.int .i64 0) ∧ w'.cell? ⟨wr.heap.size, 2, none⟩ = some (.int .i64 0) ∧ w'.cell? ⟨wr.heap.size, 3, none⟩ = some (.int .i64 1) ∧ w'.cell? ⟨wr.heap.size, 4, none⟩ = some (.int .i64 (-1)) ∧ w'.cell? ⟨wr.heap.size, 5, none⟩ = some (.int .i64 0) ∧ w'.cell? ⟨wr.heap.size, 6, none⟩ = some (.int .i64 0) ∧ w'.cell? ⟨wr.heap.size, 7, none⟩ = some (.int .i64 0) ∧ w'.cell? ⟨wr.heap.size, 8, none⟩ = some (.int .i64 1)) ((go_split_ands; (repeat' apply And.intro) <;> (repeat' (first | assumption | (go_simp; done) | refine keep_alloc ?_ | refine keep_set ?_ ?_ | (dsimp only; omega) | omega)))) (fail)
      all_goals simp only [Exit.then]
      all_goals go_wp2
      all_goals refine bodyPost_ret (v := .tuple #[.agg #[.int .i64 (wrap64 (f00 + f01 + f10 + f11)), .int .i64 (wrap64 ((-1) * f01 + (-1) * f11)), .int .i64 (wrap64 (f02 + f12)), .int .i64 (wrap64 (f01 + f03 + f11 + f13)), .int .i64 (wrap64 ((-1) * f10 + (-1) * f11)), .int .i64 (wrap64 (f11)), .int .i64 (wrap64 ((-1) * f12)), .int .i64 (wrap64 ((-1) * f11 + (-1) * f13)), .int .i64 (wrap64 (f20 + f21)), .int .i64 (wrap64 ((-1) * f21)), .int .i64 (wrap64 (f22)), .int .i64 (wrap64 (f21 + f23)), .int .i64 (wrap64 (f10 + f11 + f30 + f31)), .int .i64 (wrap64 ((-1) * f11 + (-1) * f31)), .int .i64 (wrap64 (f12 + f32)), .int .i64 (wrap64 (f11 + f13 + f31 + f33))], .agg #[.int .i64 1, .int .i64 0, .int .i64 0, .int .i64 1, .int .i64 (-1), .int .i64 0, .int .i64 0, .int .i64 0, .int .i64 1], .bool true]) (by simp [results, Try.results41, go_sem, wrap_add_l, wrap_add_r, wrap_sub_l, wrap_sub_r, wrap_mul_l, wrap_mul_r, wrap_neg, wrap_wrap, wrap3, *]) rfl ⟨rfl, ?_⟩
      all_goals (repeat (first | exact Below.refl _ _ | assumption | exact Below.alloc (Below.refl _ _) (Nat.le_refl _) _ | refine Below.setCell ?_ (by first | (simp; done) | (simp; omega) | omega) _ | refine below_drewN ?_ _ | refine Below.alloc ?_ (by first | (simp; done) | (simp; omega) | omega) _ | refine Below.trans ?_ (Below.mono (by assumption) (by first | (simp; done) | (simp; omega) | omega))))

theorem gout_1_0 (f00 f01 f02 f03 f10 f11 f12 f13 f20 f21 f22 f23 f30 f31 f32 f33 : Int) : Gout (getF [(-1), 0, 0, 0, 1, 1, 0, 0, 0, 0, 1, 0, 1, 0, 0, 1]) (getF [f00, f01, f02, f03, f10, f11, f12, f13, f20, f21, f22, f23, f30, f31, f32, f33]) (4 * 4) 0 = wrap64 (f00) := (rfl : _ = wrap64 (0 + (-1) * f00 * (-1) + (-1) * f01 * 0 + (-1) * f02 * 0 + (-1) * f03 * 0 + 0 * f10 * (-1) + 0 * f11 * 0 + 0 * f12 * 0 + 0 * f13 * 0 + 0 * f20 * (-1) + 0 * f21 * 0 + 0 * f22 * 0 + 0 * f23 * 0 + 0 * f30 * (-1) + 0 * f31 * 0 + 0 * f32 * 0 + 0 * f33 * 0)).trans (congrArg wrap64 (by omega))
theorem gout_1_1 (f00 f01 f02 f03 f10 f11 f12 f13 f20 f21 f22 f23 f30 f31 f32 f33 : Int) : Gout (getF [(-1), 0, 0, 0, 1, 1, 0, 0, 0, 0, 1, 0, 1, 0, 0, 1]) (getF [f00, f01, f02, f03, f10, f11, f12, f13, f20, f21, f22, f23, f30, f31, f32, f33]) (4 * 4) 1 = wrap64 ((-1) * f00 + (-1) * f01) := (rfl : _ = wrap64 (0 + (-1) * f00 * 1 + (-1) * f01 * 1 + (-1) * f02 * 0 + (-1) * f03 * 0 + 0 * f10 * 1 + 0 * f11 * 1 + 0 * f12 * 0 + 0 * f13 * 0 + 0 * f20 * 1 + 0 * f21 * 1 + 0 * f22 * 0 + 0 * f23 * 0 + 0 * f30 * 1 + 0 * f31 * 1 + 0 * f32 * 0 + 0 * f33 * 0)).trans (congrArg wrap64 (by omega))
theorem gout_1_2 (f00 f01 f02 f03 f10 f11 f12 f13 f20 f21 f22 f23 f30 f31 f32 f33 : Int) : Gout (getF [(-1), 0, 0, 0, 1, 1, 0, 0, 0, 0, 1, 0, 1, 0, 0, 1]) (getF [f00, f01, f02, f03, f10, f11, f12, f13, f20, f21, f22, f23, f30, f31, f32, f33]) (4 * 4) 2 = wrap64 ((-1) * f02) := (rfl : _ = wrap64 (0 + (-1) * f00 * 0 + (-1) * f01 * 0 + (-1) * f02 * 1 + (-1) * f03 * 0 + 0 * f10 * 0 + 0 * f11 * 0 + 0 * f12 * 1 + 0 * f13 * 0 + 0 * f20 * 0 + 0 * f21 * 0 + 0 * f22 * 1 + 0 * f23 * 0 + 0 * f30 * 0 + 0 * f31 * 0 + 0 * f32 * 1 + 0 * f33 * 0)).trans (congrArg wrap64 (by omega))
theorem gout_1_3 (f00 f01 f02 f03 f10 f11 f12 f13 f20 f21 f22 f23 f30 f31 f32 f33 : Int) : Gout (getF [(-1), 0, 0, 0, 1, 1, 0, 0, 0, 0, 1, 0, 1, 0, 0, 1]) (getF [f00, f01, f02, f03, f10, f11, f12, f13, f20, f21, f22, f23, f30, f31, f32, f33]) (4 * 4) 3 = wrap64 ((-1) * f00 + (-1) * f03) := (rfl : _ = wrap64 (0 + (-1) * f00 * 1 + (-1) * f01 * 0 + (-1) * f02 * 0 + (-1) * f03 * 1 + 0 * f10 * 1 + 0 * f11 * 0 + 0 * f12 * 0 + 0 * f13 * 1 + 0 * f20 * 1 + 0 * f21 * 0 + 0 * f22 * 0 + 0 * f23 * 1 + 0 * f30 * 1 + 0 * f31 * 0 + 0 * f32 * 0 + 0 * f33 * 1)).trans (congrArg wrap64 (by omega))
theorem gout_1_4 (f00 f01 f02 f03 f10 f11 f12 f13 f20 f21 f22 f23 f30 f31 f32 f33 : Int) : Gout (getF [(-1), 0, 0, 0, 1, 1, 0, 0, 0, 0, 1, 0, 1, 0, 0, 1]) (getF [f00, f01, f02, f03, f10, f11, f12, f13, f20, f21, f22, f23, f30, f31, f32, f33]) (4 * 4) 4 = wrap64 ((-1) * f00 + (-1) * f10) := (rfl : _ = wrap64 (0 + 1 * f00 * (-1) + 1 * f01 * 0 + 1 * f02 * 0 + 1 * f03 * 0 + 1 * f10 * (-1) + 1 * f11 * 0 + 1 * f12 * 0 + 1 * f13 * 0 + 0 * f20 * (-1) + 0 * f21 * 0 + 0 * f22 * 0 + 0 * f23 * 0 + 0 * f30 * (-1) + 0 * f31 * 0 + 0 * f32 * 0 + 0 * f33 * 0)).trans (congrArg wrap64 (by omega))
theorem gout_1_5 (f00 f01 f02 f03 f10 f11 f12 f13 f20 f21 f22 f23 f30 f31 f32 f33 : Int) : Gout (getF [(-1), 0, 0, 0, 1, 1, 0, 0, 0, 0, 1, 0, 1, 0, 0, 1]) (getF [f00, f01, f02, f03, f10, f11, f12, f13, f20, f21, f22, f23, f30, f31, f32, f33]) (4 * 4) 5 = wrap64 (f00 + f01 + f10 + f11) := (rfl : _ = wrap64 (0 + 1 * f00 * 1 + 1 * f01 * 1 + 1 * f02 * 0 + 1 * f03 * 0 + 1 * f10 * 1 + 1 * f11 * 1 + 1 * f12 * 0 + 1 * f13 * 0 + 0 * f20 * 1 + 0 * f21 * 1 + 0 * f22 * 0 + 0 * f23 * 0 + 0 * f30 * 1 + 0 * f31 * 1 + 0 * f32 * 0 + 0 * f33 * 0)).trans (congrArg wrap64 (by omega))
theorem gout_1_6 (f00 f01 f02 f03 f10 f11 f12 f13 f20 f21 f22 f23 f30 f31 f32 f33 : Int) : Gout (getF [(-1), 0, 0, 0, 1, 1, 0, 0, 0, 0, 1, 0, 1, 0, 0, 1]) (getF [f00, f01, f02, f03, f10, f11, f12, f13, f20, f21, f22, f23, f30, f31, f32, f33]) (4 * 4) 6 = wrap64 (f02 + f12) := (rfl : _ = wrap64 (0 + 1 * f00 * 0 + 1 * f01 * 0 + 1 * f02 * 1 + 1 * f03 * 0 + 1 * f10 * 0 + 1 * f11 * 0 + 1 * f12 * 1 + 1 * f13 * 0 + 0 * f20 * 0 + 0 * f21 * 0 + 0 * f22 * 1 + 0 * f23 * 0 + 0 * f30 * 0 + 0 * f31 * 0 + 0 * f32 * 1 + 0 * f33 * 0)).trans (congrArg wrap64 (by omega))
theorem gout_1_7 (f00 f01 f02 f03 f10 f11 f12 f13 f20 f21 f22 f23 f30 f31 f32 f33 : Int) : Gout (getF [(-1), 0, 0, 0, 1, 1, 0, 0, 0, 0, 1, 0, 1, 0, 0, 1]) (getF [f00, f01, f02, f03, f10, f11, f12, f13, f20, f21, f22, f23, f30, f31, f32, f33]) (4 * 4) 7 = wrap64 (f00 + f03 + f10 + f13) := (rfl : _ = wrap64 (0 + 1 * f00 * 1 + 1 * f01 * 0 + 1 * f02 * 0 + 1 * f03 * 1 + 1 * f10 * 1 + 1 * f11 * 0 + 1 * f12 * 0 + 1 * f13 * 1 + 0 * f20 * 1 + 0 * f21 * 0 + 0 * f22 * 0 + 0 * f23 * 1 + 0 * f30 * 1 + 0 * f31 * 0 + 0 * f32 * 0 + 0 * f33 * 1)).trans (congrArg wrap64 (by omega))
theorem gout_1_8 (f00 f01 f02 f03 f10 f11 f12 f13 f20 f21 f22 f23 f30 f31 f32 f33 : Int) : Gout (getF [(-1), 0, 0, 0, 1, 1, 0, 0, 0, 0, 1, 0, 1, 0, 0, 1]) (getF [f00, f01, f02, f03, f10, f11, f12, f13, f20, f21, f22, f23, f30, f31, f32, f33]) (4 * 4) 8 = wrap64 ((-1) * f20) := (rfl : _ = wrap64 (0 + 0 * f00 * (-1) + 0 * f01 * 0 + 0 * f02 * 0 + 0 * f03 * 0 + 0 * f10 * (-1) + 0 * f11 * 0 + 0 * f12 * 0 + 0 * f13 * 0 + 1 * f20 * (-1) + 1 * f21 * 0 + 1 * f22 * 0 + 1 * f23 * 0 + 0 * f30 * (-1) + 0 * f31 * 0 + 0 * f32 * 0 + 0 * f33 * 0)).trans (congrArg wrap64 (by omega))
theorem gout_1_9 (f00 f01 f02 f03 f10 f11 f12 f13 f20 f21 f22 f23 f30 f31 f32 f33 : Int) : Gout (getF [(-1), 0, 0, 0, 1, 1, 0, 0, 0, 0, 1, 0, 1, 0, 0, 1]) (getF [f00, f01, f02, f03, f10, f11, f12, f13, f20, f21, f22, f23, f30, f31, f32, f33]) (4 * 4) 9 = wrap64 (f20 + f21) := (rfl : _ = wrap64 (0 + 0 * f00 * 1 + 0 * f01 * 1 + 0 * f02 * 0 + 0 * f03 * 0 + 0 * f10 * 1 + 0 * f11 * 1 + 0 * f12 * 0 + 0 * f13 * 0 + 1 * f20 * 1 + 1 * f21 * 1 + 1 * f22 * 0 + 1 * f23 * 0 + 0 * f30 * 1 + 0 * f31 * 1 + 0 * f32 * 0 + 0 * f33 * 0)).trans (congrArg wrap64 (by omega))
theorem gout_1_10 (f00 f01 f02 f03 f10 f11 f12 f13 f20 f21 f22 f23 f30 f31 f32 f33 : Int) : Gout (getF [(-1), 0, 0, 0, 1, 1, 0, 0, 0, 0, 1, 0, 1, 0, 0, 1]) (getF [f00, f01, f02, f03, f10, f11, f12, f13, f20, f21, f22, f23, f30, f31, f32, f33]) (4 * 4) 10 = wrap64 (f22) := (rfl : _ = wrap64 (0 + 0 * f00 * 0 + 0 * f01 * 0 + 0 * f02 * 1 + 0 * f03 * 0 + 0 * f10 * 0 + 0 * f11 * 0 + 0 * f12 * 1 + 0 * f13 * 0 + 1 * f20 * 0 + 1 * f21 * 0 + 1 * f22 * 1 + 1 * f23 * 0 + 0 * f30 * 0 + 0 * f31 * 0 + 0 * f32 * 1 + 0 * f33 * 0)).trans (congrArg wrap64 (by omega))
theorem gout_1_11 (f00 f01 f02 f03 f10 f11 f12 f13 f20 f21 f22 f23 f30 f31 f32 f33 : Int) : Gout (getF [(-1), 0, 0, 0, 1, 1, 0, 0, 0, 0, 1, 0, 1, 0, 0, 1]) (getF [f00, f01, f02, f03, f10, f11, f12, f13, f20, f21, f22, f23, f30, f31, f32, f33]) (4 * 4) 11 = wrap64 (f20 + f23) := (rfl : _ = wrap64 (0 + 0 * f00 * 1 + 0 * f01 * 0 + 0 * f02 * 0 + 0 * f03 * 1 + 0 * f10 * 1 + 0 * f11 * 0 + 0 * f12 * 0 + 0 * f13 * 1 + 1 * f20 * 1 + 1 * f21 * 0 + 1 * f22 * 0 + 1 * f23 * 1 + 0 * f30 * 1 + 0 * f31 * 0 + 0 * f32 * 0 + 0 * f33 * 1)).trans (congrArg wrap64 (by omega))
theorem gout_1_12 (f00 f01 f02 f03 f10 f11 f12 f13 f20 f21 f22 f23 f30 f31 f32 f33 : Int) : Gout (getF [(-1), 0, 0, 0, 1, 1, 0, 0, 0, 0, 1, 0, 1, 0, 0, 1]) (getF [f00, f01, f02, f03, f10, f11, f12, f13, f20, f21, f22, f23, f30, f31, f32, f33]) (4 * 4) 12 = wrap64 ((-1) * f00 + (-1) * f30) := (rfl : _ = wrap64 (0 + 1 * f00 * (-1) + 1 * f01 * 0 + 1 * f02 * 0 + 1 * f03 * 0 + 0 * f10 * (-1) + 0 * f11 * 0 + 0 * f12 * 0 + 0 * f13 * 0 + 0 * f20 * (-1) + 0 * f21 * 0 + 0 * f22 * 0 + 0 * f23 * 0 + 1 * f30 * (-1) + 1 * f31 * 0 + 1 * f32 * 0 + 1 * f33 * 0)).trans (congrArg wrap64 (by omega))
theorem gout_1_13 (f00 f01 f02 f03 f10 f11 f12 f13 f20 f21 f22 f23 f30 f31 f32 f33 : Int) : Gout (getF [(-1), 0, 0, 0, 1, 1, 0, 0, 0, 0, 1, 0, 1, 0, 0, 1]) (getF [f00, f01, f02, f03, f10, f11, f12, f13, f20, f21, f22, f23, f30, f31, f32, f33]) (4 * 4) 13 = wrap64 (f00 + f01 + f30 + f31) := (rfl : _ = wrap64 (0 + 1 * f00 * 1 + 1 * f01 * 1 + 1 * f02 * 0 + 1 * f03 * 0 + 0 * f10 * 1 + 0 * f11 * 1 + 0 * f12 * 0 + 0 * f13 * 0 + 0 * f20 * 1 + 0 * f21 * 1 + 0 * f22 * 0 + 0 * f23 * 0 + 1 * f30 * 1 + 1 * f31 * 1 + 1 * f32 * 0 + 1 * f33 * 0)).trans (congrArg wrap64 (by omega))
theorem gout_1_14 (f00 f01 f02 f03 f10 f11 f12 f13 f20 f21 f22 f23 f30 f31 f32 f33 : Int) : Gout (getF [(-1), 0, 0, 0, 1, 1, 0, 0, 0, 0, 1, 0, 1, 0, 0, 1]) (getF [f00, f01, f02, f03, f10, f11, f12, f13, f20, f21, f22, f23, f30, f31, f32, f33]) (4 * 4) 14 = wrap64 (f02 + f32) := (rfl : _ = wrap64 (0 + 1 * f00 * 0 + 1 * f01 * 0 + 1 * f02 * 1 + 1 * f03 * 0 + 0 * f10 * 0 + 0 * f11 * 0 + 0 * f12 * 1 + 0 * f13 * 0 + 0 * f20 * 0 + 0 * f21 * 0 + 0 * f22 * 1 + 0 * f23 * 0 + 1 * f30 * 0 + 1 * f31 * 0 + 1 * f32 * 1 + 1 * f33 * 0)).trans (congrArg wrap64 (by omega))
theorem gout_1_15 (f00 f01 f02 f03 f10 f11 f12 f13 f20 f21 f22 f23 f30 f31 f32 f33 : Int) : Gout (getF [(-1), 0, 0, 0, 1, 1, 0, 0, 0, 0, 1, 0, 1, 0, 0, 1]) (getF [f00, f01, f02, f03, f10, f11, f12, f13, f20, f21, f22, f23, f30, f31, f32, f33]) (4 * 4) 15 = wrap64 (f00 + f03 + f30 + f33) := (rfl : _ = wrap64 (0 + 1 * f00 * 1 + 1 * f01 * 0 + 1 * f02 * 0 + 1 * f03 * 1 + 0 * f10 * 1 + 0 * f11 * 0 + 0 * f12 * 0 + 0 * f13 * 1 + 0 * f20 * 1 + 0 * f21 * 0 + 0 * f22 * 0 + 0 * f23 * 1 + 1 * f30 * 1 + 1 * f31 * 0 + 1 * f32 * 0 + 1 * f33 * 1)).trans (congrArg wrap64 (by omega))
set_option maxHeartbeats 6400000 in
set_option maxRecDepth 100000 in
theorem rstep_1 (f00 f01 f02 f03 f10 f11 f12 f13 f20 f21 f22 f23 f30 f31 f32 f33 : Int) (w : World) (h0 : f12 ≤ 0) (h1 : 0 < f02):
    Calls Try.prog 41 #[.agg #[.int .i64 f00, .int .i64 f01, .int .i64 f02, .int .i64 f03, .int .i64 f10, .int .i64 f11, .int .i64 f12, .int .i64 f13, .int .i64 f20, .int .i64 f21, .int .i64 f22, .int .i64 f23, .int .i64 f30, .int .i64 f31, .int .i64 f32, .int .i64 f33]] w fun e w' => e = .returned (.tuple #[.agg #[.int .i64 (wrap64 (f00)), .int .i64 (wrap64 ((-1) * f00 + (-1) * f01)), .int .i64 (wrap64 ((-1) * f02)), .int .i64 (wrap64 ((-1) * f00 + (-1) * f03)), .int .i64 (wrap64 ((-1) * f00 + (-1) * f10)), .int .i64 (wrap64 (f00 + f01 + f10 + f11)), .int .i64 (wrap64 (f02 + f12)), .int .i64 (wrap64 (f00 + f03 + f10 + f13)), .int .i64 (wrap64 ((-1) * f20)), .int .i64 (wrap64 (f20 + f21)), .int .i64 (wrap64 (f22)), .int .i64 (wrap64 (f20 + f23)), .int .i64 (wrap64 ((-1) * f00 + (-1) * f30)), .int .i64 (wrap64 (f00 + f01 + f30 + f31)), .int .i64 (wrap64 (f02 + f32)), .int .i64 (wrap64 (f00 + f03 + f30 + f33))], .agg #[.int .i64 (-1), .int .i64 1, .int .i64 0, .int .i64 0, .int .i64 1, .int .i64 0, .int .i64 0, .int .i64 0, .int .i64 1], .bool true]) ∧ Below w.heap.size w w' := by
  go_enter Try.func41, Try.ntmps41
  go_wp2_with fail
  refine (rpairs_any _).mono ?_
  rintro e w1 ⟨rfl, hb1⟩
  obtain ⟨hc1, hf1⟩ := bcell hb1
  have hz1 := hb1.size
  try simp at hz1
  have z1_0 : w.heap.size < w1.heap.size := by omega
  have z1_1 : w.heap.size + 1 < w1.heap.size := by omega
  have z1_2 : w.heap.size + 1 + 1 < w1.heap.size := by omega
  go_wp2
  refine wp_loop_rounds 7 ?_
  rw [rounds_succ]
  go_wp2
  have zzx0_0 : w.heap.size < w1.heap.size + 1 := by omega
  have zzx0_1 : w.heap.size + 1 < w1.heap.size + 1 := by omega
  have zzx0_2 : w.heap.size + 1 + 1 < w1.heap.size + 1 := by omega
  have zzx0_3 : w1.heap.size < w1.heap.size + 1 := by omega
  refine region_all (by kernel_rfl) (by kernel_rfl) ?_
  repeat (go_big_quiet_step (fail))
  refine wpQuiet_nil ?_
  rintro x0 ⟨⟨w0, hbx0⟩, rfl⟩
  obtain ⟨hcx0, hfx0⟩ := bcell hbx0
  have hzx0 := hbx0.size
  try simp at hzx0
  have zx0_0 : w.heap.size < x0.heap.size := by omega
  have zx0_1 : w.heap.size + 1 < x0.heap.size := by omega
  have zx0_2 : w.heap.size + 1 + 1 < x0.heap.size := by omega
  have zx0_3 : w1.heap.size < x0.heap.size := by omega
  go_wp2
  rw [rounds_succ]
  go_wp2
  have zzx1_0 : w.heap.size < x0.heap.size + 1 := by omega
  have zzx1_1 : w.heap.size + 1 < x0.heap.size + 1 := by omega
  have zzx1_2 : w.heap.size + 1 + 1 < x0.heap.size + 1 := by omega
  have zzx1_3 : w1.heap.size < x0.heap.size + 1 := by omega
  have zzx1_4 : x0.heap.size < x0.heap.size + 1 := by omega
  refine region_all (by kernel_rfl) (by kernel_rfl) ?_
  repeat (go_big_quiet_step (fail))
  refine wpQuiet_nil ?_
  rintro x1 ⟨⟨w0, hbx1⟩, rfl⟩
  obtain ⟨hcx1, hfx1⟩ := bcell hbx1
  have hzx1 := hbx1.size
  try simp at hzx1
  have zx1_0 : w.heap.size < x1.heap.size := by omega
  have zx1_1 : w.heap.size + 1 < x1.heap.size := by omega
  have zx1_2 : w.heap.size + 1 + 1 < x1.heap.size := by omega
  have zx1_3 : w1.heap.size < x1.heap.size := by omega
  have zx1_4 : x0.heap.size < x1.heap.size := by omega
  go_wp2
  refine wp_loop_rounds 5 ?_
  rw [rounds_succ]
  go_wp2
  rw [rounds_succ]
  go_wp2
  rw [rounds_succ]
  go_wp2
  rw [rounds_succ]
  go_wp2
  rw [rounds_succ]
  go_wp2
  obtain ⟨TT, eT⟩ : ∃ T : Nat → Int, T = (getF [(-1), 0, 0, 0, 1, 1, 0, 0, 0, 0, 1, 0, 1, 0, 0, 1]) := ⟨_, rfl⟩
  obtain ⟨FF, eF⟩ : ∃ F : Nat → Int, F = (getF [f00, f01, f02, f03, f10, f11, f12, f13, f20, f21, f22, f23, f30, f31, f32, f33]) := ⟨_, rfl⟩
  have cF : ∀ k, k < 16 → x1.cell? ⟨w.heap.size, k, none⟩ = some (.int .i64 (FF k)) := by
    rw [eF]
    refine all16 ?_ ?_ ?_ ?_ ?_ ?_ ?_ ?_ ?_ ?_ ?_ ?_ ?_ ?_ ?_ ?_ <;> (go_simp; try rfl)
  have CF := Lib.hid cF; clear cF
  have ET := Lib.hid eT; have EF := Lib.hid eF; clear eF
  go_loopw [54] (fun i wr => ∃ k : Nat, k ≤ 4 ∧ i = .int .i64 k ∧ GI x1 x1.heap.size (x1.heap.size) (x1.heap.size + 1) TT (Gout TT FF (k * 4)) wr) (fun i _ => 4 - (intOf i).toNat)
  case atStart =>
    refine ⟨0, by omega, rfl, ⟨?_, by (simp <;> omega), by (simp <;> omega), ?_, ?_, by intro o; go_simp⟩⟩
    · repeat (first | exact Below.refl _ _ | assumption | exact Below.alloc (Below.refl _ _) (Nat.le_refl _) _ | refine Below.setCell ?_ (by first | (simp; done) | (simp; omega) | omega) _ | refine below_drewN ?_ _ | refine Below.alloc ?_ (by first | (simp; done) | (simp; omega) | omega) _ | refine Below.trans ?_ (Below.mono (by assumption) (by first | (simp; done) | (simp; omega) | omega)))
    · rw [eT]
      refine all16 ?_ ?_ ?_ ?_ ?_ ?_ ?_ ?_ ?_ ?_ ?_ ?_ ?_ ?_ ?_ ?_ <;> (go_simp; try rfl)
    · refine all16 ?_ ?_ ?_ ?_ ?_ ?_ ?_ ?_ ?_ ?_ ?_ ?_ ?_ ?_ ?_ ?_ <;> (simp only [Gout]; go_simp; try rfl)
  case round =>
    clear eT
    obtain ⟨i, hi, rfl, hinv⟩ := hrel
    by_cases hlt : i < 4
    · go_wp2
      go_loopw [57] (fun j wr => ∃ k : Nat, k ≤ 4 ∧ j = .int .i64 k ∧ GI x1 x1.heap.size (x1.heap.size) (x1.heap.size + 1) TT (Gout TT FF (i * 4 + k)) wr) (fun j _ => 4 - (intOf j).toNat)
      case atStart => exact ⟨0, by omega, rfl, hinv⟩
      case round =>
        clear hinv
        obtain ⟨j, hj, rfl, hjnv⟩ := hrel
        by_cases hlj : j < 4
        · go_wp2
          go_loopw [14] (fun n wr => ∃ k : Nat, k ≤ 16 ∧ n = .int .i64 k ∧ GI x1 x1.heap.size (x1.heap.size) (x1.heap.size + 1) TT (Gin TT FF i j k) wr) (fun n _ => 16 - (intOf n).toNat)
          case atStart => exact ⟨0, by omega, rfl, hjnv.of_eq (in_start TT FF i j)⟩
          case round =>
            clear hjnv
            obtain ⟨n, hn, rfl, hnnv⟩ := hrel
            by_cases hln : n < 16
            · have HN := Lib.hid hnnv
              have cG := hnnv.cells (i * 4 + j) (by omega)
              have cT1 := hnnv.tc (i * 4 + n / 4) (by omega)
              have cT2 := hnnv.tc (j * 4 + n % 4) (by omega)
              have cF := (hnnv.below.cell (p := ⟨w.heap.size, n / 4 * 4 + n % 4, none⟩) (by dsimp only; omega)).trans (CF.out (n / 4 * 4 + n % 4) (by omega))
              have en : FF (n / 4 * 4 + n % 4) = FF n := congrArg FF (by omega)
              rw [en] at cF; clear en
              simp only [Gin, Nat.lt_irrefl, if_false, if_true] at cG
              have fz := hnnv.fz; have zg := hnnv.zg; have zt := hnnv.zt
              clear hnnv
              have ea : (n : Int).tdiv 4 = ((n / 4 : Nat) : Int) := by rw [Int.tdiv_eq_ediv_of_nonneg (by omega)]; omega
              have er : (n : Int).tmod 4 = ((n % 4 : Nat) : Int) := by rw [Int.tmod_eq_emod_of_nonneg (by omega)]; omega
              obtain ⟨a, eqa⟩ : ∃ a, a = n / 4 := ⟨_, rfl⟩
              obtain ⟨r, eqr⟩ : ∃ r, r = n % 4 := ⟨_, rfl⟩
              obtain ⟨S, eS⟩ : ∃ S, S = acc TT FF i j n := ⟨_, rfl⟩
              rw [← eqa] at cT1 cF ea; rw [← eqr] at cT2 cF er; rw [← eS] at cG
              have la : a < 4 := by omega
              have lr : r < 4 := by omega
              obtain ⟨t1, e1⟩ : ∃ t, t = TT (i * 4 + a) := ⟨_, rfl⟩
              obtain ⟨t2, e2⟩ : ∃ t, t = TT (j * 4 + r) := ⟨_, rfl⟩
              obtain ⟨fn, e3⟩ : ∃ t, t = FF n := ⟨_, rfl⟩
              rw [← e1] at cT1; rw [← e2] at cT2; rw [← e3] at cF
              have E1 := Lib.hid e1; have E2 := Lib.hid e2; have E3 := Lib.hid e3; have EA := Lib.hid eqa; have ER := Lib.hid eqr; have ES := Lib.hid eS; clear e1 e2 e3 eqa eqr eS
              go_wp2
              refine region_headq 29 (by kernel_rfl) (by kernel_rfl) ?_
              simp only [List.take_succ_cons, List.take_zero, List.drop_succ_cons, List.drop_zero]
              repeat (go_big_quiet_step (fail))
              refine wpQuiet_nil ?_
              rintro _ ⟨nq, rfl⟩
              go_wp2
              go_roundw
              case rel =>
                refine ⟨n + 1, by omega, by go_num, HN.out.set (by omega) (by omega) (in_step TT FF i j n ?_) _⟩
                rw [E1.out, E2.out, E3.out, ES.out, EA.out, ER.out]
                simp only [wrap_add_l, wrap_add_r, wrap_mul_l]
              case measure => simp [intOf]; omega
            · obtain rfl : n = 16 := by omega
              go_wp2
              go_roundw
              case rel => exact ⟨j + 1, by omega, by go_num, hnnv.of_eq (in_end TT FF i j hlj)⟩
              case measure => simp [intOf]; omega
        · obtain rfl : j = 4 := by omega
          go_wp2
          go_roundw
          case rel => exact ⟨i + 1, by omega, by go_num, hjnv.of_eq (fun k _ => by rw [show i * 4 + 4 = (i + 1) * 4 by omega])⟩
          case measure => simp [intOf]; omega
    · obtain rfl : i = 4 := by omega
      obtain ⟨hcw, hfw⟩ := bcell hinv.below
      have zt := hinv.zt; have zg := hinv.zg
      have hbz := hinv.below.size
      have t0 : wr.cell? ⟨x1.heap.size, 0, none⟩ = some (.int .i64 (-1)) := by have := hinv.tc 0 (by omega); rw [ET.out] at this; exact this
      have g0 : wr.cell? ⟨x1.heap.size + 1, 0, none⟩ = some (.int .i64 (wrap64 (f00))) := by have := hinv.cells 0 (by omega); rw [ET.out, EF.out, gout_1_0 f00 f01 f02 f03 f10 f11 f12 f13 f20 f21 f22 f23 f30 f31 f32 f33] at this; exact this
      have t1 : wr.cell? ⟨x1.heap.size, 1, none⟩ = some (.int .i64 0) := by have := hinv.tc 1 (by omega); rw [ET.out] at this; exact this
      have g1 : wr.cell? ⟨x1.heap.size + 1, 1, none⟩ = some (.int .i64 (wrap64 ((-1) * f00 + (-1) * f01))) := by have := hinv.cells 1 (by omega); rw [ET.out, EF.out, gout_1_1 f00 f01 f02 f03 f10 f11 f12 f13 f20 f21 f22 f23 f30 f31 f32 f33] at this; exact this
      have t2 : wr.cell? ⟨x1.heap.size, 2, none⟩ = some (.int .i64 0) := by have := hinv.tc 2 (by omega); rw [ET.out] at this; exact this
      have g2 : wr.cell? ⟨x1.heap.size + 1, 2, none⟩ = some (.int .i64 (wrap64 ((-1) * f02))) := by have := hinv.cells 2 (by omega); rw [ET.out, EF.out, gout_1_2 f00 f01 f02 f03 f10 f11 f12 f13 f20 f21 f22 f23 f30 f31 f32 f33] at this; exact this
      have t3 : wr.cell? ⟨x1.heap.size, 3, none⟩ = some (.int .i64 0) := by have := hinv.tc 3 (by omega); rw [ET.out] at this; exact this
      have g3 : wr.cell? ⟨x1.heap.size + 1, 3, none⟩ = some (.int .i64 (wrap64 ((-1) * f00 + (-1) * f03))) := by have := hinv.cells 3 (by omega); rw [ET.out, EF.out, gout_1_3 f00 f01 f02 f03 f10 f11 f12 f13 f20 f21 f22 f23 f30 f31 f32 f33] at this; exact this
      have t4 : wr.cell? ⟨x1.heap.size, 4, none⟩ = some (.int .i64 1) := by have := hinv.tc 4 (by omega); rw [ET.out] at this; exact this
      have g4 : wr.cell? ⟨x1.heap.size + 1, 4, none⟩ = some (.int .i64 (wrap64 ((-1) * f00 + (-1) * f10))) := by have := hinv.cells 4 (by omega); rw [ET.out, EF.out, gout_1_4 f00 f01 f02 f03 f10 f11 f12 f13 f20 f21 f22 f23 f30 f31 f32 f33] at this; exact this
      have t5 : wr.cell? ⟨x1.heap.size, 5, none⟩ = some (.int .i64 1) := by have := hinv.tc 5 (by omega); rw [ET.out] at this; exact this
      have g5 : wr.cell? ⟨x1.heap.size + 1, 5, none⟩ = some (.int .i64 (wrap64 (f00 + f01 + f10 + f11))) := by have := hinv.cells 5 (by omega); rw [ET.out, EF.out, gout_1_5 f00 f01 f02 f03 f10 f11 f12 f13 f20 f21 f22 f23 f30 f31 f32 f33] at this; exact this
      have t6 : wr.cell? ⟨x1.heap.size, 6, none⟩ = some (.int .i64 0) := by have := hinv.tc 6 (by omega); rw [ET.out] at this; exact this
      have g6 : wr.cell? ⟨x1.heap.size + 1, 6, none⟩ = some (.int .i64 (wrap64 (f02 + f12))) := by have := hinv.cells 6 (by omega); rw [ET.out, EF.out, gout_1_6 f00 f01 f02 f03 f10 f11 f12 f13 f20 f21 f22 f23 f30 f31 f32 f33] at this; exact this
      have t7 : wr.cell? ⟨x1.heap.size, 7, none⟩ = some (.int .i64 0) := by have := hinv.tc 7 (by omega); rw [ET.out] at this; exact this
      have g7 : wr.cell? ⟨x1.heap.size + 1, 7, none⟩ = some (.int .i64 (wrap64 (f00 + f03 + f10 + f13))) := by have := hinv.cells 7 (by omega); rw [ET.out, EF.out, gout_1_7 f00 f01 f02 f03 f10 f11 f12 f13 f20 f21 f22 f23 f30 f31 f32 f33] at this; exact this
      have t8 : wr.cell? ⟨x1.heap.size, 8, none⟩ = some (.int .i64 0) := by have := hinv.tc 8 (by omega); rw [ET.out] at this; exact this
      have g8 : wr.cell? ⟨x1.heap.size + 1, 8, none⟩ = some (.int .i64 (wrap64 ((-1) * f20))) := by have := hinv.cells 8 (by omega); rw [ET.out, EF.out, gout_1_8 f00 f01 f02 f03 f10 f11 f12 f13 f20 f21 f22 f23 f30 f31 f32 f33] at this; exact this
      have t9 : wr.cell? ⟨x1.heap.size, 9, none⟩ = some (.int .i64 0) := by have := hinv.tc 9 (by omega); rw [ET.out] at this; exact this
      have g9 : wr.cell? ⟨x1.heap.size + 1, 9, none⟩ = some (.int .i64 (wrap64 (f20 + f21))) := by have := hinv.cells 9 (by omega); rw [ET.out, EF.out, gout_1_9 f00 f01 f02 f03 f10 f11 f12 f13 f20 f21 f22 f23 f30 f31 f32 f33] at this; exact this
      have t10 : wr.cell? ⟨x1.heap.size, 10, none⟩ = some (.int .i64 1) := by have := hinv.tc 10 (by omega); rw [ET.out] at this; exact this
      have g10 : wr.cell? ⟨x1.heap.size + 1, 10, none⟩ = some (.int .i64 (wrap64 (f22))) := by have := hinv.cells 10 (by omega); rw [ET.out, EF.out, gout_1_10 f00 f01 f02 f03 f10 f11 f12 f13 f20 f21 f22 f23 f30 f31 f32 f33] at this; exact this
      have t11 : wr.cell? ⟨x1.heap.size, 11, none⟩ = some (.int .i64 0) := by have := hinv.tc 11 (by omega); rw [ET.out] at this; exact this
      have g11 : wr.cell? ⟨x1.heap.size + 1, 11, none⟩ = some (.int .i64 (wrap64 (f20 + f23))) := by have := hinv.cells 11 (by omega); rw [ET.out, EF.out, gout_1_11 f00 f01 f02 f03 f10 f11 f12 f13 f20 f21 f22 f23 f30 f31 f32 f33] at this; exact this
      have t12 : wr.cell? ⟨x1.heap.size, 12, none⟩ = some (.int .i64 1) := by have := hinv.tc 12 (by omega); rw [ET.out] at this; exact this
      have g12 : wr.cell? ⟨x1.heap.size + 1, 12, none⟩ = some (.int .i64 (wrap64 ((-1) * f00 + (-1) * f30))) := by have := hinv.cells 12 (by omega); rw [ET.out, EF.out, gout_1_12 f00 f01 f02 f03 f10 f11 f12 f13 f20 f21 f22 f23 f30 f31 f32 f33] at this; exact this
      have t13 : wr.cell? ⟨x1.heap.size, 13, none⟩ = some (.int .i64 0) := by have := hinv.tc 13 (by omega); rw [ET.out] at this; exact this
      have g13 : wr.cell? ⟨x1.heap.size + 1, 13, none⟩ = some (.int .i64 (wrap64 (f00 + f01 + f30 + f31))) := by have := hinv.cells 13 (by omega); rw [ET.out, EF.out, gout_1_13 f00 f01 f02 f03 f10 f11 f12 f13 f20 f21 f22 f23 f30 f31 f32 f33] at this; exact this
      have t14 : wr.cell? ⟨x1.heap.size, 14, none⟩ = some (.int .i64 0) := by have := hinv.tc 14 (by omega); rw [ET.out] at this; exact this
      have g14 : wr.cell? ⟨x1.heap.size + 1, 14, none⟩ = some (.int .i64 (wrap64 (f02 + f32))) := by have := hinv.cells 14 (by omega); rw [ET.out, EF.out, gout_1_14 f00 f01 f02 f03 f10 f11 f12 f13 f20 f21 f22 f23 f30 f31 f32 f33] at this; exact this
      have t15 : wr.cell? ⟨x1.heap.size, 15, none⟩ = some (.int .i64 1) := by have := hinv.tc 15 (by omega); rw [ET.out] at this; exact this
      have g15 : wr.cell? ⟨x1.heap.size + 1, 15, none⟩ = some (.int .i64 (wrap64 (f00 + f03 + f30 + f33))) := by have := hinv.cells 15 (by omega); rw [ET.out, EF.out, gout_1_15 f00 f01 f02 f03 f10 f11 f12 f13 f20 f21 f22 f23 f30 f31 f32 f33] at this; exact this
      have hbw := hinv.below
      clear hinv
      have y0 : w.heap.size < wr.heap.size := by omega
      have y1 : w.heap.size + 1 < wr.heap.size := by omega
      have y2 : w.heap.size + 1 + 1 < wr.heap.size := by omega
      have y3 : w1.heap.size < wr.heap.size := by omega
      have y4 : x0.heap.size < wr.heap.size := by omega
      have y5 : x1.heap.size < wr.heap.size := by omega
      have y6 : x1.heap.size + 1 < wr.heap.size := by omega
      go_wp2
      refine wp_loop_rounds 4 ?_
      rw [rounds_succ]
      go_wp2
      refine wp_loop_rounds 4 ?_
      rw [rounds_succ]
      go_wp2
      refine region_headq 14 (by kernel_rfl) (by kernel_rfl) ?_
      simp only [List.take_succ_cons, List.take_zero, List.drop_succ_cons, List.drop_zero]
      repeat (go_big_quiet_step (fail))
      refine wpQuiet_nil ?_
      rintro _ ⟨nq, rfl⟩
      go_wp2
      rw [rounds_succ]
      go_wp2
      refine region_headq 14 (by kernel_rfl) (by kernel_rfl) ?_
      simp only [List.take_succ_cons, List.take_zero, List.drop_succ_cons, List.drop_zero]
      repeat (go_big_quiet_step (fail))
      refine wpQuiet_nil ?_
      rintro _ ⟨nq, rfl⟩
      go_wp2
      rw [rounds_succ]
      go_wp2
      refine region_headq 14 (by kernel_rfl) (by kernel_rfl) ?_
      simp only [List.take_succ_cons, List.take_zero, List.drop_succ_cons, List.drop_zero]
      repeat (go_big_quiet_step (fail))
      refine wpQuiet_nil ?_
      rintro _ ⟨nq, rfl⟩
      go_wp2
      rw [rounds_succ]
      go_wp2
      rw [rounds_succ]
      go_wp2
      refine wp_loop_rounds 4 ?_
      rw [rounds_succ]
      go_wp2
      refine region_headq 14 (by kernel_rfl) (by kernel_rfl) ?_
      simp only [List.take_succ_cons, List.take_zero, List.drop_succ_cons, List.drop_zero]
      repeat (go_big_quiet_step (fail))
      refine wpQuiet_nil ?_
      rintro _ ⟨nq, rfl⟩
      go_wp2
      rw [rounds_succ]
      go_wp2
      refine region_headq 14 (by kernel_rfl) (by kernel_rfl) ?_
      simp only [List.take_succ_cons, List.take_zero, List.drop_succ_cons, List.drop_zero]
      repeat (go_big_quiet_step (fail))
      refine wpQuiet_nil ?_
      rintro _ ⟨nq, rfl⟩
      go_wp2
      rw [rounds_succ]
      go_wp2
      refine region_headq 14 (by kernel_rfl) (by kernel_rfl) ?_
      simp only [List.take_succ_cons, List.take_zero, List.drop_succ_cons, List.drop_zero]
      repeat (go_big_quiet_step (fail))
      refine wpQuiet_nil ?_
      rintro _ ⟨nq, rfl⟩
      go_wp2
      rw [rounds_succ]
      go_wp2
      rw [rounds_succ]
      go_wp2
      refine wp_loop_rounds 4 ?_
      rw [rounds_succ]
      go_wp2
      refine region_headq 14 (by kernel_rfl) (by kernel_rfl) ?_
      simp only [List.take_succ_cons, List.take_zero, List.drop_succ_cons, List.drop_zero]
      repeat (go_big_quiet_step (fail))
      refine wpQuiet_nil ?_
      rintro _ ⟨nq, rfl⟩
      go_wp2
      rw [rounds_succ]
      go_wp2
      refine region_headq 14 (by kernel_rfl) (by kernel_rfl) ?_
      simp only [List.take_succ_cons, List.take_zero, List.drop_succ_cons, List.drop_zero]
      repeat (go_big_quiet_step (fail))
      refine wpQuiet_nil ?_
      rintro _ ⟨nq, rfl⟩
      go_wp2
      rw [rounds_succ]
      go_wp2
      refine region_headq 14 (by kernel_rfl) (by kernel_rfl) ?_
      simp only [List.take_succ_cons, List.take_zero, List.drop_succ_cons, List.drop_zero]
      repeat (go_big_quiet_step (fail))
      refine wpQuiet_nil ?_
      rintro _ ⟨nq, rfl⟩
      go_wp2
      rw [rounds_succ]
      go_wp2
      rw [rounds_succ]
      go_wp2
      go_region_held3 (fun w' => w'.cell? ⟨x1.heap.size + 1, 0, none⟩ = some (.int .i64 (wrap64 (f00))) ∧ w'.cell? ⟨x1.heap.size + 1, 1, none⟩ = some (.int .i64 (wrap64 ((-1) * f00 + (-1) * f01))) ∧ w'.cell? ⟨x1.heap.size + 1, 2, none⟩ = some (.int .i64 (wrap64 ((-1) * f02))) ∧ w'.cell? ⟨x1.heap.size + 1, 3, none⟩ = some (.int .i64 (wrap64 ((-1) * f00 + (-1) * f03))) ∧ w'.cell? ⟨x1.heap.size + 1, 4, none⟩ = some (.int .i64 (wrap64 ((-1) * f00 + (-1) * f10))) ∧ w'.cell? ⟨x1.heap.size + 1, 5, none⟩ = some (.int .i64 (wrap64 (f00 + f01 + f10 + f11))) ∧ w'.cell? ⟨x1.heap.size + 1, 6, none⟩ = some (.int .i64 (wrap64 (f02 + f12))) ∧ w'.cell? ⟨x1.heap.size + 1, 7, none⟩ = some (.int .i64 (wrap64 (f00 + f03 + f10 + f13))) ∧ w'.cell? ⟨x1.heap.size + 1, 8, none⟩ = some (.int .i64 (wrap64 ((-1) * f20))) ∧ w'.cell? ⟨x1.heap.size + 1, 9, none⟩ = some (.int .i64 (wrap64 (f20 + f21))) ∧ w'.cell? ⟨x1.heap.size + 1, 10, none⟩ = some (.int .i64 (wrap64 (f22))) ∧ w'.cell? ⟨x1.heap.size + 1, 11, none⟩ = some (.int .i64 (wrap64 (f20 + f23))) ∧ w'.cell? ⟨x1.heap.size + 1, 12, none⟩ = some (.int .i64 (wrap64 ((-1) * f00 + (-1) * f30))) ∧ w'.cell? ⟨x1.heap.size + 1, 13, none⟩ = some (.int .i64 (wrap64 (f00 + f01 + f30 + f31))) ∧ w'.cell? ⟨x1.heap.size + 1, 14, none⟩ = some (.int .i64 (wrap64 (f02 + f32))) ∧ w'.cell? ⟨x1.heap.size + 1, 15, none⟩ = some (.int .i64 (wrap64 (f00 + f03 + f30 + f33))) ∧ w'.cell? ⟨wr.heap.size, 0, none⟩ = some (.int .i64 (-1)) ∧ w'.cell? ⟨wr.heap.size, 1, none⟩ = some (.int .i64 1) ∧ w'.cell? ⟨wr.heap.size, 2, none⟩ = some (.int .i64 0) ∧ w'.cell? ⟨wr.heap.size, 3, none⟩ = some (.int .i64 0) ∧ w'.cell? ⟨wr.heap.size, 4, none⟩ = some (.int .i64 1) ∧ w'.cell? ⟨wr.heap.size, 5, none⟩ = some (.int .i64 0) ∧ w'.cell? ⟨wr.heap.size, 6, none⟩ = some (.int .i64 0) ∧ w'.cell? ⟨wr.heap.size, 7, none⟩ = some (.int .i64 0) ∧ w'.cell? ⟨wr.heap.size, 8, none⟩ = some (.int .i64 1)) ((go_split_ands; (repeat' apply And.intro) <;> (repeat' (first | assumption | (go_simp; done) | refine keep_alloc ?_ | refine keep_set ?_ ?_ | (dsimp only; omega) | omega)))) (fail)
      all_goals simp only [Exit.then]
      all_goals go_wp2
      all_goals refine bodyPost_ret (v := .tuple #[.agg #[.int .i64 (wrap64 (f00)), .int .i64 (wrap64 ((-1) * f00 + (-1) * f01)), .int .i64 (wrap64 ((-1) * f02)), .int .i64 (wrap64 ((-1) * f00 + (-1) * f03)), .int .i64 (wrap64 ((-1) * f00 + (-1) * f10)), .int .i64 (wrap64 (f00 + f01 + f10 + f11)), .int .i64 (wrap64 (f02 + f12)), .int .i64 (wrap64 (f00 + f03 + f10 + f13)), .int .i64 (wrap64 ((-1) * f20)), .int .i64 (wrap64 (f20 + f21)), .int .i64 (wrap64 (f22)), .int .i64 (wrap64 (f20 + f23)), .int .i64 (wrap64 ((-1) * f00 + (-1) * f30)), .int .i64 (wrap64 (f00 + f01 + f30 + f31)), .int .i64 (wrap64 (f02 + f32)), .int .i64 (wrap64 (f00 + f03 + f30 + f33))], .agg #[.int .i64 (-1), .int .i64 1, .int .i64 0, .int .i64 0, .int .i64 1, .int .i64 0, .int .i64 0, .int .i64 0, .int .i64 1], .bool true]) (by simp [results, Try.results41, go_sem, wrap_add_l, wrap_add_r, wrap_sub_l, wrap_sub_r, wrap_mul_l, wrap_mul_r, wrap_neg, wrap_wrap, wrap3, *]) rfl ⟨rfl, ?_⟩
      all_goals (repeat (first | exact Below.refl _ _ | assumption | exact Below.alloc (Below.refl _ _) (Nat.le_refl _) _ | refine Below.setCell ?_ (by first | (simp; done) | (simp; omega) | omega) _ | refine below_drewN ?_ _ | refine Below.alloc ?_ (by first | (simp; done) | (simp; omega) | omega) _ | refine Below.trans ?_ (Below.mono (by assumption) (by first | (simp; done) | (simp; omega) | omega))))

end Go.Proofs.Ytdhlkhockpblhaa
