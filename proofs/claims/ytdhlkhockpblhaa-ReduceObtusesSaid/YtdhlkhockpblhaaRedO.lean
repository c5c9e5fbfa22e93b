/-
  The reference: no step to make.
-/
import Derived.Test.YtdhlkhockpblhaaRedD
import Derived.Deep.RegionHeld3
import Derived.WalkMore
namespace Go.Proofs.Ytdhlkhockpblhaa
open Go.RowKit
attribute [local irreducible] World.setCell

set_option linter.unusedSimpArgs false
set_option linter.unusedVariables false

@[go_sem] theorem idxo0 (w : World) : (Instr.index 111 (.agg #[.int .i64 1, .int .i64 2, .int .i64 0, .int .i64 2, .int .i64 0, .int .i64 1, .int .i64 0, .int .i64 3, .int .i64 1, .int .i64 3, .int .i64 2, .int .i64 3]) (.int .i64 0)).run Try.prog w = .ok (.agg #[.int .i64 1, .int .i64 2]) w := by kernel_rfl
@[go_sem] theorem idxo1 (w : World) : (Instr.index 111 (.agg #[.int .i64 1, .int .i64 2, .int .i64 0, .int .i64 2, .int .i64 0, .int .i64 1, .int .i64 0, .int .i64 3, .int .i64 1, .int .i64 3, .int .i64 2, .int .i64 3]) (.int .i64 1)).run Try.prog w = .ok (.agg #[.int .i64 0, .int .i64 2]) w := by kernel_rfl
@[go_sem] theorem idxo2 (w : World) : (Instr.index 111 (.agg #[.int .i64 1, .int .i64 2, .int .i64 0, .int .i64 2, .int .i64 0, .int .i64 1, .int .i64 0, .int .i64 3, .int .i64 1, .int .i64 3, .int .i64 2, .int .i64 3]) (.int .i64 2)).run Try.prog w = .ok (.agg #[.int .i64 0, .int .i64 1]) w := by kernel_rfl
@[go_sem] theorem idxo3 (w : World) : (Instr.index 111 (.agg #[.int .i64 1, .int .i64 2, .int .i64 0, .int .i64 2, .int .i64 0, .int .i64 1, .int .i64 0, .int .i64 3, .int .i64 1, .int .i64 3, .int .i64 2, .int .i64 3]) (.int .i64 3)).run Try.prog w = .ok (.agg #[.int .i64 0, .int .i64 3]) w := by kernel_rfl
@[go_sem] theorem idxo4 (w : World) : (Instr.index 111 (.agg #[.int .i64 1, .int .i64 2, .int .i64 0, .int .i64 2, .int .i64 0, .int .i64 1, .int .i64 0, .int .i64 3, .int .i64 1, .int .i64 3, .int .i64 2, .int .i64 3]) (.int .i64 4)).run Try.prog w = .ok (.agg #[.int .i64 1, .int .i64 3]) w := by kernel_rfl
@[go_sem] theorem idxo5 (w : World) : (Instr.index 111 (.agg #[.int .i64 1, .int .i64 2, .int .i64 0, .int .i64 2, .int .i64 0, .int .i64 1, .int .i64 0, .int .i64 3, .int .i64 1, .int .i64 3, .int .i64 2, .int .i64 3]) (.int .i64 5)).run Try.prog w = .ok (.agg #[.int .i64 2, .int .i64 3]) w := by kernel_rfl
set_option maxHeartbeats 3200000 in
set_option maxRecDepth 100000 in
theorem rstep_6 (f00 f01 f02 f03 f10 f11 f12 f13 f20 f21 f22 f23 f30 f31 f32 f33 : Int) (w : World) (h0 : f12 ≤ 0) (h1 : f02 ≤ 0) (h2 : f01 ≤ 0) (h3 : f03 ≤ 0) (h4 : f13 ≤ 0) (h5 : f23 ≤ 0):
    Calls Try.prog 41 #[.agg #[.int .i64 f00, .int .i64 f01, .int .i64 f02, .int .i64 f03, .int .i64 f10, .int .i64 f11, .int .i64 f12, .int .i64 f13, .int .i64 f20, .int .i64 f21, .int .i64 f22, .int .i64 f23, .int .i64 f30, .int .i64 f31, .int .i64 f32, .int .i64 f33]] w fun e w' => e = .returned (.tuple #[.agg #[.int .i64 f00, .int .i64 f01, .int .i64 f02, .int .i64 f03, .int .i64 f10, .int .i64 f11, .int .i64 f12, .int .i64 f13, .int .i64 f20, .int .i64 f21, .int .i64 f22, .int .i64 f23, .int .i64 f30, .int .i64 f31, .int .i64 f32, .int .i64 f33], .agg #[.int .i64 1, .int .i64 0, .int .i64 0, .int .i64 0, .int .i64 1, .int .i64 0, .int .i64 0, .int .i64 0, .int .i64 1], .bool false]) ∧ Below w.heap.size w w' := by
  go_enter Try.func41, Try.ntmps41
  go_wp2_with fail
  refine (rpairs_any _).mono ?_
  rintro e w1 ⟨rfl, hb1⟩
  obtain ⟨hc1, hf1⟩ := bcell hb1
  have hz1 := hb1.size
  try simp at hz1
  have z1_0 : w.heap.size < w1.heap.size := by omega
  have z1_1 : w.heap.size + 1 < w1.heap.size := by omega
  have z1_2 : w.heap.size + 1 + 1 < w1.heap.size := by omega
  go_wp2
  refine wp_loop_rounds 7 ?_
  rw [rounds_succ]
  go_wp2
  have zzx0_0 : w.heap.size < w1.heap.size + 1 := by omega
  have zzx0_1 : w.heap.size + 1 < w1.heap.size + 1 := by omega
  have zzx0_2 : w.heap.size + 1 + 1 < w1.heap.size + 1 := by omega
  have zzx0_3 : w1.heap.size < w1.heap.size + 1 := by omega
  refine region_all (by kernel_rfl) (by kernel_rfl) ?_
  repeat (go_big_quiet_step (fail))
  refine wpQuiet_nil ?_
  rintro x0 ⟨⟨w0, hbx0⟩, rfl⟩
  obtain ⟨hcx0, hfx0⟩ := bcell hbx0
  have hzx0 := hbx0.size
  try simp at hzx0
  have zx0_0 : w.heap.size < x0.heap.size := by omega
  have zx0_1 : w.heap.size + 1 < x0.heap.size := by omega
  have zx0_2 : w.heap.size + 1 + 1 < x0.heap.size := by omega
  have zx0_3 : w1.heap.size < x0.heap.size := by omega
  go_wp2
  rw [rounds_succ]
  go_wp2
  have zzx1_0 : w.heap.size < x0.heap.size + 1 := by omega
  have zzx1_1 : w.heap.size + 1 < x0.heap.size + 1 := by omega
  have zzx1_2 : w.heap.size + 1 + 1 < x0.heap.size + 1 := by omega
  have zzx1_3 : w1.heap.size < x0.heap.size + 1 := by omega
  have zzx1_4 : x0.heap.size < x0.heap.size + 1 := by omega
  refine region_all (by kernel_rfl) (by kernel_rfl) ?_
  repeat (go_big_quiet_step (fail))
  refine wpQuiet_nil ?_
  rintro x1 ⟨⟨w0, hbx1⟩, rfl⟩
  obtain ⟨hcx1, hfx1⟩ := bcell hbx1
  have hzx1 := hbx1.size
  try simp at hzx1
  have zx1_0 : w.heap.size < x1.heap.size := by omega
  have zx1_1 : w.heap.size + 1 < x1.heap.size := by omega
  have zx1_2 : w.heap.size + 1 + 1 < x1.heap.size := by omega
  have zx1_3 : w1.heap.size < x1.heap.size := by omega
  have zx1_4 : x0.heap.size < x1.heap.size := by omega
  go_wp2
  rw [rounds_succ]
  go_wp2
  have zzx2_0 : w.heap.size < x1.heap.size + 1 := by omega
  have zzx2_1 : w.heap.size + 1 < x1.heap.size + 1 := by omega
  have zzx2_2 : w.heap.size + 1 + 1 < x1.heap.size + 1 := by omega
  have zzx2_3 : w1.heap.size < x1.heap.size + 1 := by omega
  have zzx2_4 : x0.heap.size < x1.heap.size + 1 := by omega
  have zzx2_5 : x1.heap.size < x1.heap.size + 1 := by omega
  refine region_all (by kernel_rfl) (by kernel_rfl) ?_
  repeat (go_big_quiet_step (fail))
  refine wpQuiet_nil ?_
  rintro x2 ⟨⟨w0, hbx2⟩, rfl⟩
  obtain ⟨hcx2, hfx2⟩ := bcell hbx2
  have hzx2 := hbx2.size
  try simp at hzx2
  have zx2_0 : w.heap.size < x2.heap.size := by omega
  have zx2_1 : w.heap.size + 1 < x2.heap.size := by omega
  have zx2_2 : w.heap.size + 1 + 1 < x2.heap.size := by omega
  have zx2_3 : w1.heap.size < x2.heap.size := by omega
  have zx2_4 : x0.heap.size < x2.heap.size := by omega
  have zx2_5 : x1.heap.size < x2.heap.size := by omega
  go_wp2
  rw [rounds_succ]
  go_wp2
  have zzx3_0 : w.heap.size < x2.heap.size + 1 := by omega
  have zzx3_1 : w.heap.size + 1 < x2.heap.size + 1 := by omega
  have zzx3_2 : w.heap.size + 1 + 1 < x2.heap.size + 1 := by omega
  have zzx3_3 : w1.heap.size < x2.heap.size + 1 := by omega
  have zzx3_4 : x0.heap.size < x2.heap.size + 1 := by omega
  have zzx3_5 : x1.heap.size < x2.heap.size + 1 := by omega
  have zzx3_6 : x2.heap.size < x2.heap.size + 1 := by omega
  refine region_all (by kernel_rfl) (by kernel_rfl) ?_
  repeat (go_big_quiet_step (fail))
  refine wpQuiet_nil ?_
  rintro x3 ⟨⟨w0, hbx3⟩, rfl⟩
  obtain ⟨hcx3, hfx3⟩ := bcell hbx3
  have hzx3 := hbx3.size
  try simp at hzx3
  have zx3_0 : w.heap.size < x3.heap.size := by omega
  have zx3_1 : w.heap.size + 1 < x3.heap.size := by omega
  have zx3_2 : w.heap.size + 1 + 1 < x3.heap.size := by omega
  have zx3_3 : w1.heap.size < x3.heap.size := by omega
  have zx3_4 : x0.heap.size < x3.heap.size := by omega
  have zx3_5 : x1.heap.size < x3.heap.size := by omega
  have zx3_6 : x2.heap.size < x3.heap.size := by omega
  go_wp2
  rw [rounds_succ]
  go_wp2
  have zzx4_0 : w.heap.size < x3.heap.size + 1 := by omega
  have zzx4_1 : w.heap.size + 1 < x3.heap.size + 1 := by omega
  have zzx4_2 : w.heap.size + 1 + 1 < x3.heap.size + 1 := by omega
  have zzx4_3 : w1.heap.size < x3.heap.size + 1 := by omega
  have zzx4_4 : x0.heap.size < x3.heap.size + 1 := by omega
  have zzx4_5 : x1.heap.size < x3.heap.size + 1 := by omega
  have zzx4_6 : x2.heap.size < x3.heap.size + 1 := by omega
  have zzx4_7 : x3.heap.size < x3.heap.size + 1 := by omega
  refine region_all (by kernel_rfl) (by kernel_rfl) ?_
  repeat (go_big_quiet_step (fail))
  refine wpQuiet_nil ?_
  rintro x4 ⟨⟨w0, hbx4⟩, rfl⟩
  obtain ⟨hcx4, hfx4⟩ := bcell hbx4
  have hzx4 := hbx4.size
  try simp at hzx4
  have zx4_0 : w.heap.size < x4.heap.size := by omega
  have zx4_1 : w.heap.size + 1 < x4.heap.size := by omega
  have zx4_2 : w.heap.size + 1 + 1 < x4.heap.size := by omega
  have zx4_3 : w1.heap.size < x4.heap.size := by omega
  have zx4_4 : x0.heap.size < x4.heap.size := by omega
  have zx4_5 : x1.heap.size < x4.heap.size := by omega
  have zx4_6 : x2.heap.size < x4.heap.size := by omega
  have zx4_7 : x3.heap.size < x4.heap.size := by omega
  go_wp2
  rw [rounds_succ]
  go_wp2
  have zzx5_0 : w.heap.size < x4.heap.size + 1 := by omega
  have zzx5_1 : w.heap.size + 1 < x4.heap.size + 1 := by omega
  have zzx5_2 : w.heap.size + 1 + 1 < x4.heap.size + 1 := by omega
  have zzx5_3 : w1.heap.size < x4.heap.size + 1 := by omega
  have zzx5_4 : x0.heap.size < x4.heap.size + 1 := by omega
  have zzx5_5 : x1.heap.size < x4.heap.size + 1 := by omega
  have zzx5_6 : x2.heap.size < x4.heap.size + 1 := by omega
  have zzx5_7 : x3.heap.size < x4.heap.size + 1 := by omega
  have zzx5_8 : x4.heap.size < x4.heap.size + 1 := by omega
  refine region_all (by kernel_rfl) (by kernel_rfl) ?_
  repeat (go_big_quiet_step (fail))
  refine wpQuiet_nil ?_
  rintro x5 ⟨⟨w0, hbx5⟩, rfl⟩
  obtain ⟨hcx5, hfx5⟩ := bcell hbx5
  have hzx5 := hbx5.size
  try simp at hzx5
  have zx5_0 : w.heap.size < x5.heap.size := by omega
  have zx5_1 : w.heap.size + 1 < x5.heap.size := by omega
  have zx5_2 : w.heap.size + 1 + 1 < x5.heap.size := by omega
  have zx5_3 : w1.heap.size < x5.heap.size := by omega
  have zx5_4 : x0.heap.size < x5.heap.size := by omega
  have zx5_5 : x1.heap.size < x5.heap.size := by omega
  have zx5_6 : x2.heap.size < x5.heap.size := by omega
  have zx5_7 : x3.heap.size < x5.heap.size := by omega
  have zx5_8 : x4.heap.size < x5.heap.size := by omega
  go_wp2
  rw [rounds_succ]
  go_wp2
  refine region_head 2 (by kernel_rfl) (by kernel_rfl) ?_
  simp only [List.take_succ_cons, List.take_zero, List.drop_succ_cons, List.drop_zero]
  repeat (go_big_quiet_step ((go_at_call 21; exact held_of _ (Nat.le_refl _) (rone_any _ _))))
  refine wpQuiet_nil ?_
  rintro x9 ⟨⟨w0, hbx9⟩, rfl⟩
  obtain ⟨hcx9, hfx9⟩ := bcell hbx9
  have hzx9 := hbx9.size
  try simp at hzx9
  have zx9_0 : w.heap.size < x9.heap.size := by omega
  have zx9_1 : w.heap.size + 1 < x9.heap.size := by omega
  have zx9_2 : w.heap.size + 1 + 1 < x9.heap.size := by omega
  have zx9_3 : w1.heap.size < x9.heap.size := by omega
  have zx9_4 : x0.heap.size < x9.heap.size := by omega
  have zx9_5 : x1.heap.size < x9.heap.size := by omega
  have zx9_6 : x2.heap.size < x9.heap.size := by omega
  have zx9_7 : x3.heap.size < x9.heap.size := by omega
  have zx9_8 : x4.heap.size < x9.heap.size := by omega
  go_wp2
  refine bodyPost_ret (v := .tuple #[.agg #[.int .i64 f00, .int .i64 f01, .int .i64 f02, .int .i64 f03, .int .i64 f10, .int .i64 f11, .int .i64 f12, .int .i64 f13, .int .i64 f20, .int .i64 f21, .int .i64 f22, .int .i64 f23, .int .i64 f30, .int .i64 f31, .int .i64 f32, .int .i64 f33], .agg #[.int .i64 1, .int .i64 0, .int .i64 0, .int .i64 0, .int .i64 1, .int .i64 0, .int .i64 0, .int .i64 0, .int .i64 1], .bool false]) (by simp [results, Try.results41, go_sem, wrap_add_l, wrap_add_r, wrap_sub_l, wrap_sub_r, wrap_mul_l, wrap_mul_r, wrap_neg, wrap_wrap, wrap3, *]) rfl ⟨rfl, ?_⟩
  repeat (first | exact Below.refl _ _ | assumption | exact Below.alloc (Below.refl _ _) (Nat.le_refl _) _ | refine Below.setCell ?_ (by first | (simp; done) | (simp; omega) | omega) _ | refine below_drewN ?_ _ | refine Below.alloc ?_ (by first | (simp; done) | (simp; omega) | omega) _ | refine Below.trans ?_ (Below.mono (by assumption) (by first | (simp; done) | (simp; omega) | omega)))

end Go.Proofs.Ytdhlkhockpblhaa
