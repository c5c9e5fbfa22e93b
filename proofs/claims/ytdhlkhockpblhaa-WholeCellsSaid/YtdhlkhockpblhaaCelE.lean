/-
  The exported functions on matrices within bounds.
-/
import Derived.Test.YtdhlkhockpblhaaCelD
namespace Go.Proofs.Ytdhlkhockpblhaa.M
open Go.RowKit
attribute [local irreducible] World.setCell

set_option linter.unusedSimpArgs false
set_option linter.unusedVariables false

theorem ret_v {v v' : Value} (h : v = v') : Ending.returned v = .returned v' := by rw [h]

set_option maxHeartbeats 1600000 in
theorem Apply_ok (p00 p01 p02 p10 p11 p12 p20 p21 p22 v0 v1 v2 : Int) (w : World) (h : matC p00 p01 p02 p10 p11 p12 p20 p21 p22 = 0) (hv0 : -2147483648 ≤ v0 ∧ v0 ≤ 2147483648) (hv1 : -2147483648 ≤ v1 ∧ v1 ≤ 2147483648) (hv2 : -2147483648 ≤ v2 ∧ v2 ≤ 2147483648):
    Calls Try.prog 30 #[.agg #[.int .i64 p00, .int .i64 p01, .int .i64 p02, .int .i64 p10, .int .i64 p11, .int .i64 p12, .int .i64 p20, .int .i64 p21, .int .i64 p22], .agg #[.int .i64 v0, .int .i64 v1, .int .i64 v2]] w fun e w' => e = .returned (.tuple #[.agg #[.int .i64 (wrap64 (p00 * v0 + p01 * v1 + p02 * v2)), .int .i64 (wrap64 (p10 * v0 + p11 * v1 + p12 * v2)), .int .i64 (wrap64 (p20 * v0 + p21 * v1 + p22 * v2))], .int .i64 0]) ∧ Below w.heap.size w w' := by
  have HP := Lib.hid h; clear h
  go_enter Try.func30, Try.ntmps30
  go_wp2_with fail
  refine (to_v (congrArg (Value.int .i64) HP.out) (vcheck_any p00 p01 p02 p10 p11 p12 p20 p21 p22 _)).mono ?_
  rintro e w1 ⟨rfl, hb1⟩
  obtain ⟨hc1, hf1⟩ := bcell hb1
  have hz1 := hb1.size
  try simp at hz1
  have z1_0 : w.heap.size < w1.heap.size := by omega
  have z1_1 : w.heap.size + 1 < w1.heap.size := by omega
  have z1_2 : w.heap.size + 1 + 1 < w1.heap.size := by omega
  go_wp2_with fail
  refine (right_ok _ _ _ _ hv0 hv1 hv2).mono ?_
  rintro e w2 ⟨rfl, hb2⟩
  obtain ⟨hc2, hf2⟩ := bcell hb2
  have hz2 := hb2.size
  try simp at hz2
  have z2_0 : w.heap.size < w2.heap.size := by omega
  have z2_1 : w.heap.size + 1 < w2.heap.size := by omega
  have z2_2 : w.heap.size + 1 + 1 < w2.heap.size := by omega
  have yy0_1 : w.heap.size < w2.heap.size + 1 := by omega
  have yy0_2 : w.heap.size < w2.heap.size + 1 + 1 := by omega
  have yy0_3 : w.heap.size < w2.heap.size + 1 + 1 + 1 := by omega
  have yy0_4 : w.heap.size < w2.heap.size + 1 + 1 + 1 + 1 := by omega
  have yy1_1 : w.heap.size + 1 < w2.heap.size + 1 := by omega
  have yy1_2 : w.heap.size + 1 < w2.heap.size + 1 + 1 := by omega
  have yy1_3 : w.heap.size + 1 < w2.heap.size + 1 + 1 + 1 := by omega
  have yy1_4 : w.heap.size + 1 < w2.heap.size + 1 + 1 + 1 + 1 := by omega
  have yy2_1 : w.heap.size + 1 + 1 < w2.heap.size + 1 := by omega
  have yy2_2 : w.heap.size + 1 + 1 < w2.heap.size + 1 + 1 := by omega
  have yy2_3 : w.heap.size + 1 + 1 < w2.heap.size + 1 + 1 + 1 := by omega
  have yy2_4 : w.heap.size + 1 + 1 < w2.heap.size + 1 + 1 + 1 + 1 := by omega
  go_wp2
  refine wp_loop_rounds 4 ?_
  rw [rounds_succ]
  go_wp2
  rw [rounds_succ]
  go_wp2
  rw [rounds_succ]
  go_wp2
  rw [rounds_succ]
  go_wp2
  refine bodyPost_ret (v := .tuple #[.agg #[.int .i64 (wrap64 (p00 * v0 + p01 * v1 + p02 * v2)), .int .i64 (wrap64 (p10 * v0 + p11 * v1 + p12 * v2)), .int .i64 (wrap64 (p20 * v0 + p21 * v1 + p22 * v2))], .int .i64 0]) (by simp [results, Try.results30, go_sem, wrap_add_l, wrap_add_r, wrap_sub_l, wrap_sub_r, wrap_mul_l, wrap_mul_r, wrap_neg, wrap_wrap, wrap3, *]) rfl ⟨rfl, ?_⟩
  repeat (first | exact Below.refl _ _ | assumption | exact Below.alloc (Below.refl _ _) (Nat.le_refl _) _ | refine Below.setCell ?_ (by first | (simp; done) | (simp; omega) | omega) _ | refine below_drewN ?_ _ | refine Below.alloc ?_ (by first | (simp; done) | (simp; omega) | omega) _ | refine Below.trans ?_ (Below.mono (by assumption) (by first | (simp; done) | (simp; omega) | omega)))

theorem matC_tr {p00 p01 p02 p10 p11 p12 p20 p21 p22 : Int} (h : matC p00 p01 p02 p10 p11 p12 p20 p21 p22 = 0) : matC p00 p10 p20 p01 p11 p21 p02 p12 p22 = 0 := by
  unfold matC at h ⊢; split at h
  · rename_i q; rw [if_pos (by omega)]
  · omega



set_option maxHeartbeats 1600000 in
theorem Det_ok (p00 p01 p02 p10 p11 p12 p20 p21 p22 : Int) (w : World) (h : matC p00 p01 p02 p10 p11 p12 p20 p21 p22 = 0):
    Calls Try.prog 35 #[.agg #[.int .i64 p00, .int .i64 p01, .int .i64 p02, .int .i64 p10, .int .i64 p11, .int .i64 p12, .int .i64 p20, .int .i64 p21, .int .i64 p22]] w fun e w' => e = .returned (.tuple #[.int .i64 (wrap64 (d9 p00 p01 p02 p10 p11 p12 p20 p21 p22)), .int .i64 0]) ∧ Below w.heap.size w w' := by
  have U := fun w => vdet_any p00 p01 p02 p10 p11 p12 p20 p21 p22 w
  obtain ⟨y0, ey0⟩ : ∃ x, x = wrap64 (d9 p00 p01 p02 p10 p11 p12 p20 p21 p22) := ⟨_, rfl⟩
  rw [← ey0] at U
  have HU := Lib.hid U; have HP := Lib.hid h; clear U h
  go_enter Try.func35, Try.ntmps35
  go_wp2_with fail
  refine (to_v (congrArg (Value.int .i64) HP.out) (vcheck_any p00 p01 p02 p10 p11 p12 p20 p21 p22 _)).mono ?_
  rintro e w1 ⟨rfl, hb1⟩
  obtain ⟨hc1, hf1⟩ := bcell hb1
  have hz1 := hb1.size
  try simp at hz1
  have z1_0 : w.heap.size < w1.heap.size := by omega
  go_wp2_with fail
  refine (HU.out _).mono ?_
  rintro e w2 ⟨rfl, hb2⟩
  obtain ⟨hc2, hf2⟩ := bcell hb2
  have hz2 := hb2.size
  try simp at hz2
  have z2_0 : w.heap.size < w2.heap.size := by omega
  go_wp2
  refine bodyPost_ret (v := .tuple #[.int .i64 y0, .int .i64 0]) (by simp [results, Try.results35, go_sem, *]) rfl ⟨ret_v (by rw [ey0]), ?_⟩
  repeat (first | exact Below.refl _ _ | assumption | exact Below.alloc (Below.refl _ _) (Nat.le_refl _) _ | refine Below.setCell ?_ (by first | (simp; done) | (simp; omega) | omega) _ | refine below_drewN ?_ _ | refine Below.alloc ?_ (by first | (simp; done) | (simp; omega) | omega) _ | refine Below.trans ?_ (Below.mono (by assumption) (by first | (simp; done) | (simp; omega) | omega)))

set_option maxHeartbeats 3200000 in
set_option maxRecDepth 100000 in
theorem Inv_ok (p00 p01 p02 p10 p11 p12 p20 p21 p22 : Int) (d : Int) (w : World) (h : matC p00 p01 p02 p10 p11 p12 p20 p21 p22 = 0) (ed : wrap64 (d9 p00 p01 p02 p10 p11 p12 p20 p21 p22) = d) (hd : d = 1 ∨ d = -1):
    Calls Try.prog 52 #[.agg #[.int .i64 p00, .int .i64 p01, .int .i64 p02, .int .i64 p10, .int .i64 p11, .int .i64 p12, .int .i64 p20, .int .i64 p21, .int .i64 p22]] w fun e w' => e = .returned (.tuple #[.agg #[.int .i64 (wrap64 (wrap64 (p11 * p22 - p12 * p21) * d)), .int .i64 (wrap64 (wrap64 (p21 * p02 - p22 * p01) * d)), .int .i64 (wrap64 (wrap64 (p01 * p12 - p02 * p11) * d)), .int .i64 (wrap64 (wrap64 (p12 * p20 - p10 * p22) * d)), .int .i64 (wrap64 (wrap64 (p22 * p00 - p20 * p02) * d)), .int .i64 (wrap64 (wrap64 (p02 * p10 - p00 * p12) * d)), .int .i64 (wrap64 (wrap64 (p10 * p21 - p11 * p20) * d)), .int .i64 (wrap64 (wrap64 (p20 * p01 - p21 * p00) * d)), .int .i64 (wrap64 (wrap64 (p00 * p11 - p01 * p10) * d))], .int .i64 0]) ∧ Below w.heap.size w w' := by
  have U := fun w => unit_0 p00 p01 p02 p10 p11 p12 p20 p21 p22 d w h ed hd
  obtain ⟨y0, ey0⟩ : ∃ x, x = wrap64 (p11 * p22 - p12 * p21) := ⟨_, rfl⟩
  obtain ⟨y1, ey1⟩ : ∃ x, x = wrap64 (p21 * p02 - p22 * p01) := ⟨_, rfl⟩
  obtain ⟨y2, ey2⟩ : ∃ x, x = wrap64 (p01 * p12 - p02 * p11) := ⟨_, rfl⟩
  obtain ⟨y3, ey3⟩ : ∃ x, x = wrap64 (p12 * p20 - p10 * p22) := ⟨_, rfl⟩
  obtain ⟨y4, ey4⟩ : ∃ x, x = wrap64 (p22 * p00 - p20 * p02) := ⟨_, rfl⟩
  obtain ⟨y5, ey5⟩ : ∃ x, x = wrap64 (p02 * p10 - p00 * p12) := ⟨_, rfl⟩
  obtain ⟨y6, ey6⟩ : ∃ x, x = wrap64 (p10 * p21 - p11 * p20) := ⟨_, rfl⟩
  obtain ⟨y7, ey7⟩ : ∃ x, x = wrap64 (p20 * p01 - p21 * p00) := ⟨_, rfl⟩
  obtain ⟨y8, ey8⟩ : ∃ x, x = wrap64 (p00 * p11 - p01 * p10) := ⟨_, rfl⟩
  have A := fun w => adj_any p00 p01 p02 p10 p11 p12 p20 p21 p22 w
  rw [← ey0, ← ey1, ← ey2, ← ey3, ← ey4, ← ey5, ← ey6, ← ey7, ← ey8] at A
  have HU := Lib.hid U; have HA := Lib.hid A; clear U A h ed hd
  go_enter Try.func52, Try.ntmps52
  go_wp2_with fail
  refine (HU.out _).mono ?_
  rintro e w1 ⟨rfl, hb1⟩
  obtain ⟨hc1, hf1⟩ := bcell hb1
  have hz1 := hb1.size
  try simp at hz1
  have z1_0 : w.heap.size < w1.heap.size := by omega
  have z1_1 : w.heap.size + 1 < w1.heap.size := by omega
  go_wp2_with fail
  refine (HA.out _).mono ?_
  rintro e w2 ⟨rfl, hb2⟩
  obtain ⟨hc2, hf2⟩ := bcell hb2
  have hz2 := hb2.size
  try simp at hz2
  have z2_0 : w.heap.size < w2.heap.size := by omega
  have z2_1 : w.heap.size + 1 < w2.heap.size := by omega
  go_wp2
  refine wp_loop_rounds 4 ?_
  rw [rounds_succ]
  go_wp2
  refine wp_loop_rounds 4 ?_
  rw [rounds_succ]
  go_wp2
  refine region_headq 9 (by kernel_rfl) (by kernel_rfl) ?_
  simp only [List.take_succ_cons, List.take_zero, List.drop_succ_cons, List.drop_zero]
  repeat (go_big_quiet_step (fail))
  refine wpQuiet_nil ?_
  rintro _ ⟨nq, rfl⟩
  go_wp2
  rw [rounds_succ]
  go_wp2
  refine region_headq 9 (by kernel_rfl) (by kernel_rfl) ?_
  simp only [List.take_succ_cons, List.take_zero, List.drop_succ_cons, List.drop_zero]
  repeat (go_big_quiet_step (fail))
  refine wpQuiet_nil ?_
  rintro _ ⟨nq, rfl⟩
  go_wp2
  rw [rounds_succ]
  go_wp2
  refine region_headq 9 (by kernel_rfl) (by kernel_rfl) ?_
  simp only [List.take_succ_cons, List.take_zero, List.drop_succ_cons, List.drop_zero]
  repeat (go_big_quiet_step (fail))
  refine wpQuiet_nil ?_
  rintro _ ⟨nq, rfl⟩
  go_wp2
  rw [rounds_succ]
  go_wp2
  rw [rounds_succ]
  go_wp2
  refine wp_loop_rounds 4 ?_
  rw [rounds_succ]
  go_wp2
  refine region_headq 9 (by kernel_rfl) (by kernel_rfl) ?_
  simp only [List.take_succ_cons, List.take_zero, List.drop_succ_cons, List.drop_zero]
  repeat (go_big_quiet_step (fail))
  refine wpQuiet_nil ?_
  rintro _ ⟨nq, rfl⟩
  go_wp2
  rw [rounds_succ]
  go_wp2
  refine region_headq 9 (by kernel_rfl) (by kernel_rfl) ?_
  simp only [List.take_succ_cons, List.take_zero, List.drop_succ_cons, List.drop_zero]
  repeat (go_big_quiet_step (fail))
  refine wpQuiet_nil ?_
  rintro _ ⟨nq, rfl⟩
  go_wp2
  rw [rounds_succ]
  go_wp2
  refine region_headq 9 (by kernel_rfl) (by kernel_rfl) ?_
  simp only [List.take_succ_cons, List.take_zero, List.drop_succ_cons, List.drop_zero]
  repeat (go_big_quiet_step (fail))
  refine wpQuiet_nil ?_
  rintro _ ⟨nq, rfl⟩
  go_wp2
  rw [rounds_succ]
  go_wp2
  rw [rounds_succ]
  go_wp2
  refine wp_loop_rounds 4 ?_
  rw [rounds_succ]
  go_wp2
  refine region_headq 9 (by kernel_rfl) (by kernel_rfl) ?_
  simp only [List.take_succ_cons, List.take_zero, List.drop_succ_cons, List.drop_zero]
  repeat (go_big_quiet_step (fail))
  refine wpQuiet_nil ?_
  rintro _ ⟨nq, rfl⟩
  go_wp2
  rw [rounds_succ]
  go_wp2
  refine region_headq 9 (by kernel_rfl) (by kernel_rfl) ?_
  simp only [List.take_succ_cons, List.take_zero, List.drop_succ_cons, List.drop_zero]
  repeat (go_big_quiet_step (fail))
  refine wpQuiet_nil ?_
  rintro _ ⟨nq, rfl⟩
  go_wp2
  rw [rounds_succ]
  go_wp2
  refine region_headq 9 (by kernel_rfl) (by kernel_rfl) ?_
  simp only [List.take_succ_cons, List.take_zero, List.drop_succ_cons, List.drop_zero]
  repeat (go_big_quiet_step (fail))
  refine wpQuiet_nil ?_
  rintro _ ⟨nq, rfl⟩
  go_wp2
  rw [rounds_succ]
  go_wp2
  rw [rounds_succ]
  go_wp2
  refine bodyPost_ret (v := .tuple #[.agg #[.int .i64 (wrap64 (y0 * d)), .int .i64 (wrap64 (y1 * d)), .int .i64 (wrap64 (y2 * d)), .int .i64 (wrap64 (y3 * d)), .int .i64 (wrap64 (y4 * d)), .int .i64 (wrap64 (y5 * d)), .int .i64 (wrap64 (y6 * d)), .int .i64 (wrap64 (y7 * d)), .int .i64 (wrap64 (y8 * d))], .int .i64 0]) (by simp [results, Try.results52, go_sem, *]) rfl ⟨ret_v (by rw [ey0, ey1, ey2, ey3, ey4, ey5, ey6, ey7, ey8]), ?_⟩
  repeat (first | exact Below.refl _ _ | assumption | exact Below.alloc (Below.refl _ _) (Nat.le_refl _) _ | refine Below.setCell ?_ (by first | (simp; done) | (simp; omega) | omega) _ | refine below_drewN ?_ _ | refine Below.alloc ?_ (by first | (simp; done) | (simp; omega) | omega) _ | refine Below.trans ?_ (Below.mono (by assumption) (by first | (simp; done) | (simp; omega) | omega)))

end Go.Proofs.Ytdhlkhockpblhaa.M
