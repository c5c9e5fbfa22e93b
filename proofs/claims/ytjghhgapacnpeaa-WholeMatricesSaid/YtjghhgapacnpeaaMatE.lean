/-
  The exported functions on matrices within bounds.
-/
import Derived.Test.YtjghhgapacnpeaaMatD
namespace Go.Proofs.Ytjghhgapacnpeaa
open Go.RowKit
attribute [local irreducible] World.setCell

set_option linter.unusedSimpArgs false
set_option linter.unusedVariables false

theorem ret_v {v v' : Value} (h : v = v') : Ending.returned v = .returned v' := by rw [h]
set_option maxHeartbeats 1600000 in
theorem Mul_ok (a00 a01 a02 a10 a11 a12 a20 a21 a22 b00 b01 b02 b10 b11 b12 b20 b21 b22 : Int) (w : World) (ha : matC a00 a01 a02 a10 a11 a12 a20 a21 a22 = 0) (hb : matC b00 b01 b02 b10 b11 b12 b20 b21 b22 = 0):
    Calls Try.prog 6 #[.agg #[.int .i64 a00, .int .i64 a01, .int .i64 a02, .int .i64 a10, .int .i64 a11, .int .i64 a12, .int .i64 a20, .int .i64 a21, .int .i64 a22], .agg #[.int .i64 b00, .int .i64 b01, .int .i64 b02, .int .i64 b10, .int .i64 b11, .int .i64 b12, .int .i64 b20, .int .i64 b21, .int .i64 b22]] w fun e w' => e = .returned (.tuple #[.agg #[.int .i64 (wrap64 (a00 * b00 + a01 * b10 + a02 * b20)), .int .i64 (wrap64 (a00 * b01 + a01 * b11 + a02 * b21)), .int .i64 (wrap64 (a00 * b02 + a01 * b12 + a02 * b22)), .int .i64 (wrap64 (a10 * b00 + a11 * b10 + a12 * b20)), .int .i64 (wrap64 (a10 * b01 + a11 * b11 + a12 * b21)), .int .i64 (wrap64 (a10 * b02 + a11 * b12 + a12 * b22)), .int .i64 (wrap64 (a20 * b00 + a21 * b10 + a22 * b20)), .int .i64 (wrap64 (a20 * b01 + a21 * b11 + a22 * b21)), .int .i64 (wrap64 (a20 * b02 + a21 * b12 + a22 * b22))], .int .i64 0]) ∧ Below w.heap.size w w' := by
  have U := fun w => vmul_any a00 a01 a02 a10 a11 a12 a20 a21 a22 b00 b01 b02 b10 b11 b12 b20 b21 b22 w
  obtain ⟨y0, ey0⟩ : ∃ x, x = wrap64 (a00 * b00 + a01 * b10 + a02 * b20) := ⟨_, rfl⟩
  obtain ⟨y1, ey1⟩ : ∃ x, x = wrap64 (a00 * b01 + a01 * b11 + a02 * b21) := ⟨_, rfl⟩
  obtain ⟨y2, ey2⟩ : ∃ x, x = wrap64 (a00 * b02 + a01 * b12 + a02 * b22) := ⟨_, rfl⟩
  obtain ⟨y3, ey3⟩ : ∃ x, x = wrap64 (a10 * b00 + a11 * b10 + a12 * b20) := ⟨_, rfl⟩
  obtain ⟨y4, ey4⟩ : ∃ x, x = wrap64 (a10 * b01 + a11 * b11 + a12 * b21) := ⟨_, rfl⟩
  obtain ⟨y5, ey5⟩ : ∃ x, x = wrap64 (a10 * b02 + a11 * b12 + a12 * b22) := ⟨_, rfl⟩
  obtain ⟨y6, ey6⟩ : ∃ x, x = wrap64 (a20 * b00 + a21 * b10 + a22 * b20) := ⟨_, rfl⟩
  obtain ⟨y7, ey7⟩ : ∃ x, x = wrap64 (a20 * b01 + a21 * b11 + a22 * b21) := ⟨_, rfl⟩
  obtain ⟨y8, ey8⟩ : ∃ x, x = wrap64 (a20 * b02 + a21 * b12 + a22 * b22) := ⟨_, rfl⟩
  rw [← ey0, ← ey1, ← ey2, ← ey3, ← ey4, ← ey5, ← ey6, ← ey7, ← ey8] at U
  have HU := Lib.hid U; have HA := Lib.hid ha; have HB := Lib.hid hb; clear U ha hb
  go_enter Try.func6, Try.ntmps6
  go_wp2_with fail
  refine (to_v (congrArg (Value.int .i64) HA.out) (vcheck_any a00 a01 a02 a10 a11 a12 a20 a21 a22 _)).mono ?_
  rintro e w1 ⟨rfl, hb1⟩
  obtain ⟨hc1, hf1⟩ := bcell hb1
  have hz1 := hb1.size
  try simp at hz1
  have z1_0 : w.heap.size < w1.heap.size := by omega
  have z1_1 : w.heap.size + 1 < w1.heap.size := by omega
  have z1_2 : w.heap.size + 1 + 1 < w1.heap.size := by omega
  go_wp2_with fail
  refine (to_v (congrArg (Value.int .i64) HB.out) (vcheck_any b00 b01 b02 b10 b11 b12 b20 b21 b22 _)).mono ?_
  rintro e w2 ⟨rfl, hb2⟩
  obtain ⟨hc2, hf2⟩ := bcell hb2
  have hz2 := hb2.size
  try simp at hz2
  have z2_0 : w.heap.size < w2.heap.size := by omega
  have z2_1 : w.heap.size + 1 < w2.heap.size := by omega
  have z2_2 : w.heap.size + 1 + 1 < w2.heap.size := by omega
  go_wp2_with fail
  refine (HU.out _).mono ?_
  rintro e w3 ⟨rfl, hb3⟩
  obtain ⟨hc3, hf3⟩ := bcell hb3
  have hz3 := hb3.size
  try simp at hz3
  have z3_0 : w.heap.size < w3.heap.size := by omega
  have z3_1 : w.heap.size + 1 < w3.heap.size := by omega
  have z3_2 : w.heap.size + 1 + 1 < w3.heap.size := by omega
  go_wp2
  refine bodyPost_ret (v := .tuple #[.agg #[.int .i64 y0, .int .i64 y1, .int .i64 y2, .int .i64 y3, .int .i64 y4, .int .i64 y5, .int .i64 y6, .int .i64 y7, .int .i64 y8], .int .i64 0]) (by simp [results, Try.results6, go_sem, *]) rfl ⟨ret_v (by rw [ey0, ey1, ey2, ey3, ey4, ey5, ey6, ey7, ey8]), ?_⟩
  repeat (first | exact Below.refl _ _ | assumption | exact Below.alloc (Below.refl _ _) (Nat.le_refl _) _ | refine Below.setCell ?_ (by first | (simp; done) | (simp; omega) | omega) _ | refine below_drewN ?_ _ | refine Below.alloc ?_ (by first | (simp; done) | (simp; omega) | omega) _ | refine Below.trans ?_ (Below.mono (by assumption) (by first | (simp; done) | (simp; omega) | omega)))

set_option maxHeartbeats 1600000 in
theorem Apply_ok (p00 p01 p02 p10 p11 p12 p20 p21 p22 v0 v1 v2 : Int) (w : World) (h : matC p00 p01 p02 p10 p11 p12 p20 p21 p22 = 0) (hv0 : -2147483648 ≤ v0 ∧ v0 ≤ 2147483648) (hv1 : -2147483648 ≤ v1 ∧ v1 ≤ 2147483648) (hv2 : -2147483648 ≤ v2 ∧ v2 ≤ 2147483648):
    Calls Try.prog 7 #[.agg #[.int .i64 p00, .int .i64 p01, .int .i64 p02, .int .i64 p10, .int .i64 p11, .int .i64 p12, .int .i64 p20, .int .i64 p21, .int .i64 p22], .agg #[.int .i64 v0, .int .i64 v1, .int .i64 v2]] w fun e w' => e = .returned (.tuple #[.agg #[.int .i64 (wrap64 (p00 * v0 + p01 * v1 + p02 * v2)), .int .i64 (wrap64 (p10 * v0 + p11 * v1 + p12 * v2)), .int .i64 (wrap64 (p20 * v0 + p21 * v1 + p22 * v2))], .int .i64 0]) ∧ Below w.heap.size w w' := by
  have HP := Lib.hid h; clear h
  go_enter Try.func7, Try.ntmps7
  go_wp2_with fail
  refine (to_v (congrArg (Value.int .i64) HP.out) (vcheck_any p00 p01 p02 p10 p11 p12 p20 p21 p22 _)).mono ?_
  rintro e w1 ⟨rfl, hb1⟩
  obtain ⟨hc1, hf1⟩ := bcell hb1
  have hz1 := hb1.size
  try simp at hz1
  have z1_0 : w.heap.size < w1.heap.size := by omega
  have z1_1 : w.heap.size + 1 < w1.heap.size := by omega
  have z1_2 : w.heap.size + 1 + 1 < w1.heap.size := by omega
  go_wp2_with fail
  refine (right_ok _ _ _ _ hv0 hv1 hv2).mono ?_
  rintro e w2 ⟨rfl, hb2⟩
  obtain ⟨hc2, hf2⟩ := bcell hb2
  have hz2 := hb2.size
  try simp at hz2
  have z2_0 : w.heap.size < w2.heap.size := by omega
  have z2_1 : w.heap.size + 1 < w2.heap.size := by omega
  have z2_2 : w.heap.size + 1 + 1 < w2.heap.size := by omega
  have yy0_1 : w.heap.size < w2.heap.size + 1 := by omega
  have yy0_2 : w.heap.size < w2.heap.size + 1 + 1 := by omega
  have yy0_3 : w.heap.size < w2.heap.size + 1 + 1 + 1 := by omega
  have yy0_4 : w.heap.size < w2.heap.size + 1 + 1 + 1 + 1 := by omega
  have yy1_1 : w.heap.size + 1 < w2.heap.size + 1 := by omega
  have yy1_2 : w.heap.size + 1 < w2.heap.size + 1 + 1 := by omega
  have yy1_3 : w.heap.size + 1 < w2.heap.size + 1 + 1 + 1 := by omega
  have yy1_4 : w.heap.size + 1 < w2.heap.size + 1 + 1 + 1 + 1 := by omega
  have yy2_1 : w.heap.size + 1 + 1 < w2.heap.size + 1 := by omega
  have yy2_2 : w.heap.size + 1 + 1 < w2.heap.size + 1 + 1 := by omega
  have yy2_3 : w.heap.size + 1 + 1 < w2.heap.size + 1 + 1 + 1 := by omega
  have yy2_4 : w.heap.size + 1 + 1 < w2.heap.size + 1 + 1 + 1 + 1 := by omega
  go_wp2
  refine wp_loop_rounds 4 ?_
  rw [rounds_succ]
  go_wp2
  rw [rounds_succ]
  go_wp2
  rw [rounds_succ]
  go_wp2
  rw [rounds_succ]
  go_wp2
  refine bodyPost_ret (v := .tuple #[.agg #[.int .i64 (wrap64 (p00 * v0 + p01 * v1 + p02 * v2)), .int .i64 (wrap64 (p10 * v0 + p11 * v1 + p12 * v2)), .int .i64 (wrap64 (p20 * v0 + p21 * v1 + p22 * v2))], .int .i64 0]) (by simp [results, Try.results7, go_sem, wrap_add_l, wrap_add_r, wrap_sub_l, wrap_sub_r, wrap_mul_l, wrap_mul_r, wrap_neg, wrap_wrap, wrap3, *]) rfl ⟨rfl, ?_⟩
  repeat (first | exact Below.refl _ _ | assumption | exact Below.alloc (Below.refl _ _) (Nat.le_refl _) _ | refine Below.setCell ?_ (by first | (simp; done) | (simp; omega) | omega) _ | refine below_drewN ?_ _ | refine Below.alloc ?_ (by first | (simp; done) | (simp; omega) | omega) _ | refine Below.trans ?_ (Below.mono (by assumption) (by first | (simp; done) | (simp; omega) | omega)))

theorem matC_tr {p00 p01 p02 p10 p11 p12 p20 p21 p22 : Int} (h : matC p00 p01 p02 p10 p11 p12 p20 p21 p22 = 0) : matC p00 p10 p20 p01 p11 p21 p02 p12 p22 = 0 := by
  unfold matC at h ⊢; split at h
  · rename_i q; rw [if_pos (by omega)]
  · omega
set_option maxHeartbeats 1600000 in
theorem Left_ok (v0 v1 v2 p00 p01 p02 p10 p11 p12 p20 p21 p22 : Int) (w : World) (h : matC p00 p01 p02 p10 p11 p12 p20 p21 p22 = 0) (hv0 : -2147483648 ≤ v0 ∧ v0 ≤ 2147483648) (hv1 : -2147483648 ≤ v1 ∧ v1 ≤ 2147483648) (hv2 : -2147483648 ≤ v2 ∧ v2 ≤ 2147483648):
    Calls Try.prog 11 #[.agg #[.int .i64 v0, .int .i64 v1, .int .i64 v2], .agg #[.int .i64 p00, .int .i64 p01, .int .i64 p02, .int .i64 p10, .int .i64 p11, .int .i64 p12, .int .i64 p20, .int .i64 p21, .int .i64 p22]] w fun e w' => e = .returned (.tuple #[.agg #[.int .i64 (wrap64 (p00 * v0 + p10 * v1 + p20 * v2)), .int .i64 (wrap64 (p01 * v0 + p11 * v1 + p21 * v2)), .int .i64 (wrap64 (p02 * v0 + p12 * v1 + p22 * v2))], .int .i64 0]) ∧ Below w.heap.size w w' := by
  have A := fun w => Apply_ok p00 p10 p20 p01 p11 p21 p02 p12 p22 v0 v1 v2 w (matC_tr h) hv0 hv1 hv2
  obtain ⟨y0, ey0⟩ : ∃ x, x = wrap64 (p00 * v0 + p10 * v1 + p20 * v2) := ⟨_, rfl⟩
  obtain ⟨y1, ey1⟩ : ∃ x, x = wrap64 (p01 * v0 + p11 * v1 + p21 * v2) := ⟨_, rfl⟩
  obtain ⟨y2, ey2⟩ : ∃ x, x = wrap64 (p02 * v0 + p12 * v1 + p22 * v2) := ⟨_, rfl⟩
  rw [← ey0, ← ey1, ← ey2] at A
  have HA := Lib.hid A; clear A h hv0 hv1 hv2
  go_enter Try.func11, Try.ntmps11
  go_wp2
  refine region_head 6 (by kernel_rfl) (by kernel_rfl) ?_
  simp only [List.take_succ_cons, List.take_zero, List.drop_succ_cons, List.drop_zero]
  repeat (go_big_quiet_step (first | (go_at_call 28; exact held_of _ (Nat.le_refl _) (transp_any _ _ _ _ _ _ _ _ _ _)) | (go_at_call 7; exact held_of _ (Nat.le_refl _) (HA.out _))))
  refine wpQuiet_nil ?_
  rintro w1 ⟨⟨w0, hbw1⟩, rfl⟩
  obtain ⟨hcw1, hfw1⟩ := bcell hbw1
  have hzw1 := hbw1.size
  try simp at hzw1
  have zw1_0 : w.heap.size < w1.heap.size := by omega
  have zw1_1 : w.heap.size + 1 < w1.heap.size := by omega
  have zw1_2 : w.heap.size + 1 + 1 < w1.heap.size := by omega
  go_wp2
  refine bodyPost_ret (v := .tuple #[.agg #[.int .i64 y0, .int .i64 y1, .int .i64 y2], .int .i64 0]) (by simp [results, Try.results11, go_sem, *]) rfl ⟨ret_v (by rw [ey0, ey1, ey2]), ?_⟩
  repeat (first | exact Below.refl _ _ | assumption | exact Below.alloc (Below.refl _ _) (Nat.le_refl _) _ | refine Below.setCell ?_ (by first | (simp; done) | (simp; omega) | omega) _ | refine below_drewN ?_ _ | refine Below.alloc ?_ (by first | (simp; done) | (simp; omega) | omega) _ | refine Below.trans ?_ (Below.mono (by assumption) (by first | (simp; done) | (simp; omega) | omega)))

set_option maxHeartbeats 1600000 in
theorem Transpose_ok (p00 p01 p02 p10 p11 p12 p20 p21 p22 : Int) (w : World) (h : matC p00 p01 p02 p10 p11 p12 p20 p21 p22 = 0):
    Calls Try.prog 12 #[.agg #[.int .i64 p00, .int .i64 p01, .int .i64 p02, .int .i64 p10, .int .i64 p11, .int .i64 p12, .int .i64 p20, .int .i64 p21, .int .i64 p22]] w fun e w' => e = .returned (.tuple #[.agg #[.int .i64 p00, .int .i64 p10, .int .i64 p20, .int .i64 p01, .int .i64 p11, .int .i64 p21, .int .i64 p02, .int .i64 p12, .int .i64 p22], .int .i64 0]) ∧ Below w.heap.size w w' := by
  have HP := Lib.hid h; clear h
  go_enter Try.func12, Try.ntmps12
  go_wp2_with fail
  refine (to_v (congrArg (Value.int .i64) HP.out) (vcheck_any p00 p01 p02 p10 p11 p12 p20 p21 p22 _)).mono ?_
  rintro e w1 ⟨rfl, hb1⟩
  obtain ⟨hc1, hf1⟩ := bcell hb1
  have hz1 := hb1.size
  try simp at hz1
  have z1_0 : w.heap.size < w1.heap.size := by omega
  have z1_1 : w.heap.size + 1 < w1.heap.size := by omega
  go_wp2_with fail
  refine (transp_any _ _ _ _ _ _ _ _ _ _).mono ?_
  rintro e w2 ⟨rfl, hb2⟩
  obtain ⟨hc2, hf2⟩ := bcell hb2
  have hz2 := hb2.size
  try simp at hz2
  have z2_0 : w.heap.size < w2.heap.size := by omega
  have z2_1 : w.heap.size + 1 < w2.heap.size := by omega
  go_wp2
  refine bodyPost_ret (v := .tuple #[.agg #[.int .i64 p00, .int .i64 p10, .int .i64 p20, .int .i64 p01, .int .i64 p11, .int .i64 p21, .int .i64 p02, .int .i64 p12, .int .i64 p22], .int .i64 0]) (by simp [results, Try.results12, go_sem, wrap_add_l, wrap_add_r, wrap_sub_l, wrap_sub_r, wrap_mul_l, wrap_mul_r, wrap_neg, wrap_wrap, wrap3, *]) rfl ⟨rfl, ?_⟩
  repeat (first | exact Below.refl _ _ | assumption | exact Below.alloc (Below.refl _ _) (Nat.le_refl _) _ | refine Below.setCell ?_ (by first | (simp; done) | (simp; omega) | omega) _ | refine below_drewN ?_ _ | refine Below.alloc ?_ (by first | (simp; done) | (simp; omega) | omega) _ | refine Below.trans ?_ (Below.mono (by assumption) (by first | (simp; done) | (simp; omega) | omega)))

set_option maxHeartbeats 1600000 in
theorem Adj_ok (p00 p01 p02 p10 p11 p12 p20 p21 p22 : Int) (w : World) (h : matC p00 p01 p02 p10 p11 p12 p20 p21 p22 = 0):
    Calls Try.prog 9 #[.agg #[.int .i64 p00, .int .i64 p01, .int .i64 p02, .int .i64 p10, .int .i64 p11, .int .i64 p12, .int .i64 p20, .int .i64 p21, .int .i64 p22]] w fun e w' => e = .returned (.tuple #[.agg #[.int .i64 (wrap64 (p11 * p22 - p12 * p21)), .int .i64 (wrap64 (p21 * p02 - p22 * p01)), .int .i64 (wrap64 (p01 * p12 - p02 * p11)), .int .i64 (wrap64 (p12 * p20 - p10 * p22)), .int .i64 (wrap64 (p22 * p00 - p20 * p02)), .int .i64 (wrap64 (p02 * p10 - p00 * p12)), .int .i64 (wrap64 (p10 * p21 - p11 * p20)), .int .i64 (wrap64 (p20 * p01 - p21 * p00)), .int .i64 (wrap64 (p00 * p11 - p01 * p10))], .int .i64 0]) ∧ Below w.heap.size w w' := by
  have U := fun w => adj_any p00 p01 p02 p10 p11 p12 p20 p21 p22 w
  obtain ⟨y0, ey0⟩ : ∃ x, x = wrap64 (p11 * p22 - p12 * p21) := ⟨_, rfl⟩
  obtain ⟨y1, ey1⟩ : ∃ x, x = wrap64 (p21 * p02 - p22 * p01) := ⟨_, rfl⟩
  obtain ⟨y2, ey2⟩ : ∃ x, x = wrap64 (p01 * p12 - p02 * p11) := ⟨_, rfl⟩
  obtain ⟨y3, ey3⟩ : ∃ x, x = wrap64 (p12 * p20 - p10 * p22) := ⟨_, rfl⟩
  obtain ⟨y4, ey4⟩ : ∃ x, x = wrap64 (p22 * p00 - p20 * p02) := ⟨_, rfl⟩
  obtain ⟨y5, ey5⟩ : ∃ x, x = wrap64 (p02 * p10 - p00 * p12) := ⟨_, rfl⟩
  obtain ⟨y6, ey6⟩ : ∃ x, x = wrap64 (p10 * p21 - p11 * p20) := ⟨_, rfl⟩
  obtain ⟨y7, ey7⟩ : ∃ x, x = wrap64 (p20 * p01 - p21 * p00) := ⟨_, rfl⟩
  obtain ⟨y8, ey8⟩ : ∃ x, x = wrap64 (p00 * p11 - p01 * p10) := ⟨_, rfl⟩
  rw [← ey0, ← ey1, ← ey2, ← ey3, ← ey4, ← ey5, ← ey6, ← ey7, ← ey8] at U
  have HU := Lib.hid U; have HP := Lib.hid h; clear U h
  go_enter Try.func9, Try.ntmps9
  go_wp2_with fail
  refine (to_v (congrArg (Value.int .i64) HP.out) (vcheck_any p00 p01 p02 p10 p11 p12 p20 p21 p22 _)).mono ?_
  rintro e w1 ⟨rfl, hb1⟩
  obtain ⟨hc1, hf1⟩ := bcell hb1
  have hz1 := hb1.size
  try simp at hz1
  have z1_0 : w.heap.size < w1.heap.size := by omega
  have z1_1 : w.heap.size + 1 < w1.heap.size := by omega
  go_wp2_with fail
  refine (HU.out _).mono ?_
  rintro e w2 ⟨rfl, hb2⟩
  obtain ⟨hc2, hf2⟩ := bcell hb2
  have hz2 := hb2.size
  try simp at hz2
  have z2_0 : w.heap.size < w2.heap.size := by omega
  have z2_1 : w.heap.size + 1 < w2.heap.size := by omega
  go_wp2
  refine bodyPost_ret (v := .tuple #[.agg #[.int .i64 y0, .int .i64 y1, .int .i64 y2, .int .i64 y3, .int .i64 y4, .int .i64 y5, .int .i64 y6, .int .i64 y7, .int .i64 y8], .int .i64 0]) (by simp [results, Try.results9, go_sem, *]) rfl ⟨ret_v (by rw [ey0, ey1, ey2, ey3, ey4, ey5, ey6, ey7, ey8]), ?_⟩
  repeat (first | exact Below.refl _ _ | assumption | exact Below.alloc (Below.refl _ _) (Nat.le_refl _) _ | refine Below.setCell ?_ (by first | (simp; done) | (simp; omega) | omega) _ | refine below_drewN ?_ _ | refine Below.alloc ?_ (by first | (simp; done) | (simp; omega) | omega) _ | refine Below.trans ?_ (Below.mono (by assumption) (by first | (simp; done) | (simp; omega) | omega)))

set_option maxHeartbeats 1600000 in
theorem Det_ok (p00 p01 p02 p10 p11 p12 p20 p21 p22 : Int) (w : World) (h : matC p00 p01 p02 p10 p11 p12 p20 p21 p22 = 0):
    Calls Try.prog 8 #[.agg #[.int .i64 p00, .int .i64 p01, .int .i64 p02, .int .i64 p10, .int .i64 p11, .int .i64 p12, .int .i64 p20, .int .i64 p21, .int .i64 p22]] w fun e w' => e = .returned (.tuple #[.int .i64 (wrap64 (d9 p00 p01 p02 p10 p11 p12 p20 p21 p22)), .int .i64 0]) ∧ Below w.heap.size w w' := by
  have U := fun w => vdet_any p00 p01 p02 p10 p11 p12 p20 p21 p22 w
  obtain ⟨y0, ey0⟩ : ∃ x, x = wrap64 (d9 p00 p01 p02 p10 p11 p12 p20 p21 p22) := ⟨_, rfl⟩
  rw [← ey0] at U
  have HU := Lib.hid U; have HP := Lib.hid h; clear U h
  go_enter Try.func8, Try.ntmps8
  go_wp2_with fail
  refine (to_v (congrArg (Value.int .i64) HP.out) (vcheck_any p00 p01 p02 p10 p11 p12 p20 p21 p22 _)).mono ?_
  rintro e w1 ⟨rfl, hb1⟩
  obtain ⟨hc1, hf1⟩ := bcell hb1
  have hz1 := hb1.size
  try simp at hz1
  have z1_0 : w.heap.size < w1.heap.size := by omega
  go_wp2_with fail
  refine (HU.out _).mono ?_
  rintro e w2 ⟨rfl, hb2⟩
  obtain ⟨hc2, hf2⟩ := bcell hb2
  have hz2 := hb2.size
  try simp at hz2
  have z2_0 : w.heap.size < w2.heap.size := by omega
  go_wp2
  refine bodyPost_ret (v := .tuple #[.int .i64 y0, .int .i64 0]) (by simp [results, Try.results8, go_sem, *]) rfl ⟨ret_v (by rw [ey0]), ?_⟩
  repeat (first | exact Below.refl _ _ | assumption | exact Below.alloc (Below.refl _ _) (Nat.le_refl _) _ | refine Below.setCell ?_ (by first | (simp; done) | (simp; omega) | omega) _ | refine below_drewN ?_ _ | refine Below.alloc ?_ (by first | (simp; done) | (simp; omega) | omega) _ | refine Below.trans ?_ (Below.mono (by assumption) (by first | (simp; done) | (simp; omega) | omega)))

set_option maxHeartbeats 3200000 in
set_option maxRecDepth 100000 in
theorem Inv_ok (p00 p01 p02 p10 p11 p12 p20 p21 p22 : Int) (d : Int) (w : World) (h : matC p00 p01 p02 p10 p11 p12 p20 p21 p22 = 0) (ed : wrap64 (d9 p00 p01 p02 p10 p11 p12 p20 p21 p22) = d) (hd : d = 1 ∨ d = -1):
    Calls Try.prog 15 #[.agg #[.int .i64 p00, .int .i64 p01, .int .i64 p02, .int .i64 p10, .int .i64 p11, .int .i64 p12, .int .i64 p20, .int .i64 p21, .int .i64 p22]] w fun e w' => e = .returned (.tuple #[.agg #[.int .i64 (wrap64 (wrap64 (p11 * p22 - p12 * p21) * d)), .int .i64 (wrap64 (wrap64 (p21 * p02 - p22 * p01) * d)), .int .i64 (wrap64 (wrap64 (p01 * p12 - p02 * p11) * d)), .int .i64 (wrap64 (wrap64 (p12 * p20 - p10 * p22) * d)), .int .i64 (wrap64 (wrap64 (p22 * p00 - p20 * p02) * d)), .int .i64 (wrap64 (wrap64 (p02 * p10 - p00 * p12) * d)), .int .i64 (wrap64 (wrap64 (p10 * p21 - p11 * p20) * d)), .int .i64 (wrap64 (wrap64 (p20 * p01 - p21 * p00) * d)), .int .i64 (wrap64 (wrap64 (p00 * p11 - p01 * p10) * d))], .int .i64 0]) ∧ Below w.heap.size w w' := by
  have U := fun w => unit_0 p00 p01 p02 p10 p11 p12 p20 p21 p22 d w h ed hd
  obtain ⟨y0, ey0⟩ : ∃ x, x = wrap64 (p11 * p22 - p12 * p21) := ⟨_, rfl⟩
  obtain ⟨y1, ey1⟩ : ∃ x, x = wrap64 (p21 * p02 - p22 * p01) := ⟨_, rfl⟩
  obtain ⟨y2, ey2⟩ : ∃ x, x = wrap64 (p01 * p12 - p02 * p11) := ⟨_, rfl⟩
  obtain ⟨y3, ey3⟩ : ∃ x, x = wrap64 (p12 * p20 - p10 * p22) := ⟨_, rfl⟩
  obtain ⟨y4, ey4⟩ : ∃ x, x = wrap64 (p22 * p00 - p20 * p02) := ⟨_, rfl⟩
  obtain ⟨y5, ey5⟩ : ∃ x, x = wrap64 (p02 * p10 - p00 * p12) := ⟨_, rfl⟩
  obtain ⟨y6, ey6⟩ : ∃ x, x = wrap64 (p10 * p21 - p11 * p20) := ⟨_, rfl⟩
  obtain ⟨y7, ey7⟩ : ∃ x, x = wrap64 (p20 * p01 - p21 * p00) := ⟨_, rfl⟩
  obtain ⟨y8, ey8⟩ : ∃ x, x = wrap64 (p00 * p11 - p01 * p10) := ⟨_, rfl⟩
  have A := fun w => adj_any p00 p01 p02 p10 p11 p12 p20 p21 p22 w
  rw [← ey0, ← ey1, ← ey2, ← ey3, ← ey4, ← ey5, ← ey6, ← ey7, ← ey8] at A
  have HU := Lib.hid U; have HA := Lib.hid A; clear U A h ed hd
  go_enter Try.func15, Try.ntmps15
  go_wp2_with fail
  refine (HU.out _).mono ?_
  rintro e w1 ⟨rfl, hb1⟩
  obtain ⟨hc1, hf1⟩ := bcell hb1
  have hz1 := hb1.size
  try simp at hz1
  have z1_0 : w.heap.size < w1.heap.size := by omega
  have z1_1 : w.heap.size + 1 < w1.heap.size := by omega
  go_wp2_with fail
  refine (HA.out _).mono ?_
  rintro e w2 ⟨rfl, hb2⟩
  obtain ⟨hc2, hf2⟩ := bcell hb2
  have hz2 := hb2.size
  try simp at hz2
  have z2_0 : w.heap.size < w2.heap.size := by omega
  have z2_1 : w.heap.size + 1 < w2.heap.size := by omega
  go_wp2
  refine wp_loop_rounds 4 ?_
  rw [rounds_succ]
  go_wp2
  refine wp_loop_rounds 4 ?_
  rw [rounds_succ]
  go_wp2
  refine region_headq 9 (by kernel_rfl) (by kernel_rfl) ?_
  simp only [List.take_succ_cons, List.take_zero, List.drop_succ_cons, List.drop_zero]
  repeat (go_big_quiet_step (fail))
  refine wpQuiet_nil ?_
  rintro _ ⟨nq, rfl⟩
  go_wp2
  rw [rounds_succ]
  go_wp2
  refine region_headq 9 (by kernel_rfl) (by kernel_rfl) ?_
  simp only [List.take_succ_cons, List.take_zero, List.drop_succ_cons, List.drop_zero]
  repeat (go_big_quiet_step (fail))
  refine wpQuiet_nil ?_
  rintro _ ⟨nq, rfl⟩
  go_wp2
  rw [rounds_succ]
  go_wp2
  refine region_headq 9 (by kernel_rfl) (by kernel_rfl) ?_
  simp only [List.take_succ_cons, List.take_zero, List.drop_succ_cons, List.drop_zero]
  repeat (go_big_quiet_step (fail))
  refine wpQuiet_nil ?_
  rintro _ ⟨nq, rfl⟩
  go_wp2
  rw [rounds_succ]
  go_wp2
  rw [rounds_succ]
  go_wp2
  refine wp_loop_rounds 4 ?_
  rw [rounds_succ]
  go_wp2
  refine region_headq 9 (by kernel_rfl) (by kernel_rfl) ?_
  simp only [List.take_succ_cons, List.take_zero, List.drop_succ_cons, List.drop_zero]
  repeat (go_big_quiet_step (fail))
  refine wpQuiet_nil ?_
  rintro _ ⟨nq, rfl⟩
  go_wp2
  rw [rounds_succ]
  go_wp2
  refine region_headq 9 (by kernel_rfl) (by kernel_rfl) ?_
  simp only [List.take_succ_cons, List.take_zero, List.drop_succ_cons, List.drop_zero]
  repeat (go_big_quiet_step (fail))
  refine wpQuiet_nil ?_
  rintro _ ⟨nq, rfl⟩
  go_wp2
  rw [rounds_succ]
  go_wp2
  refine region_headq 9 (by kernel_rfl) (by kernel_rfl) ?_
  simp only [List.take_succ_cons, List.take_zero, List.drop_succ_cons, List.drop_zero]
  repeat (go_big_quiet_step (fail))
  refine wpQuiet_nil ?_
  rintro _ ⟨nq, rfl⟩
  go_wp2
  rw [rounds_succ]
  go_wp2
  rw [rounds_succ]
  go_wp2
  refine wp_loop_rounds 4 ?_
  rw [rounds_succ]
  go_wp2
  refine region_headq 9 (by kernel_rfl) (by kernel_rfl) ?_
  simp only [List.take_succ_cons, List.take_zero, List.drop_succ_cons, List.drop_zero]
  repeat (go_big_quiet_step (fail))
  refine wpQuiet_nil ?_
  rintro _ ⟨nq, rfl⟩
  go_wp2
  rw [rounds_succ]
  go_wp2
  refine region_headq 9 (by kernel_rfl) (by kernel_rfl) ?_
  simp only [List.take_succ_cons, List.take_zero, List.drop_succ_cons, List.drop_zero]
  repeat (go_big_quiet_step (fail))
  refine wpQuiet_nil ?_
  rintro _ ⟨nq, rfl⟩
  go_wp2
  rw [rounds_succ]
  go_wp2
  refine region_headq 9 (by kernel_rfl) (by kernel_rfl) ?_
  simp only [List.take_succ_cons, List.take_zero, List.drop_succ_cons, List.drop_zero]
  repeat (go_big_quiet_step (fail))
  refine wpQuiet_nil ?_
  rintro _ ⟨nq, rfl⟩
  go_wp2
  rw [rounds_succ]
  go_wp2
  rw [rounds_succ]
  go_wp2
  refine bodyPost_ret (v := .tuple #[.agg #[.int .i64 (wrap64 (y0 * d)), .int .i64 (wrap64 (y1 * d)), .int .i64 (wrap64 (y2 * d)), .int .i64 (wrap64 (y3 * d)), .int .i64 (wrap64 (y4 * d)), .int .i64 (wrap64 (y5 * d)), .int .i64 (wrap64 (y6 * d)), .int .i64 (wrap64 (y7 * d)), .int .i64 (wrap64 (y8 * d))], .int .i64 0]) (by simp [results, Try.results15, go_sem, *]) rfl ⟨ret_v (by rw [ey0, ey1, ey2, ey3, ey4, ey5, ey6, ey7, ey8]), ?_⟩
  repeat (first | exact Below.refl _ _ | assumption | exact Below.alloc (Below.refl _ _) (Nat.le_refl _) _ | refine Below.setCell ?_ (by first | (simp; done) | (simp; omega) | omega) _ | refine below_drewN ?_ _ | refine Below.alloc ?_ (by first | (simp; done) | (simp; omega) | omega) _ | refine Below.trans ?_ (Below.mono (by assumption) (by first | (simp; done) | (simp; omega) | omega)))

end Go.Proofs.Ytjghhgapacnpeaa
