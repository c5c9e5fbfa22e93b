/-
  Determinants, adjugates and inverses of matrices, the rest.
-/
import Derived.Test.YtdhlkhockpblhaaRedZ0
namespace Go.Proofs.Ytdhlkhockpblhaa
open Go.RowKit
attribute [local irreducible] World.setCell

set_option linter.unusedSimpArgs false
set_option linter.unusedVariables false

theorem vdet_same (p00 p01 p02 p10 p11 p12 p20 p21 p22 : Int) : wrap64 (wrap64 (wrap64 (p00 * wrap64 (p11 * p22 - p12 * p21)) + wrap64 (p01 * wrap64 (p12 * p20 - p10 * p22))) + wrap64 (p02 * wrap64 (p10 * p21 - p11 * p20))) = wrap64 (d9 p00 p01 p02 p10 p11 p12 p20 p21 p22) := by
  simp only [wrap_add_l, wrap_add_r, wrap_mul_r]
  congr 1; unfold d9; grind
set_option maxHeartbeats 1600000 in
theorem vdet_any (p00 p01 p02 p10 p11 p12 p20 p21 p22 : Int) (w : World) :
    Calls Try.prog 66 #[.agg #[.int .i64 p00, .int .i64 p01, .int .i64 p02, .int .i64 p10, .int .i64 p11, .int .i64 p12, .int .i64 p20, .int .i64 p21, .int .i64 p22]] w fun e w' => e = .returned (.int .i64 (wrap64 (d9 p00 p01 p02 p10 p11 p12 p20 p21 p22))) ∧ Below w.heap.size w w' := by
  go_enter Try.func66, Try.ntmps66
  go_wp2
  have zzx1_0 : w.heap.size < w.heap.size + 1 := by omega
  refine region_all (by kernel_rfl) (by kernel_rfl) ?_
  repeat (go_big_quiet_step ((go_at_call 79; exact held_of _ (Nat.le_refl _) (cof_any _ _ _ _ _ _ _ _ _ _ _ (by decide) _))))
  refine wpQuiet_nil ?_
  rintro x1 ⟨⟨w0, hbx1⟩, rfl⟩
  obtain ⟨hcx1, hfx1⟩ := bcell hbx1
  have hzx1 := hbx1.size
  try simp at hzx1
  have zx1_0 : w.heap.size < x1.heap.size := by omega
  go_wp2
  go_ret
  refine ⟨ret_int ?_, ?_⟩
  · show wrap64 (wrap64 (wrap64 (p00 * cofv 0 0 p00 p01 p02 p10 p11 p12 p20 p21 p22) + wrap64 (p01 * cofv 0 1 p00 p01 p02 p10 p11 p12 p20 p21 p22)) + wrap64 (p02 * cofv 0 2 p00 p01 p02 p10 p11 p12 p20 p21 p22)) = _
    rw [show cofv 0 0 p00 p01 p02 p10 p11 p12 p20 p21 p22 = wrap64 (p11 * p22 - p12 * p21) from by simp [cofv], show cofv 0 1 p00 p01 p02 p10 p11 p12 p20 p21 p22 = wrap64 (p12 * p20 - p10 * p22) from by simp [cofv], show cofv 0 2 p00 p01 p02 p10 p11 p12 p20 p21 p22 = wrap64 (p10 * p21 - p11 * p20) from by simp [cofv]]
    exact vdet_same _ _ _ _ _ _ _ _ _
  · repeat (first | exact Below.refl _ _ | assumption | exact Below.alloc (Below.refl _ _) (Nat.le_refl _) _ | refine Below.setCell ?_ (by first | (simp; done) | (simp; omega) | omega) _ | refine below_drewN ?_ _ | refine Below.alloc ?_ (by first | (simp; done) | (simp; omega) | omega) _ | refine Below.trans ?_ (Below.mono (by assumption) (by first | (simp; done) | (simp; omega) | omega)))

theorem formC_4 {p00 p01 p02 p10 p11 p12 p20 p21 p22 : Int} (h : matC p00 p01 p02 p10 p11 p12 p20 p21 p22 = 4) : formC p00 p01 p02 p10 p11 p12 p20 p21 p22 = 4 := by
  unfold matC at h; unfold formC; split at h
  · omega
  · rename_i q; rw [if_neg q]
theorem matC_or (p00 p01 p02 p10 p11 p12 p20 p21 p22 : Int) : matC p00 p01 p02 p10 p11 p12 p20 p21 p22 = 0 ∨ matC p00 p01 p02 p10 p11 p12 p20 p21 p22 = 4 := by unfold matC; split; exact Or.inl rfl; exact Or.inr rfl
theorem formC_in {p00 p01 p02 p10 p11 p12 p20 p21 p22 : Int} (h : matC p00 p01 p02 p10 p11 p12 p20 p21 p22 = 0) : formC p00 p01 p02 p10 p11 p12 p20 p21 p22 = if wrap64 (d9 p00 p01 p02 p10 p11 p12 p20 p21 p22) = 1 ∨ wrap64 (d9 p00 p01 p02 p10 p11 p12 p20 p21 p22) = -1 then 0 else 3 := by
  unfold matC at h; unfold formC; split at h
  · rename_i q; rw [if_pos q]
  · omega
set_option maxHeartbeats 800000 in
theorem unit_4 (p00 p01 p02 p10 p11 p12 p20 p21 p22 : Int) (w : World) (h : matC p00 p01 p02 p10 p11 p12 p20 p21 p22 = 4):
    Calls Try.prog 75 #[.agg #[.int .i64 p00, .int .i64 p01, .int .i64 p02, .int .i64 p10, .int .i64 p11, .int .i64 p12, .int .i64 p20, .int .i64 p21, .int .i64 p22]] w fun e w' => e = .returned (.tuple #[.int .i64 0, .int .i64 4]) ∧ Below w.heap.size w w' := by
  have E := Lib.hid h; clear h
  go_enter Try.func75, Try.ntmps75
  go_wp2_with fail
  refine (to_v (congrArg (Value.int .i64) E.out) (vcheck_any _ _ _ _ _ _ _ _ _ _)).mono ?_
  rintro e w1 ⟨rfl, hb1⟩
  obtain ⟨hc1, hf1⟩ := bcell hb1
  have hz1 := hb1.size
  try simp at hz1
  have z1_0 : w.heap.size < w1.heap.size := by omega
  go_wp2
  refine bodyPost_ret (v := .tuple #[.int .i64 0, .int .i64 4]) (by simp [results, Try.results75, go_sem, wrap_add_l, wrap_add_r, wrap_sub_l, wrap_sub_r, wrap_mul_l, wrap_mul_r, wrap_neg, wrap_wrap, wrap3, *]) rfl ⟨rfl, ?_⟩
  repeat (first | exact Below.refl _ _ | assumption | exact Below.alloc (Below.refl _ _) (Nat.le_refl _) _ | refine Below.setCell ?_ (by first | (simp; done) | (simp; omega) | omega) _ | refine below_drewN ?_ _ | refine Below.alloc ?_ (by first | (simp; done) | (simp; omega) | omega) _ | refine Below.trans ?_ (Below.mono (by assumption) (by first | (simp; done) | (simp; omega) | omega)))

set_option maxHeartbeats 800000 in
theorem unit_3 (p00 p01 p02 p10 p11 p12 p20 p21 p22 : Int) (w : World) (h : matC p00 p01 p02 p10 p11 p12 p20 p21 p22 = 0) (hd : ¬ (wrap64 (d9 p00 p01 p02 p10 p11 p12 p20 p21 p22) = 1 ∨ wrap64 (d9 p00 p01 p02 p10 p11 p12 p20 p21 p22) = -1)):
    Calls Try.prog 75 #[.agg #[.int .i64 p00, .int .i64 p01, .int .i64 p02, .int .i64 p10, .int .i64 p11, .int .i64 p12, .int .i64 p20, .int .i64 p21, .int .i64 p22]] w fun e w' => e = .returned (.tuple #[.int .i64 0, .int .i64 3]) ∧ Below w.heap.size w w' := by
  have E := Lib.hid h; clear h
  obtain ⟨d, ed⟩ : ∃ x, x = wrap64 (d9 p00 p01 p02 p10 p11 p12 p20 p21 p22) := ⟨_, rfl⟩
  have vd := fun w => vdet_any p00 p01 p02 p10 p11 p12 p20 p21 p22 w
  rw [← ed] at vd
  rw [← ed] at hd
  have VD := Lib.hid vd; clear vd ed
  have n1 : ¬ d = 1 := fun q => hd (Or.inl q)
  have n2 : ¬ d = -1 := fun q => hd (Or.inr q)
  have m1 : (d != 1) = true := by simp [n1]
  have m2 : (d != -1) = true := by simp [n2]
  clear hd
  go_enter Try.func75, Try.ntmps75
  go_wp2_with fail
  refine (to_v (congrArg (Value.int .i64) E.out) (vcheck_any _ _ _ _ _ _ _ _ _ _)).mono ?_
  rintro e w1 ⟨rfl, hb1⟩
  obtain ⟨hc1, hf1⟩ := bcell hb1
  have hz1 := hb1.size
  try simp at hz1
  have z1_0 : w.heap.size < w1.heap.size := by omega
  go_wp2_with fail
  refine (VD.out _).mono ?_
  rintro e w2 ⟨rfl, hb2⟩
  obtain ⟨hc2, hf2⟩ := bcell hb2
  have hz2 := hb2.size
  try simp at hz2
  have z2_0 : w.heap.size < w2.heap.size := by omega
  go_wp2
  refine bodyPost_ret (v := .tuple #[.int .i64 0, .int .i64 3]) (by simp [results, Try.results75, go_sem, wrap_add_l, wrap_add_r, wrap_sub_l, wrap_sub_r, wrap_mul_l, wrap_mul_r, wrap_neg, wrap_wrap, wrap3, *]) rfl ⟨rfl, ?_⟩
  repeat (first | exact Below.refl _ _ | assumption | exact Below.alloc (Below.refl _ _) (Nat.le_refl _) _ | refine Below.setCell ?_ (by first | (simp; done) | (simp; omega) | omega) _ | refine below_drewN ?_ _ | refine Below.alloc ?_ (by first | (simp; done) | (simp; omega) | omega) _ | refine Below.trans ?_ (Below.mono (by assumption) (by first | (simp; done) | (simp; omega) | omega)))

set_option maxHeartbeats 800000 in
theorem unit_0 (p00 p01 p02 p10 p11 p12 p20 p21 p22 : Int) (d : Int) (w : World) (h : matC p00 p01 p02 p10 p11 p12 p20 p21 p22 = 0) (ed : wrap64 (d9 p00 p01 p02 p10 p11 p12 p20 p21 p22) = d) (hd : d = 1 ∨ d = -1):
    Calls Try.prog 75 #[.agg #[.int .i64 p00, .int .i64 p01, .int .i64 p02, .int .i64 p10, .int .i64 p11, .int .i64 p12, .int .i64 p20, .int .i64 p21, .int .i64 p22]] w fun e w' => e = .returned (.tuple #[.int .i64 d, .int .i64 0]) ∧ Below w.heap.size w w' := by
  have E := Lib.hid h; clear h
  have vd := fun w => vdet_any p00 p01 p02 p10 p11 p12 p20 p21 p22 w
  rw [ed] at vd
  have VD := Lib.hid vd; clear vd ed
  rcases hd with rfl | rfl
  · go_enter Try.func75, Try.ntmps75
    go_wp2_with fail
    refine (to_v (congrArg (Value.int .i64) E.out) (vcheck_any _ _ _ _ _ _ _ _ _ _)).mono ?_
    rintro e w1 ⟨rfl, hb1⟩
    obtain ⟨hc1, hf1⟩ := bcell hb1
    have hz1 := hb1.size
    try simp at hz1
    have z1_0 : w.heap.size < w1.heap.size := by omega
    go_wp2_with fail
    refine (VD.out _).mono ?_
    rintro e w2 ⟨rfl, hb2⟩
    obtain ⟨hc2, hf2⟩ := bcell hb2
    have hz2 := hb2.size
    try simp at hz2
    have z2_0 : w.heap.size < w2.heap.size := by omega
    go_wp2
    refine bodyPost_ret (v := .tuple #[.int .i64 1, .int .i64 0]) (by simp [results, Try.results75, go_sem, wrap_add_l, wrap_add_r, wrap_sub_l, wrap_sub_r, wrap_mul_l, wrap_mul_r, wrap_neg, wrap_wrap, wrap3, *]) rfl ⟨rfl, ?_⟩
    repeat (first | exact Below.refl _ _ | assumption | exact Below.alloc (Below.refl _ _) (Nat.le_refl _) _ | refine Below.setCell ?_ (by first | (simp; done) | (simp; omega) | omega) _ | refine below_drewN ?_ _ | refine Below.alloc ?_ (by first | (simp; done) | (simp; omega) | omega) _ | refine Below.trans ?_ (Below.mono (by assumption) (by first | (simp; done) | (simp; omega) | omega)))
  · go_enter Try.func75, Try.ntmps75
    go_wp2_with fail
    refine (to_v (congrArg (Value.int .i64) E.out) (vcheck_any _ _ _ _ _ _ _ _ _ _)).mono ?_
    rintro e w1 ⟨rfl, hb1⟩
    obtain ⟨hc1, hf1⟩ := bcell hb1
    have hz1 := hb1.size
    try simp at hz1
    have z1_0 : w.heap.size < w1.heap.size := by omega
    go_wp2_with fail
    refine (VD.out _).mono ?_
    rintro e w2 ⟨rfl, hb2⟩
    obtain ⟨hc2, hf2⟩ := bcell hb2
    have hz2 := hb2.size
    try simp at hz2
    have z2_0 : w.heap.size < w2.heap.size := by omega
    go_wp2
    refine bodyPost_ret (v := .tuple #[.int .i64 (-1), .int .i64 0]) (by simp [results, Try.results75, go_sem, wrap_add_l, wrap_add_r, wrap_sub_l, wrap_sub_r, wrap_mul_l, wrap_mul_r, wrap_neg, wrap_wrap, wrap3, *]) rfl ⟨rfl, ?_⟩
    repeat (first | exact Below.refl _ _ | assumption | exact Below.alloc (Below.refl _ _) (Nat.le_refl _) _ | refine Below.setCell ?_ (by first | (simp; done) | (simp; omega) | omega) _ | refine below_drewN ?_ _ | refine Below.alloc ?_ (by first | (simp; done) | (simp; omega) | omega) _ | refine Below.trans ?_ (Below.mono (by assumption) (by first | (simp; done) | (simp; omega) | omega)))

set_option maxHeartbeats 6400000 in
set_option maxRecDepth 100000 in
theorem adj_any (p00 p01 p02 p10 p11 p12 p20 p21 p22 : Int) (w : World) :
    Calls Try.prog 76 #[.agg #[.int .i64 p00, .int .i64 p01, .int .i64 p02, .int .i64 p10, .int .i64 p11, .int .i64 p12, .int .i64 p20, .int .i64 p21, .int .i64 p22]] w fun e w' => e = .returned (.agg #[.int .i64 (wrap64 (p11 * p22 - p12 * p21)), .int .i64 (wrap64 (p21 * p02 - p22 * p01)), .int .i64 (wrap64 (p01 * p12 - p02 * p11)), .int .i64 (wrap64 (p12 * p20 - p10 * p22)), .int .i64 (wrap64 (p22 * p00 - p20 * p02)), .int .i64 (wrap64 (p02 * p10 - p00 * p12)), .int .i64 (wrap64 (p10 * p21 - p11 * p20)), .int .i64 (wrap64 (p20 * p01 - p21 * p00)), .int .i64 (wrap64 (p00 * p11 - p01 * p10))]) ∧ Below w.heap.size w w' := by
  go_enter Try.func76, Try.ntmps76
  go_wp2
  refine wp_loop_rounds 4 ?_
  rw [rounds_succ]
  go_wp2
  refine wp_loop_rounds 4 ?_
  rw [rounds_succ]
  go_wp2
  refine region_head 8 (by kernel_rfl) (by kernel_rfl) ?_
  simp only [List.take_succ_cons, List.take_zero, List.drop_succ_cons, List.drop_zero]
  repeat (go_big_quiet_step ((go_at_call 79; exact held_of _ (Nat.le_refl _) (cof_00 _ _ _ _ _ _ _ _ _ _))))
  refine wpQuiet_nil ?_
  rintro x0 ⟨⟨w0, hbx0⟩, rfl⟩
  obtain ⟨hcx0, hfx0⟩ := bcell hbx0
  have hzx0 := hbx0.size
  try simp at hzx0
  have zx0_0 : w.heap.size < x0.heap.size := by omega
  have zx0_1 : w.heap.size + 1 < x0.heap.size := by omega
  have zx0_2 : w.heap.size + 1 + 1 < x0.heap.size := by omega
  go_wp2
  rw [rounds_succ]
  go_wp2
  refine region_head 8 (by kernel_rfl) (by kernel_rfl) ?_
  simp only [List.take_succ_cons, List.take_zero, List.drop_succ_cons, List.drop_zero]
  repeat (go_big_quiet_step ((go_at_call 79; exact held_of _ (Nat.le_refl _) (cof_10 _ _ _ _ _ _ _ _ _ _))))
  refine wpQuiet_nil ?_
  rintro x1 ⟨⟨w0, hbx1⟩, rfl⟩
  obtain ⟨hcx1, hfx1⟩ := bcell hbx1
  have hzx1 := hbx1.size
  try simp at hzx1
  have zx1_0 : w.heap.size < x1.heap.size := by omega
  have zx1_1 : w.heap.size + 1 < x1.heap.size := by omega
  have zx1_2 : w.heap.size + 1 + 1 < x1.heap.size := by omega
  go_wp2
  rw [rounds_succ]
  go_wp2
  refine region_head 8 (by kernel_rfl) (by kernel_rfl) ?_
  simp only [List.take_succ_cons, List.take_zero, List.drop_succ_cons, List.drop_zero]
  repeat (go_big_quiet_step ((go_at_call 79; exact held_of _ (Nat.le_refl _) (cof_20 _ _ _ _ _ _ _ _ _ _))))
  refine wpQuiet_nil ?_
  rintro x2 ⟨⟨w0, hbx2⟩, rfl⟩
  obtain ⟨hcx2, hfx2⟩ := bcell hbx2
  have hzx2 := hbx2.size
  try simp at hzx2
  have zx2_0 : w.heap.size < x2.heap.size := by omega
  have zx2_1 : w.heap.size + 1 < x2.heap.size := by omega
  have zx2_2 : w.heap.size + 1 + 1 < x2.heap.size := by omega
  go_wp2
  rw [rounds_succ]
  go_wp2
  rw [rounds_succ]
  go_wp2
  refine wp_loop_rounds 4 ?_
  rw [rounds_succ]
  go_wp2
  refine region_head 8 (by kernel_rfl) (by kernel_rfl) ?_
  simp only [List.take_succ_cons, List.take_zero, List.drop_succ_cons, List.drop_zero]
  repeat (go_big_quiet_step ((go_at_call 79; exact held_of _ (Nat.le_refl _) (cof_01 _ _ _ _ _ _ _ _ _ _))))
  refine wpQuiet_nil ?_
  rintro x3 ⟨⟨w0, hbx3⟩, rfl⟩
  obtain ⟨hcx3, hfx3⟩ := bcell hbx3
  have hzx3 := hbx3.size
  try simp at hzx3
  have zx3_0 : w.heap.size < x3.heap.size := by omega
  have zx3_1 : w.heap.size + 1 < x3.heap.size := by omega
  have zx3_2 : w.heap.size + 1 + 1 < x3.heap.size := by omega
  go_wp2
  rw [rounds_succ]
  go_wp2
  refine region_head 8 (by kernel_rfl) (by kernel_rfl) ?_
  simp only [List.take_succ_cons, List.take_zero, List.drop_succ_cons, List.drop_zero]
  repeat (go_big_quiet_step ((go_at_call 79; exact held_of _ (Nat.le_refl _) (cof_11 _ _ _ _ _ _ _ _ _ _))))
  refine wpQuiet_nil ?_
  rintro x4 ⟨⟨w0, hbx4⟩, rfl⟩
  obtain ⟨hcx4, hfx4⟩ := bcell hbx4
  have hzx4 := hbx4.size
  try simp at hzx4
  have zx4_0 : w.heap.size < x4.heap.size := by omega
  have zx4_1 : w.heap.size + 1 < x4.heap.size := by omega
  have zx4_2 : w.heap.size + 1 + 1 < x4.heap.size := by omega
  go_wp2
  rw [rounds_succ]
  go_wp2
  refine region_head 8 (by kernel_rfl) (by kernel_rfl) ?_
  simp only [List.take_succ_cons, List.take_zero, List.drop_succ_cons, List.drop_zero]
  repeat (go_big_quiet_step ((go_at_call 79; exact held_of _ (Nat.le_refl _) (cof_21 _ _ _ _ _ _ _ _ _ _))))
  refine wpQuiet_nil ?_
  rintro x5 ⟨⟨w0, hbx5⟩, rfl⟩
  obtain ⟨hcx5, hfx5⟩ := bcell hbx5
  have hzx5 := hbx5.size
  try simp at hzx5
  have zx5_0 : w.heap.size < x5.heap.size := by omega
  have zx5_1 : w.heap.size + 1 < x5.heap.size := by omega
  have zx5_2 : w.heap.size + 1 + 1 < x5.heap.size := by omega
  go_wp2
  rw [rounds_succ]
  go_wp2
  rw [rounds_succ]
  go_wp2
  refine wp_loop_rounds 4 ?_
  rw [rounds_succ]
  go_wp2
  refine region_head 8 (by kernel_rfl) (by kernel_rfl) ?_
  simp only [List.take_succ_cons, List.take_zero, List.drop_succ_cons, List.drop_zero]
  repeat (go_big_quiet_step ((go_at_call 79; exact held_of _ (Nat.le_refl _) (cof_02 _ _ _ _ _ _ _ _ _ _))))
  refine wpQuiet_nil ?_
  rintro x6 ⟨⟨w0, hbx6⟩, rfl⟩
  obtain ⟨hcx6, hfx6⟩ := bcell hbx6
  have hzx6 := hbx6.size
  try simp at hzx6
  have zx6_0 : w.heap.size < x6.heap.size := by omega
  have zx6_1 : w.heap.size + 1 < x6.heap.size := by omega
  have zx6_2 : w.heap.size + 1 + 1 < x6.heap.size := by omega
  go_wp2
  rw [rounds_succ]
  go_wp2
  refine region_head 8 (by kernel_rfl) (by kernel_rfl) ?_
  simp only [List.take_succ_cons, List.take_zero, List.drop_succ_cons, List.drop_zero]
  repeat (go_big_quiet_step ((go_at_call 79; exact held_of _ (Nat.le_refl _) (cof_12 _ _ _ _ _ _ _ _ _ _))))
  refine wpQuiet_nil ?_
  rintro x7 ⟨⟨w0, hbx7⟩, rfl⟩
  obtain ⟨hcx7, hfx7⟩ := bcell hbx7
  have hzx7 := hbx7.size
  try simp at hzx7
  have zx7_0 : w.heap.size < x7.heap.size := by omega
  have zx7_1 : w.heap.size + 1 < x7.heap.size := by omega
  have zx7_2 : w.heap.size + 1 + 1 < x7.heap.size := by omega
  go_wp2
  rw [rounds_succ]
  go_wp2
  refine region_head 8 (by kernel_rfl) (by kernel_rfl) ?_
  simp only [List.take_succ_cons, List.take_zero, List.drop_succ_cons, List.drop_zero]
  repeat (go_big_quiet_step ((go_at_call 79; exact held_of _ (Nat.le_refl _) (cof_22 _ _ _ _ _ _ _ _ _ _))))
  refine wpQuiet_nil ?_
  rintro x8 ⟨⟨w0, hbx8⟩, rfl⟩
  obtain ⟨hcx8, hfx8⟩ := bcell hbx8
  have hzx8 := hbx8.size
  try simp at hzx8
  have zx8_0 : w.heap.size < x8.heap.size := by omega
  have zx8_1 : w.heap.size + 1 < x8.heap.size := by omega
  have zx8_2 : w.heap.size + 1 + 1 < x8.heap.size := by omega
  go_wp2
  rw [rounds_succ]
  go_wp2
  rw [rounds_succ]
  go_wp2
  refine bodyPost_ret (v := .agg #[.int .i64 (wrap64 (p11 * p22 - p12 * p21)), .int .i64 (wrap64 (p21 * p02 - p22 * p01)), .int .i64 (wrap64 (p01 * p12 - p02 * p11)), .int .i64 (wrap64 (p12 * p20 - p10 * p22)), .int .i64 (wrap64 (p22 * p00 - p20 * p02)), .int .i64 (wrap64 (p02 * p10 - p00 * p12)), .int .i64 (wrap64 (p10 * p21 - p11 * p20)), .int .i64 (wrap64 (p20 * p01 - p21 * p00)), .int .i64 (wrap64 (p00 * p11 - p01 * p10))]) (by simp [results, Try.results76, go_sem, wrap_add_l, wrap_add_r, wrap_sub_l, wrap_sub_r, wrap_mul_l, wrap_mul_r, wrap_neg, wrap_wrap, wrap3, *]) rfl ⟨rfl, ?_⟩
  repeat (first | exact Below.refl _ _ | assumption | exact Below.alloc (Below.refl _ _) (Nat.le_refl _) _ | refine Below.setCell ?_ (by first | (simp; done) | (simp; omega) | omega) _ | refine below_drewN ?_ _ | refine Below.alloc ?_ (by first | (simp; done) | (simp; omega) | omega) _ | refine Below.trans ?_ (Below.mono (by assumption) (by first | (simp; done) | (simp; omega) | omega)))

end Go.Proofs.Ytdhlkhockpblhaa
