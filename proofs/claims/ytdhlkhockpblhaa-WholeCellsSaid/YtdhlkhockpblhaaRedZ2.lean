/-
  Inverses; the reference: forms, products, turned edges.
-/
import Derived.Test.YtdhlkhockpblhaaRedZ
namespace Go.Proofs.Ytdhlkhockpblhaa
open Go.RowKit
attribute [local irreducible] World.setCell

set_option linter.unusedSimpArgs false
set_option linter.unusedVariables false

set_option maxHeartbeats 800000 in
theorem inv_4 (p00 p01 p02 p10 p11 p12 p20 p21 p22 : Int) (w : World) (h : matC p00 p01 p02 p10 p11 p12 p20 p21 p22 = 4):
    Calls Try.prog 52 #[.agg #[.int .i64 p00, .int .i64 p01, .int .i64 p02, .int .i64 p10, .int .i64 p11, .int .i64 p12, .int .i64 p20, .int .i64 p21, .int .i64 p22]] w fun e w' => (∃ z0 z1 z2 z3 z4 z5 z6 z7 z8 : Int, e = .returned (.tuple #[.agg #[.int .i64 z0, .int .i64 z1, .int .i64 z2, .int .i64 z3, .int .i64 z4, .int .i64 z5, .int .i64 z6, .int .i64 z7, .int .i64 z8], .int .i64 (4)])) ∧ Below w.heap.size w w' := by
  have U := fun w => unit_4 p00 p01 p02 p10 p11 p12 p20 p21 p22 w h
  have HU := Lib.hid U; clear U h
  go_enter Try.func52, Try.ntmps52
  go_wp2_with fail
  refine (HU.out _).mono ?_
  rintro e w1 ⟨rfl, hb1⟩
  obtain ⟨hc1, hf1⟩ := bcell hb1
  have hz1 := hb1.size
  try simp at hz1
  have z1_0 : w.heap.size < w1.heap.size := by omega
  have z1_1 : w.heap.size + 1 < w1.heap.size := by omega
  go_wp2
  refine bodyPost_ret (v := .tuple #[.agg #[.int .i64 0, .int .i64 0, .int .i64 0, .int .i64 0, .int .i64 0, .int .i64 0, .int .i64 0, .int .i64 0, .int .i64 0], .int .i64 4]) (by simp [results, Try.results52, go_sem, wrap_add_l, wrap_add_r, wrap_sub_l, wrap_sub_r, wrap_mul_l, wrap_mul_r, wrap_neg, wrap_wrap, wrap3, *]) rfl ⟨⟨_, _, _, _, _, _, _, _, _, rfl⟩, ?_⟩
  repeat (first | exact Below.refl _ _ | assumption | exact Below.alloc (Below.refl _ _) (Nat.le_refl _) _ | refine Below.setCell ?_ (by first | (simp; done) | (simp; omega) | omega) _ | refine below_drewN ?_ _ | refine Below.alloc ?_ (by first | (simp; done) | (simp; omega) | omega) _ | refine Below.trans ?_ (Below.mono (by assumption) (by first | (simp; done) | (simp; omega) | omega)))

set_option maxHeartbeats 800000 in
theorem inv_3 (p00 p01 p02 p10 p11 p12 p20 p21 p22 : Int) (w : World) (h : matC p00 p01 p02 p10 p11 p12 p20 p21 p22 = 0) (hd : ¬ (wrap64 (d9 p00 p01 p02 p10 p11 p12 p20 p21 p22) = 1 ∨ wrap64 (d9 p00 p01 p02 p10 p11 p12 p20 p21 p22) = -1)):
    Calls Try.prog 52 #[.agg #[.int .i64 p00, .int .i64 p01, .int .i64 p02, .int .i64 p10, .int .i64 p11, .int .i64 p12, .int .i64 p20, .int .i64 p21, .int .i64 p22]] w fun e w' => (∃ z0 z1 z2 z3 z4 z5 z6 z7 z8 : Int, e = .returned (.tuple #[.agg #[.int .i64 z0, .int .i64 z1, .int .i64 z2, .int .i64 z3, .int .i64 z4, .int .i64 z5, .int .i64 z6, .int .i64 z7, .int .i64 z8], .int .i64 (3)])) ∧ Below w.heap.size w w' := by
  have U := fun w => unit_3 p00 p01 p02 p10 p11 p12 p20 p21 p22 w h hd
  have HU := Lib.hid U; clear U h hd
  go_enter Try.func52, Try.ntmps52
  go_wp2_with fail
  refine (HU.out _).mono ?_
  rintro e w1 ⟨rfl, hb1⟩
  obtain ⟨hc1, hf1⟩ := bcell hb1
  have hz1 := hb1.size
  try simp at hz1
  have z1_0 : w.heap.size < w1.heap.size := by omega
  have z1_1 : w.heap.size + 1 < w1.heap.size := by omega
  go_wp2
  refine bodyPost_ret (v := .tuple #[.agg #[.int .i64 0, .int .i64 0, .int .i64 0, .int .i64 0, .int .i64 0, .int .i64 0, .int .i64 0, .int .i64 0, .int .i64 0], .int .i64 3]) (by simp [results, Try.results52, go_sem, wrap_add_l, wrap_add_r, wrap_sub_l, wrap_sub_r, wrap_mul_l, wrap_mul_r, wrap_neg, wrap_wrap, wrap3, *]) rfl ⟨⟨_, _, _, _, _, _, _, _, _, rfl⟩, ?_⟩
  repeat (first | exact Below.refl _ _ | assumption | exact Below.alloc (Below.refl _ _) (Nat.le_refl _) _ | refine Below.setCell ?_ (by first | (simp; done) | (simp; omega) | omega) _ | refine below_drewN ?_ _ | refine Below.alloc ?_ (by first | (simp; done) | (simp; omega) | omega) _ | refine Below.trans ?_ (Below.mono (by assumption) (by first | (simp; done) | (simp; omega) | omega)))

set_option maxHeartbeats 3200000 in
set_option maxRecDepth 100000 in
theorem inv_0 (p00 p01 p02 p10 p11 p12 p20 p21 p22 : Int) (d : Int) (w : World) (h : matC p00 p01 p02 p10 p11 p12 p20 p21 p22 = 0) (ed : wrap64 (d9 p00 p01 p02 p10 p11 p12 p20 p21 p22) = d) (hd : d = 1 ∨ d = -1):
    Calls Try.prog 52 #[.agg #[.int .i64 p00, .int .i64 p01, .int .i64 p02, .int .i64 p10, .int .i64 p11, .int .i64 p12, .int .i64 p20, .int .i64 p21, .int .i64 p22]] w fun e w' => (∃ z0 z1 z2 z3 z4 z5 z6 z7 z8 : Int, e = .returned (.tuple #[.agg #[.int .i64 z0, .int .i64 z1, .int .i64 z2, .int .i64 z3, .int .i64 z4, .int .i64 z5, .int .i64 z6, .int .i64 z7, .int .i64 z8], .int .i64 (0)])) ∧ Below w.heap.size w w' := by
  have U := fun w => unit_0 p00 p01 p02 p10 p11 p12 p20 p21 p22 d w h ed hd
  obtain ⟨y0, ey0⟩ : ∃ x, x = wrap64 (p11 * p22 - p12 * p21) := ⟨_, rfl⟩
  obtain ⟨y1, ey1⟩ : ∃ x, x = wrap64 (p21 * p02 - p22 * p01) := ⟨_, rfl⟩
  obtain ⟨y2, ey2⟩ : ∃ x, x = wrap64 (p01 * p12 - p02 * p11) := ⟨_, rfl⟩
  obtain ⟨y3, ey3⟩ : ∃ x, x = wrap64 (p12 * p20 - p10 * p22) := ⟨_, rfl⟩
  obtain ⟨y4, ey4⟩ : ∃ x, x = wrap64 (p22 * p00 - p20 * p02) := ⟨_, rfl⟩
  obtain ⟨y5, ey5⟩ : ∃ x, x = wrap64 (p02 * p10 - p00 * p12) := ⟨_, rfl⟩
  obtain ⟨y6, ey6⟩ : ∃ x, x = wrap64 (p10 * p21 - p11 * p20) := ⟨_, rfl⟩
  obtain ⟨y7, ey7⟩ : ∃ x, x = wrap64 (p20 * p01 - p21 * p00) := ⟨_, rfl⟩
  obtain ⟨y8, ey8⟩ : ∃ x, x = wrap64 (p00 * p11 - p01 * p10) := ⟨_, rfl⟩
  have A := fun w => adj_any p00 p01 p02 p10 p11 p12 p20 p21 p22 w
  rw [← ey0, ← ey1, ← ey2, ← ey3, ← ey4, ← ey5, ← ey6, ← ey7, ← ey8] at A
  have HU := Lib.hid U; have HA := Lib.hid A; clear U A h ed hd ey0 ey1 ey2 ey3 ey4 ey5 ey6 ey7 ey8
  go_enter Try.func52, Try.ntmps52
  go_wp2_with fail
  refine (HU.out _).mono ?_
  rintro e w1 ⟨rfl, hb1⟩
  obtain ⟨hc1, hf1⟩ := bcell hb1
  have hz1 := hb1.size
  try simp at hz1
  have z1_0 : w.heap.size < w1.heap.size := by omega
  have z1_1 : w.heap.size + 1 < w1.heap.size := by omega
  go_wp2_with fail
  refine (HA.out _).mono ?_
  rintro e w2 ⟨rfl, hb2⟩
  obtain ⟨hc2, hf2⟩ := bcell hb2
  have hz2 := hb2.size
  try simp at hz2
  have z2_0 : w.heap.size < w2.heap.size := by omega
  have z2_1 : w.heap.size + 1 < w2.heap.size := by omega
  go_wp2
  refine wp_loop_rounds 4 ?_
  rw [rounds_succ]
  go_wp2
  refine wp_loop_rounds 4 ?_
  rw [rounds_succ]
  go_wp2
  refine region_headq 9 (by kernel_rfl) (by kernel_rfl) ?_
  simp only [List.take_succ_cons, List.take_zero, List.drop_succ_cons, List.drop_zero]
  repeat (go_big_quiet_step (fail))
  refine wpQuiet_nil ?_
  rintro _ ⟨nq, rfl⟩
  go_wp2
  rw [rounds_succ]
  go_wp2
  refine region_headq 9 (by kernel_rfl) (by kernel_rfl) ?_
  simp only [List.take_succ_cons, List.take_zero, List.drop_succ_cons, List.drop_zero]
  repeat (go_big_quiet_step (fail))
  refine wpQuiet_nil ?_
  rintro _ ⟨nq, rfl⟩
  go_wp2
  rw [rounds_succ]
  go_wp2
  refine region_headq 9 (by kernel_rfl) (by kernel_rfl) ?_
  simp only [List.take_succ_cons, List.take_zero, List.drop_succ_cons, List.drop_zero]
  repeat (go_big_quiet_step (fail))
  refine wpQuiet_nil ?_
  rintro _ ⟨nq, rfl⟩
  go_wp2
  rw [rounds_succ]
  go_wp2
  rw [rounds_succ]
  go_wp2
  refine wp_loop_rounds 4 ?_
  rw [rounds_succ]
  go_wp2
  refine region_headq 9 (by kernel_rfl) (by kernel_rfl) ?_
  simp only [List.take_succ_cons, List.take_zero, List.drop_succ_cons, List.drop_zero]
  repeat (go_big_quiet_step (fail))
  refine wpQuiet_nil ?_
  rintro _ ⟨nq, rfl⟩
  go_wp2
  rw [rounds_succ]
  go_wp2
  refine region_headq 9 (by kernel_rfl) (by kernel_rfl) ?_
  simp only [List.take_succ_cons, List.take_zero, List.drop_succ_cons, List.drop_zero]
  repeat (go_big_quiet_step (fail))
  refine wpQuiet_nil ?_
  rintro _ ⟨nq, rfl⟩
  go_wp2
  rw [rounds_succ]
  go_wp2
  refine region_headq 9 (by kernel_rfl) (by kernel_rfl) ?_
  simp only [List.take_succ_cons, List.take_zero, List.drop_succ_cons, List.drop_zero]
  repeat (go_big_quiet_step (fail))
  refine wpQuiet_nil ?_
  rintro _ ⟨nq, rfl⟩
  go_wp2
  rw [rounds_succ]
  go_wp2
  rw [rounds_succ]
  go_wp2
  refine wp_loop_rounds 4 ?_
  rw [rounds_succ]
  go_wp2
  refine region_headq 9 (by kernel_rfl) (by kernel_rfl) ?_
  simp only [List.take_succ_cons, List.take_zero, List.drop_succ_cons, List.drop_zero]
  repeat (go_big_quiet_step (fail))
  refine wpQuiet_nil ?_
  rintro _ ⟨nq, rfl⟩
  go_wp2
  rw [rounds_succ]
  go_wp2
  refine region_headq 9 (by kernel_rfl) (by kernel_rfl) ?_
  simp only [List.take_succ_cons, List.take_zero, List.drop_succ_cons, List.drop_zero]
  repeat (go_big_quiet_step (fail))
  refine wpQuiet_nil ?_
  rintro _ ⟨nq, rfl⟩
  go_wp2
  rw [rounds_succ]
  go_wp2
  refine region_headq 9 (by kernel_rfl) (by kernel_rfl) ?_
  simp only [List.take_succ_cons, List.take_zero, List.drop_succ_cons, List.drop_zero]
  repeat (go_big_quiet_step (fail))
  refine wpQuiet_nil ?_
  rintro _ ⟨nq, rfl⟩
  go_wp2
  rw [rounds_succ]
  go_wp2
  rw [rounds_succ]
  go_wp2
  refine bodyPost_ret (v := .tuple #[.agg #[.int .i64 (wrap64 (y0 * d)), .int .i64 (wrap64 (y1 * d)), .int .i64 (wrap64 (y2 * d)), .int .i64 (wrap64 (y3 * d)), .int .i64 (wrap64 (y4 * d)), .int .i64 (wrap64 (y5 * d)), .int .i64 (wrap64 (y6 * d)), .int .i64 (wrap64 (y7 * d)), .int .i64 (wrap64 (y8 * d))], .int .i64 0]) (by simp [results, Try.results52, go_sem, wrap_add_l, wrap_add_r, wrap_sub_l, wrap_sub_r, wrap_mul_l, wrap_mul_r, wrap_neg, wrap_wrap, wrap3, *]) rfl ⟨⟨_, _, _, _, _, _, _, _, _, rfl⟩, ?_⟩
  repeat (first | exact Below.refl _ _ | assumption | exact Below.alloc (Below.refl _ _) (Nat.le_refl _) _ | refine Below.setCell ?_ (by first | (simp; done) | (simp; omega) | omega) _ | refine below_drewN ?_ _ | refine Below.alloc ?_ (by first | (simp; done) | (simp; omega) | omega) _ | refine Below.trans ?_ (Below.mono (by assumption) (by first | (simp; done) | (simp; omega) | omega)))

theorem inv_any (p00 p01 p02 p10 p11 p12 p20 p21 p22 : Int) (w : World) : Calls Try.prog 52 #[.agg #[.int .i64 p00, .int .i64 p01, .int .i64 p02, .int .i64 p10, .int .i64 p11, .int .i64 p12, .int .i64 p20, .int .i64 p21, .int .i64 p22]] w fun e w' => (∃ z0 z1 z2 z3 z4 z5 z6 z7 z8 : Int, e = .returned (.tuple #[.agg #[.int .i64 z0, .int .i64 z1, .int .i64 z2, .int .i64 z3, .int .i64 z4, .int .i64 z5, .int .i64 z6, .int .i64 z7, .int .i64 z8], .int .i64 (formC p00 p01 p02 p10 p11 p12 p20 p21 p22)])) ∧ Below w.heap.size w w' := by
  rcases matC_or p00 p01 p02 p10 p11 p12 p20 p21 p22 with h | h
  · rw [formC_in h]
    by_cases hd : wrap64 (d9 p00 p01 p02 p10 p11 p12 p20 p21 p22) = 1 ∨ wrap64 (d9 p00 p01 p02 p10 p11 p12 p20 p21 p22) = -1
    · rw [if_pos hd]; exact inv_0 p00 p01 p02 p10 p11 p12 p20 p21 p22 _ w h rfl hd
    · rw [if_neg hd]; exact inv_3 p00 p01 p02 p10 p11 p12 p20 p21 p22 w h hd
  · rw [formC_4 h]; exact inv_4 p00 p01 p02 p10 p11 p12 p20 p21 p22 w h
theorem r1d (p00 p01 p02 p10 p11 p12 p20 p21 p22 : Int) (w : World) : Calls Try.prog 22 #[.agg #[.int .i64 p00, .int .i64 p01, .int .i64 p02, .int .i64 p10, .int .i64 p11, .int .i64 p12, .int .i64 p20, .int .i64 p21, .int .i64 p22]] w fun e w' => e = .returned (.int .i64 (wrap64 (d9 p00 p01 p02 p10 p11 p12 p20 p21 p22))) ∧ Below w.heap.size w w' := r1det_any p00 p01 p02 p10 p11 p12 p20 p21 p22 w
set_option maxHeartbeats 800000 in
theorem rform_4 (p00 p01 p02 p10 p11 p12 p20 p21 p22 : Int) (w : World) (h : matC p00 p01 p02 p10 p11 p12 p20 p21 p22 = 4):
    Calls Try.prog 53 #[.agg #[.int .i64 p00, .int .i64 p01, .int .i64 p02, .int .i64 p10, .int .i64 p11, .int .i64 p12, .int .i64 p20, .int .i64 p21, .int .i64 p22]] w fun e w' => e = .returned (.int .i64 4) ∧ Below w.heap.size w w' := by
  have E := Lib.hid h; clear h
  go_enter Try.func53, Try.ntmps53
  go_wp2_with fail
  refine (to_v (congrArg (Value.int .i64) E.out) (rMat_any _ _ _ _ _ _ _ _ _ _)).mono ?_
  rintro e w1 ⟨rfl, hb1⟩
  obtain ⟨hc1, hf1⟩ := bcell hb1
  have hz1 := hb1.size
  try simp at hz1
  have z1_0 : w.heap.size < w1.heap.size := by omega
  go_wp2
  go_ret
  refine ⟨rfl, ?_⟩
  repeat (first | exact Below.refl _ _ | assumption | exact Below.alloc (Below.refl _ _) (Nat.le_refl _) _ | refine Below.setCell ?_ (by first | (simp; done) | (simp; omega) | omega) _ | refine below_drewN ?_ _ | refine Below.alloc ?_ (by first | (simp; done) | (simp; omega) | omega) _ | refine Below.trans ?_ (Below.mono (by assumption) (by first | (simp; done) | (simp; omega) | omega)))

set_option maxHeartbeats 800000 in
theorem rform_3 (p00 p01 p02 p10 p11 p12 p20 p21 p22 : Int) (w : World) (h : matC p00 p01 p02 p10 p11 p12 p20 p21 p22 = 0) (hd : ¬ (wrap64 (d9 p00 p01 p02 p10 p11 p12 p20 p21 p22) = 1 ∨ wrap64 (d9 p00 p01 p02 p10 p11 p12 p20 p21 p22) = -1)):
    Calls Try.prog 53 #[.agg #[.int .i64 p00, .int .i64 p01, .int .i64 p02, .int .i64 p10, .int .i64 p11, .int .i64 p12, .int .i64 p20, .int .i64 p21, .int .i64 p22]] w fun e w' => e = .returned (.int .i64 3) ∧ Below w.heap.size w w' := by
  have E := Lib.hid h; clear h
  obtain ⟨d, ed⟩ : ∃ x, x = wrap64 (d9 p00 p01 p02 p10 p11 p12 p20 p21 p22) := ⟨_, rfl⟩
  have vd := fun w => r1d p00 p01 p02 p10 p11 p12 p20 p21 p22 w
  rw [← ed] at vd
  rw [← ed] at hd
  have VD := Lib.hid vd; clear vd ed
  have n1 : ¬ d = 1 := fun q => hd (Or.inl q)
  have n2 : ¬ d = -1 := fun q => hd (Or.inr q)
  have m1 : (d != 1) = true := by simp [n1]
  have m2 : (d != -1) = true := by simp [n2]
  clear hd
  go_enter Try.func53, Try.ntmps53
  go_wp2_with fail
  refine (to_v (congrArg (Value.int .i64) E.out) (rMat_any _ _ _ _ _ _ _ _ _ _)).mono ?_
  rintro e w1 ⟨rfl, hb1⟩
  obtain ⟨hc1, hf1⟩ := bcell hb1
  have hz1 := hb1.size
  try simp at hz1
  have z1_0 : w.heap.size < w1.heap.size := by omega
  go_wp2_with fail
  refine (VD.out _).mono ?_
  rintro e w2 ⟨rfl, hb2⟩
  obtain ⟨hc2, hf2⟩ := bcell hb2
  have hz2 := hb2.size
  try simp at hz2
  have z2_0 : w.heap.size < w2.heap.size := by omega
  go_wp2
  go_ret
  refine ⟨rfl, ?_⟩
  repeat (first | exact Below.refl _ _ | assumption | exact Below.alloc (Below.refl _ _) (Nat.le_refl _) _ | refine Below.setCell ?_ (by first | (simp; done) | (simp; omega) | omega) _ | refine below_drewN ?_ _ | refine Below.alloc ?_ (by first | (simp; done) | (simp; omega) | omega) _ | refine Below.trans ?_ (Below.mono (by assumption) (by first | (simp; done) | (simp; omega) | omega)))

set_option maxHeartbeats 800000 in
theorem rform_0 (p00 p01 p02 p10 p11 p12 p20 p21 p22 : Int) (d : Int) (w : World) (h : matC p00 p01 p02 p10 p11 p12 p20 p21 p22 = 0) (ed : wrap64 (d9 p00 p01 p02 p10 p11 p12 p20 p21 p22) = d) (hd : d = 1 ∨ d = -1):
    Calls Try.prog 53 #[.agg #[.int .i64 p00, .int .i64 p01, .int .i64 p02, .int .i64 p10, .int .i64 p11, .int .i64 p12, .int .i64 p20, .int .i64 p21, .int .i64 p22]] w fun e w' => e = .returned (.int .i64 0) ∧ Below w.heap.size w w' := by
  have E := Lib.hid h; clear h
  have vd := fun w => r1d p00 p01 p02 p10 p11 p12 p20 p21 p22 w
  rw [ed] at vd
  have VD := Lib.hid vd; clear vd ed
  rcases hd with rfl | rfl
  · go_enter Try.func53, Try.ntmps53
    go_wp2_with fail
    refine (to_v (congrArg (Value.int .i64) E.out) (rMat_any _ _ _ _ _ _ _ _ _ _)).mono ?_
    rintro e w1 ⟨rfl, hb1⟩
    obtain ⟨hc1, hf1⟩ := bcell hb1
    have hz1 := hb1.size
    try simp at hz1
    have z1_0 : w.heap.size < w1.heap.size := by omega
    go_wp2_with fail
    refine (VD.out _).mono ?_
    rintro e w2 ⟨rfl, hb2⟩
    obtain ⟨hc2, hf2⟩ := bcell hb2
    have hz2 := hb2.size
    try simp at hz2
    have z2_0 : w.heap.size < w2.heap.size := by omega
    go_wp2
    go_ret
    refine ⟨rfl, ?_⟩
    repeat (first | exact Below.refl _ _ | assumption | exact Below.alloc (Below.refl _ _) (Nat.le_refl _) _ | refine Below.setCell ?_ (by first | (simp; done) | (simp; omega) | omega) _ | refine below_drewN ?_ _ | refine Below.alloc ?_ (by first | (simp; done) | (simp; omega) | omega) _ | refine Below.trans ?_ (Below.mono (by assumption) (by first | (simp; done) | (simp; omega) | omega)))
  · go_enter Try.func53, Try.ntmps53
    go_wp2_with fail
    refine (to_v (congrArg (Value.int .i64) E.out) (rMat_any _ _ _ _ _ _ _ _ _ _)).mono ?_
    rintro e w1 ⟨rfl, hb1⟩
    obtain ⟨hc1, hf1⟩ := bcell hb1
    have hz1 := hb1.size
    try simp at hz1
    have z1_0 : w.heap.size < w1.heap.size := by omega
    go_wp2_with fail
    refine (VD.out _).mono ?_
    rintro e w2 ⟨rfl, hb2⟩
    obtain ⟨hc2, hf2⟩ := bcell hb2
    have hz2 := hb2.size
    try simp at hz2
    have z2_0 : w.heap.size < w2.heap.size := by omega
    go_wp2
    go_ret
    refine ⟨rfl, ?_⟩
    repeat (first | exact Below.refl _ _ | assumption | exact Below.alloc (Below.refl _ _) (Nat.le_refl _) _ | refine Below.setCell ?_ (by first | (simp; done) | (simp; omega) | omega) _ | refine below_drewN ?_ _ | refine Below.alloc ?_ (by first | (simp; done) | (simp; omega) | omega) _ | refine Below.trans ?_ (Below.mono (by assumption) (by first | (simp; done) | (simp; omega) | omega)))

theorem rform_any (p00 p01 p02 p10 p11 p12 p20 p21 p22 : Int) (w : World) : Calls Try.prog 53 #[.agg #[.int .i64 p00, .int .i64 p01, .int .i64 p02, .int .i64 p10, .int .i64 p11, .int .i64 p12, .int .i64 p20, .int .i64 p21, .int .i64 p22]] w fun e w' => e = .returned (.int .i64 (formC p00 p01 p02 p10 p11 p12 p20 p21 p22)) ∧ Below w.heap.size w w' := by
  rcases matC_or p00 p01 p02 p10 p11 p12 p20 p21 p22 with h | h
  · rw [formC_in h]
    by_cases hd : wrap64 (d9 p00 p01 p02 p10 p11 p12 p20 p21 p22) = 1 ∨ wrap64 (d9 p00 p01 p02 p10 p11 p12 p20 p21 p22) = -1
    · rw [if_pos hd]; exact rform_0 p00 p01 p02 p10 p11 p12 p20 p21 p22 _ w h rfl hd
    · rw [if_neg hd]; exact rform_3 p00 p01 p02 p10 p11 p12 p20 p21 p22 w h hd
  · rw [formC_4 h]; exact rform_4 p00 p01 p02 p10 p11 p12 p20 p21 p22 w h
set_option maxHeartbeats 3200000 in
set_option maxRecDepth 100000 in
theorem tr_any (p00 p01 p02 p10 p11 p12 p20 p21 p22 : Int) (w : World) :
    Calls Try.prog 78 #[.agg #[.int .i64 p00, .int .i64 p01, .int .i64 p02, .int .i64 p10, .int .i64 p11, .int .i64 p12, .int .i64 p20, .int .i64 p21, .int .i64 p22]] w fun e w' => e = .returned (.agg #[.int .i64 p00, .int .i64 p10, .int .i64 p20, .int .i64 p01, .int .i64 p11, .int .i64 p21, .int .i64 p02, .int .i64 p12, .int .i64 p22]) ∧ Below w.heap.size w w' := by
  go_enter Try.func78, Try.ntmps78
  go_wp2
  refine wp_loop_rounds 10 ?_
  rw [rounds_succ]
  go_wp2
  refine region_headq 13 (by kernel_rfl) (by kernel_rfl) ?_
  simp only [List.take_succ_cons, List.take_zero, List.drop_succ_cons, List.drop_zero]
  repeat (go_big_quiet_step (fail))
  refine wpQuiet_nil ?_
  rintro _ ⟨nq, rfl⟩
  go_wp2
  rw [rounds_succ]
  go_wp2
  refine region_headq 13 (by kernel_rfl) (by kernel_rfl) ?_
  simp only [List.take_succ_cons, List.take_zero, List.drop_succ_cons, List.drop_zero]
  repeat (go_big_quiet_step (fail))
  refine wpQuiet_nil ?_
  rintro _ ⟨nq, rfl⟩
  go_wp2
  rw [rounds_succ]
  go_wp2
  refine region_headq 13 (by kernel_rfl) (by kernel_rfl) ?_
  simp only [List.take_succ_cons, List.take_zero, List.drop_succ_cons, List.drop_zero]
  repeat (go_big_quiet_step (fail))
  refine wpQuiet_nil ?_
  rintro _ ⟨nq, rfl⟩
  go_wp2
  rw [rounds_succ]
  go_wp2
  refine region_headq 13 (by kernel_rfl) (by kernel_rfl) ?_
  simp only [List.take_succ_cons, List.take_zero, List.drop_succ_cons, List.drop_zero]
  repeat (go_big_quiet_step (fail))
  refine wpQuiet_nil ?_
  rintro _ ⟨nq, rfl⟩
  go_wp2
  rw [rounds_succ]
  go_wp2
  refine region_headq 13 (by kernel_rfl) (by kernel_rfl) ?_
  simp only [List.take_succ_cons, List.take_zero, List.drop_succ_cons, List.drop_zero]
  repeat (go_big_quiet_step (fail))
  refine wpQuiet_nil ?_
  rintro _ ⟨nq, rfl⟩
  go_wp2
  rw [rounds_succ]
  go_wp2
  refine region_headq 13 (by kernel_rfl) (by kernel_rfl) ?_
  simp only [List.take_succ_cons, List.take_zero, List.drop_succ_cons, List.drop_zero]
  repeat (go_big_quiet_step (fail))
  refine wpQuiet_nil ?_
  rintro _ ⟨nq, rfl⟩
  go_wp2
  rw [rounds_succ]
  go_wp2
  refine region_headq 13 (by kernel_rfl) (by kernel_rfl) ?_
  simp only [List.take_succ_cons, List.take_zero, List.drop_succ_cons, List.drop_zero]
  repeat (go_big_quiet_step (fail))
  refine wpQuiet_nil ?_
  rintro _ ⟨nq, rfl⟩
  go_wp2
  rw [rounds_succ]
  go_wp2
  refine region_headq 13 (by kernel_rfl) (by kernel_rfl) ?_
  simp only [List.take_succ_cons, List.take_zero, List.drop_succ_cons, List.drop_zero]
  repeat (go_big_quiet_step (fail))
  refine wpQuiet_nil ?_
  rintro _ ⟨nq, rfl⟩
  go_wp2
  rw [rounds_succ]
  go_wp2
  refine region_headq 13 (by kernel_rfl) (by kernel_rfl) ?_
  simp only [List.take_succ_cons, List.take_zero, List.drop_succ_cons, List.drop_zero]
  repeat (go_big_quiet_step (fail))
  refine wpQuiet_nil ?_
  rintro _ ⟨nq, rfl⟩
  go_wp2
  rw [rounds_succ]
  go_wp2
  refine bodyPost_ret (v := .agg #[.int .i64 p00, .int .i64 p10, .int .i64 p20, .int .i64 p01, .int .i64 p11, .int .i64 p21, .int .i64 p02, .int .i64 p12, .int .i64 p22]) (by simp [results, Try.results78, go_sem, wrap_add_l, wrap_add_r, wrap_sub_l, wrap_sub_r, wrap_mul_l, wrap_mul_r, wrap_neg, wrap_wrap, wrap3, *]) rfl ⟨rfl, ?_⟩
  repeat (first | exact Below.refl _ _ | assumption | exact Below.alloc (Below.refl _ _) (Nat.le_refl _) _ | refine Below.setCell ?_ (by first | (simp; done) | (simp; omega) | omega) _ | refine below_drewN ?_ _ | refine Below.alloc ?_ (by first | (simp; done) | (simp; omega) | omega) _ | refine Below.trans ?_ (Below.mono (by assumption) (by first | (simp; done) | (simp; omega) | omega)))

set_option maxHeartbeats 6400000 in
set_option maxRecDepth 100000 in
theorem rmul_any (a00 a01 a02 a10 a11 a12 a20 a21 a22 b00 b01 b02 b10 b11 b12 b20 b21 b22 : Int) (w : World) :
    Calls Try.prog 45 #[.agg #[.int .i64 a00, .int .i64 a01, .int .i64 a02, .int .i64 a10, .int .i64 a11, .int .i64 a12, .int .i64 a20, .int .i64 a21, .int .i64 a22], .agg #[.int .i64 b00, .int .i64 b01, .int .i64 b02, .int .i64 b10, .int .i64 b11, .int .i64 b12, .int .i64 b20, .int .i64 b21, .int .i64 b22]] w fun e w' => e = .returned (.agg #[.int .i64 (wrap64 (a00 * b00 + a01 * b10 + a02 * b20)), .int .i64 (wrap64 (a00 * b01 + a01 * b11 + a02 * b21)), .int .i64 (wrap64 (a00 * b02 + a01 * b12 + a02 * b22)), .int .i64 (wrap64 (a10 * b00 + a11 * b10 + a12 * b20)), .int .i64 (wrap64 (a10 * b01 + a11 * b11 + a12 * b21)), .int .i64 (wrap64 (a10 * b02 + a11 * b12 + a12 * b22)), .int .i64 (wrap64 (a20 * b00 + a21 * b10 + a22 * b20)), .int .i64 (wrap64 (a20 * b01 + a21 * b11 + a22 * b21)), .int .i64 (wrap64 (a20 * b02 + a21 * b12 + a22 * b22))]) ∧ Below w.heap.size w w' := by
  go_enter Try.func45, Try.ntmps45
  go_wp2
  refine wp_loop_rounds 28 ?_
  rw [rounds_succ]
  go_wp2
  refine region_headq 19 (by kernel_rfl) (by kernel_rfl) ?_
  simp only [List.take_succ_cons, List.take_zero, List.drop_succ_cons, List.drop_zero]
  repeat (go_big_quiet_step (fail))
  refine wpQuiet_nil ?_
  rintro _ ⟨nq, rfl⟩
  go_wp2
  rw [rounds_succ]
  go_wp2
  refine region_headq 19 (by kernel_rfl) (by kernel_rfl) ?_
  simp only [List.take_succ_cons, List.take_zero, List.drop_succ_cons, List.drop_zero]
  repeat (go_big_quiet_step (fail))
  refine wpQuiet_nil ?_
  rintro _ ⟨nq, rfl⟩
  go_wp2
  rw [rounds_succ]
  go_wp2
  refine region_headq 19 (by kernel_rfl) (by kernel_rfl) ?_
  simp only [List.take_succ_cons, List.take_zero, List.drop_succ_cons, List.drop_zero]
  repeat (go_big_quiet_step (fail))
  refine wpQuiet_nil ?_
  rintro _ ⟨nq, rfl⟩
  go_wp2
  rw [rounds_succ]
  go_wp2
  refine region_headq 19 (by kernel_rfl) (by kernel_rfl) ?_
  simp only [List.take_succ_cons, List.take_zero, List.drop_succ_cons, List.drop_zero]
  repeat (go_big_quiet_step (fail))
  refine wpQuiet_nil ?_
  rintro _ ⟨nq, rfl⟩
  go_wp2
  rw [rounds_succ]
  go_wp2
  refine region_headq 19 (by kernel_rfl) (by kernel_rfl) ?_
  simp only [List.take_succ_cons, List.take_zero, List.drop_succ_cons, List.drop_zero]
  repeat (go_big_quiet_step (fail))
  refine wpQuiet_nil ?_
  rintro _ ⟨nq, rfl⟩
  go_wp2
  rw [rounds_succ]
  go_wp2
  refine region_headq 19 (by kernel_rfl) (by kernel_rfl) ?_
  simp only [List.take_succ_cons, List.take_zero, List.drop_succ_cons, List.drop_zero]
  repeat (go_big_quiet_step (fail))
  refine wpQuiet_nil ?_
  rintro _ ⟨nq, rfl⟩
  go_wp2
  rw [rounds_succ]
  go_wp2
  refine region_headq 19 (by kernel_rfl) (by kernel_rfl) ?_
  simp only [List.take_succ_cons, List.take_zero, List.drop_succ_cons, List.drop_zero]
  repeat (go_big_quiet_step (fail))
  refine wpQuiet_nil ?_
  rintro _ ⟨nq, rfl⟩
  go_wp2
  rw [rounds_succ]
  go_wp2
  refine region_headq 19 (by kernel_rfl) (by kernel_rfl) ?_
  simp only [List.take_succ_cons, List.take_zero, List.drop_succ_cons, List.drop_zero]
  repeat (go_big_quiet_step (fail))
  refine wpQuiet_nil ?_
  rintro _ ⟨nq, rfl⟩
  go_wp2
  rw [rounds_succ]
  go_wp2
  refine region_headq 19 (by kernel_rfl) (by kernel_rfl) ?_
  simp only [List.take_succ_cons, List.take_zero, List.drop_succ_cons, List.drop_zero]
  repeat (go_big_quiet_step (fail))
  refine wpQuiet_nil ?_
  rintro _ ⟨nq, rfl⟩
  go_wp2
  rw [rounds_succ]
  go_wp2
  refine region_headq 19 (by kernel_rfl) (by kernel_rfl) ?_
  simp only [List.take_succ_cons, List.take_zero, List.drop_succ_cons, List.drop_zero]
  repeat (go_big_quiet_step (fail))
  refine wpQuiet_nil ?_
  rintro _ ⟨nq, rfl⟩
  go_wp2
  rw [rounds_succ]
  go_wp2
  refine region_headq 19 (by kernel_rfl) (by kernel_rfl) ?_
  simp only [List.take_succ_cons, List.take_zero, List.drop_succ_cons, List.drop_zero]
  repeat (go_big_quiet_step (fail))
  refine wpQuiet_nil ?_
  rintro _ ⟨nq, rfl⟩
  go_wp2
  rw [rounds_succ]
  go_wp2
  refine region_headq 19 (by kernel_rfl) (by kernel_rfl) ?_
  simp only [List.take_succ_cons, List.take_zero, List.drop_succ_cons, List.drop_zero]
  repeat (go_big_quiet_step (fail))
  refine wpQuiet_nil ?_
  rintro _ ⟨nq, rfl⟩
  go_wp2
  rw [rounds_succ]
  go_wp2
  refine region_headq 19 (by kernel_rfl) (by kernel_rfl) ?_
  simp only [List.take_succ_cons, List.take_zero, List.drop_succ_cons, List.drop_zero]
  repeat (go_big_quiet_step (fail))
  refine wpQuiet_nil ?_
  rintro _ ⟨nq, rfl⟩
  go_wp2
  rw [rounds_succ]
  go_wp2
  refine region_headq 19 (by kernel_rfl) (by kernel_rfl) ?_
  simp only [List.take_succ_cons, List.take_zero, List.drop_succ_cons, List.drop_zero]
  repeat (go_big_quiet_step (fail))
  refine wpQuiet_nil ?_
  rintro _ ⟨nq, rfl⟩
  go_wp2
  rw [rounds_succ]
  go_wp2
  refine region_headq 19 (by kernel_rfl) (by kernel_rfl) ?_
  simp only [List.take_succ_cons, List.take_zero, List.drop_succ_cons, List.drop_zero]
  repeat (go_big_quiet_step (fail))
  refine wpQuiet_nil ?_
  rintro _ ⟨nq, rfl⟩
  go_wp2
  rw [rounds_succ]
  go_wp2
  refine region_headq 19 (by kernel_rfl) (by kernel_rfl) ?_
  simp only [List.take_succ_cons, List.take_zero, List.drop_succ_cons, List.drop_zero]
  repeat (go_big_quiet_step (fail))
  refine wpQuiet_nil ?_
  rintro _ ⟨nq, rfl⟩
  go_wp2
  rw [rounds_succ]
  go_wp2
  refine region_headq 19 (by kernel_rfl) (by kernel_rfl) ?_
  simp only [List.take_succ_cons, List.take_zero, List.drop_succ_cons, List.drop_zero]
  repeat (go_big_quiet_step (fail))
  refine wpQuiet_nil ?_
  rintro _ ⟨nq, rfl⟩
  go_wp2
  rw [rounds_succ]
  go_wp2
  refine region_headq 19 (by kernel_rfl) (by kernel_rfl) ?_
  simp only [List.take_succ_cons, List.take_zero, List.drop_succ_cons, List.drop_zero]
  repeat (go_big_quiet_step (fail))
  refine wpQuiet_nil ?_
  rintro _ ⟨nq, rfl⟩
  go_wp2
  rw [rounds_succ]
  go_wp2
  refine region_headq 19 (by kernel_rfl) (by kernel_rfl) ?_
  simp only [List.take_succ_cons, List.take_zero, List.drop_succ_cons, List.drop_zero]
  repeat (go_big_quiet_step (fail))
  refine wpQuiet_nil ?_
  rintro _ ⟨nq, rfl⟩
  go_wp2
  rw [rounds_succ]
  go_wp2
  refine region_headq 19 (by kernel_rfl) (by kernel_rfl) ?_
  simp only [List.take_succ_cons, List.take_zero, List.drop_succ_cons, List.drop_zero]
  repeat (go_big_quiet_step (fail))
  refine wpQuiet_nil ?_
  rintro _ ⟨nq, rfl⟩
  go_wp2
  rw [rounds_succ]
  go_wp2
  refine region_headq 19 (by kernel_rfl) (by kernel_rfl) ?_
  simp only [List.take_succ_cons, List.take_zero, List.drop_succ_cons, List.drop_zero]
  repeat (go_big_quiet_step (fail))
  refine wpQuiet_nil ?_
  rintro _ ⟨nq, rfl⟩
  go_wp2
  rw [rounds_succ]
  go_wp2
  refine region_headq 19 (by kernel_rfl) (by kernel_rfl) ?_
  simp only [List.take_succ_cons, List.take_zero, List.drop_succ_cons, List.drop_zero]
  repeat (go_big_quiet_step (fail))
  refine wpQuiet_nil ?_
  rintro _ ⟨nq, rfl⟩
  go_wp2
  rw [rounds_succ]
  go_wp2
  refine region_headq 19 (by kernel_rfl) (by kernel_rfl) ?_
  simp only [List.take_succ_cons, List.take_zero, List.drop_succ_cons, List.drop_zero]
  repeat (go_big_quiet_step (fail))
  refine wpQuiet_nil ?_
  rintro _ ⟨nq, rfl⟩
  go_wp2
  rw [rounds_succ]
  go_wp2
  refine region_headq 19 (by kernel_rfl) (by kernel_rfl) ?_
  simp only [List.take_succ_cons, List.take_zero, List.drop_succ_cons, List.drop_zero]
  repeat (go_big_quiet_step (fail))
  refine wpQuiet_nil ?_
  rintro _ ⟨nq, rfl⟩
  go_wp2
  rw [rounds_succ]
  go_wp2
  refine region_headq 19 (by kernel_rfl) (by kernel_rfl) ?_
  simp only [List.take_succ_cons, List.take_zero, List.drop_succ_cons, List.drop_zero]
  repeat (go_big_quiet_step (fail))
  refine wpQuiet_nil ?_
  rintro _ ⟨nq, rfl⟩
  go_wp2
  rw [rounds_succ]
  go_wp2
  refine region_headq 19 (by kernel_rfl) (by kernel_rfl) ?_
  simp only [List.take_succ_cons, List.take_zero, List.drop_succ_cons, List.drop_zero]
  repeat (go_big_quiet_step (fail))
  refine wpQuiet_nil ?_
  rintro _ ⟨nq, rfl⟩
  go_wp2
  rw [rounds_succ]
  go_wp2
  refine region_headq 19 (by kernel_rfl) (by kernel_rfl) ?_
  simp only [List.take_succ_cons, List.take_zero, List.drop_succ_cons, List.drop_zero]
  repeat (go_big_quiet_step (fail))
  refine wpQuiet_nil ?_
  rintro _ ⟨nq, rfl⟩
  go_wp2
  rw [rounds_succ]
  go_wp2
  refine bodyPost_ret (v := .agg #[.int .i64 (wrap64 (a00 * b00 + a01 * b10 + a02 * b20)), .int .i64 (wrap64 (a00 * b01 + a01 * b11 + a02 * b21)), .int .i64 (wrap64 (a00 * b02 + a01 * b12 + a02 * b22)), .int .i64 (wrap64 (a10 * b00 + a11 * b10 + a12 * b20)), .int .i64 (wrap64 (a10 * b01 + a11 * b11 + a12 * b21)), .int .i64 (wrap64 (a10 * b02 + a11 * b12 + a12 * b22)), .int .i64 (wrap64 (a20 * b00 + a21 * b10 + a22 * b20)), .int .i64 (wrap64 (a20 * b01 + a21 * b11 + a22 * b21)), .int .i64 (wrap64 (a20 * b02 + a21 * b12 + a22 * b22))]) (by simp [results, Try.results45, go_sem, wrap_add_l, wrap_add_r, wrap_sub_l, wrap_sub_r, wrap_mul_l, wrap_mul_r, wrap_neg, wrap_wrap, wrap3, *]) rfl ⟨rfl, ?_⟩
  repeat (first | exact Below.refl _ _ | assumption | exact Below.alloc (Below.refl _ _) (Nat.le_refl _) _ | refine Below.setCell ?_ (by first | (simp; done) | (simp; omega) | omega) _ | refine below_drewN ?_ _ | refine Below.alloc ?_ (by first | (simp; done) | (simp; omega) | omega) _ | refine Below.trans ?_ (Below.mono (by assumption) (by first | (simp; done) | (simp; omega) | omega)))

theorem wrap3r (x y z a b c : Int) : wrap64 (a * wrap64 x + b * wrap64 y + c * wrap64 z) = wrap64 (a * x + b * y + c * z) := by
  rw [Int.mul_comm a, Int.mul_comm b, Int.mul_comm c, wrap3, Int.mul_comm x, Int.mul_comm y, Int.mul_comm z]
theorem rt_same (aa bb cc bc ac ab p00 p01 p02 p10 p11 p12 p20 p21 p22 : Int) : Value.agg #[.int .i64 (wrap64 (p00 * (wrap64 (aa * p00 + ab * p10 + ac * p20)) + p10 * (wrap64 (ab * p00 + bb * p10 + bc * p20)) + p20 * (wrap64 (ac * p00 + bc * p10 + cc * p20)))), .int .i64 (wrap64 (p01 * (wrap64 (aa * p01 + ab * p11 + ac * p21)) + p11 * (wrap64 (ab * p01 + bb * p11 + bc * p21)) + p21 * (wrap64 (ac * p01 + bc * p11 + cc * p21)))), .int .i64 (wrap64 (p02 * (wrap64 (aa * p02 + ab * p12 + ac * p22)) + p12 * (wrap64 (ab * p02 + bb * p12 + bc * p22)) + p22 * (wrap64 (ac * p02 + bc * p12 + cc * p22)))), .int .i64 (wrap64 (p01 * (wrap64 (aa * p02 + ab * p12 + ac * p22)) + p11 * (wrap64 (ab * p02 + bb * p12 + bc * p22)) + p21 * (wrap64 (ac * p02 + bc * p12 + cc * p22)))), .int .i64 (wrap64 (p00 * (wrap64 (aa * p02 + ab * p12 + ac * p22)) + p10 * (wrap64 (ab * p02 + bb * p12 + bc * p22)) + p20 * (wrap64 (ac * p02 + bc * p12 + cc * p22)))), .int .i64 (wrap64 (p00 * (wrap64 (aa * p01 + ab * p11 + ac * p21)) + p10 * (wrap64 (ab * p01 + bb * p11 + bc * p21)) + p20 * (wrap64 (ac * p01 + bc * p11 + cc * p21))))] = .agg #[.int .i64 (wrap64 ((p00 * aa + p10 * ab + p20 * ac) * p00 + (p00 * ab + p10 * bb + p20 * bc) * p10 + (p00 * ac + p10 * bc + p20 * cc) * p20)), .int .i64 (wrap64 ((p01 * aa + p11 * ab + p21 * ac) * p01 + (p01 * ab + p11 * bb + p21 * bc) * p11 + (p01 * ac + p11 * bc + p21 * cc) * p21)), .int .i64 (wrap64 ((p02 * aa + p12 * ab + p22 * ac) * p02 + (p02 * ab + p12 * bb + p22 * bc) * p12 + (p02 * ac + p12 * bc + p22 * cc) * p22)), .int .i64 (wrap64 ((p01 * aa + p11 * ab + p21 * ac) * p02 + (p01 * ab + p11 * bb + p21 * bc) * p12 + (p01 * ac + p11 * bc + p21 * cc) * p22)), .int .i64 (wrap64 ((p00 * aa + p10 * ab + p20 * ac) * p02 + (p00 * ab + p10 * bb + p20 * bc) * p12 + (p00 * ac + p10 * bc + p20 * cc) * p22)), .int .i64 (wrap64 ((p00 * aa + p10 * ab + p20 * ac) * p01 + (p00 * ab + p10 * bb + p20 * bc) * p11 + (p00 * ac + p10 * bc + p20 * cc) * p21))] := met_v (by rw [wrap3r]; congr 1; grind) (by rw [wrap3r]; congr 1; grind) (by rw [wrap3r]; congr 1; grind) (by rw [wrap3r]; congr 1; grind) (by rw [wrap3r]; congr 1; grind) (by rw [wrap3r]; congr 1; grind)
end Go.Proofs.Ytdhlkhockpblhaa
