/-
  One step of the program, pair by pair, the rest.
-/
import Derived.Test.YtdhlkhockpblhaaRedE
namespace Go.Proofs.Ytdhlkhockpblhaa
open Go.RowKit
attribute [local irreducible] World.setCell

set_option linter.unusedSimpArgs false
set_option linter.unusedVariables false

set_option maxHeartbeats 6400000 in
set_option maxRecDepth 100000 in
theorem step_1 (aa bb cc bc ac ab : Int) (w : World) (h0 : wrap64 (bc) ≤ 0) (h1 : 0 < wrap64 (ac)):
    Calls Try.prog 38 #[.agg #[.int .i64 aa, .int .i64 bb, .int .i64 cc, .int .i64 bc, .int .i64 ac, .int .i64 ab]] w fun e w' => e = .returned (.tuple #[.agg #[.int .i64 (-1), .int .i64 1, .int .i64 0, .int .i64 0, .int .i64 1, .int .i64 0, .int .i64 0, .int .i64 0, .int .i64 1], .bool true]) ∧ Below w.heap.size w w' := by
  go_enter Try.func38, Try.ntmps38
  go_wp2
  go_step3
  go_wp2_with fail
  refine (matrix_any _ _ _ _ _ _ _).mono ?_
  rintro e w1 ⟨rfl, hb1⟩
  obtain ⟨hc1, hf1⟩ := bcell hb1
  have hz1 := hb1.size
  try simp at hz1
  have z1_0 : w.heap.size < w1.heap.size := by omega
  have z1_1 : w.heap.size + 1 < w1.heap.size := by omega
  go_wp2_with fail
  refine (edges_any _).mono ?_
  rintro e w2 ⟨rfl, hb2⟩
  obtain ⟨hc2, hf2⟩ := bcell hb2
  have hz2 := hb2.size
  try simp at hz2
  have z2_0 : w.heap.size < w2.heap.size := by omega
  have z2_1 : w.heap.size + 1 < w2.heap.size := by omega
  go_wp2
  go_step3
  go_wp2_with fail
  refine (pairs_any _).mono ?_
  rintro e w3 ⟨rfl, hb3⟩
  obtain ⟨hc3, hf3⟩ := bcell hb3
  have hz3 := hb3.size
  try simp at hz3
  have z3_0 : w.heap.size < w3.heap.size := by omega
  have z3_1 : w.heap.size + 1 < w3.heap.size := by omega
  have z3_2 : w2.heap.size < w3.heap.size := by omega
  have z3_3 : w2.heap.size + 1 < w3.heap.size := by omega
  go_wp2
  refine wp_loop_rounds 7 ?_
  rw [rounds_succ]
  go_wp2
  go_quiet (fail)
  go_wp2
  have zzx0_0 : w.heap.size < w3.heap.size + 1 := by omega
  have zzx0_1 : w.heap.size + 1 < w3.heap.size + 1 := by omega
  have zzx0_2 : w2.heap.size < w3.heap.size + 1 := by omega
  have zzx0_3 : w2.heap.size + 1 < w3.heap.size + 1 := by omega
  have zzx0_4 : w3.heap.size < w3.heap.size + 1 := by omega
  refine region_all (by kernel_rfl) (by kernel_rfl) ?_
  repeat (go_big_quiet_step ((go_at_call 47; exact held_of _ (Nat.le_refl _) (to_v (dt_0 aa bb cc bc ac ab) (dot_any _ _ _ _ _ _ _ _ _ _ _ _ _ _ _ _)))))
  refine wpQuiet_nil ?_
  rintro x0 ⟨⟨w0, hbx0⟩, rfl⟩
  obtain ⟨hcx0, hfx0⟩ := bcell hbx0
  have hzx0 := hbx0.size
  try simp at hzx0
  have zx0_0 : w.heap.size < x0.heap.size := by omega
  have zx0_1 : w.heap.size + 1 < x0.heap.size := by omega
  have zx0_2 : w2.heap.size < x0.heap.size := by omega
  have zx0_3 : w2.heap.size + 1 < x0.heap.size := by omega
  have zx0_4 : w3.heap.size < x0.heap.size := by omega
  go_wp2
  rw [rounds_succ]
  go_wp2
  go_quiet (fail)
  go_wp2
  have zzx1_0 : w.heap.size < x0.heap.size + 1 := by omega
  have zzx1_1 : w.heap.size + 1 < x0.heap.size + 1 := by omega
  have zzx1_2 : w2.heap.size < x0.heap.size + 1 := by omega
  have zzx1_3 : w2.heap.size + 1 < x0.heap.size + 1 := by omega
  have zzx1_4 : w3.heap.size < x0.heap.size + 1 := by omega
  have zzx1_5 : x0.heap.size < x0.heap.size + 1 := by omega
  refine region_all (by kernel_rfl) (by kernel_rfl) ?_
  repeat (go_big_quiet_step ((go_at_call 47; exact held_of _ (Nat.le_refl _) (to_v (dt_1 aa bb cc bc ac ab) (dot_any _ _ _ _ _ _ _ _ _ _ _ _ _ _ _ _)))))
  refine wpQuiet_nil ?_
  rintro x1 ⟨⟨w0, hbx1⟩, rfl⟩
  obtain ⟨hcx1, hfx1⟩ := bcell hbx1
  have hzx1 := hbx1.size
  try simp at hzx1
  have zx1_0 : w.heap.size < x1.heap.size := by omega
  have zx1_1 : w.heap.size + 1 < x1.heap.size := by omega
  have zx1_2 : w2.heap.size < x1.heap.size := by omega
  have zx1_3 : w2.heap.size + 1 < x1.heap.size := by omega
  have zx1_4 : w3.heap.size < x1.heap.size := by omega
  have zx1_5 : x0.heap.size < x1.heap.size := by omega
  go_wp2
  refine wp_loop_rounds 5 ?_
  rw [rounds_succ]
  go_wp2
  refine wp_loop_rounds 4 ?_
  rw [rounds_succ]
  go_wp2
  refine region_headq 8 (by kernel_rfl) (by kernel_rfl) ?_
  simp only [List.take_succ_cons, List.take_zero, List.drop_succ_cons, List.drop_zero]
  repeat (go_big_quiet_step (fail))
  refine wpQuiet_nil ?_
  rintro _ ⟨nq, rfl⟩
  go_wp2
  rw [rounds_succ]
  go_wp2
  refine region_headq 8 (by kernel_rfl) (by kernel_rfl) ?_
  simp only [List.take_succ_cons, List.take_zero, List.drop_succ_cons, List.drop_zero]
  repeat (go_big_quiet_step (fail))
  refine wpQuiet_nil ?_
  rintro _ ⟨nq, rfl⟩
  go_wp2
  rw [rounds_succ]
  go_wp2
  refine region_headq 8 (by kernel_rfl) (by kernel_rfl) ?_
  simp only [List.take_succ_cons, List.take_zero, List.drop_succ_cons, List.drop_zero]
  repeat (go_big_quiet_step (fail))
  refine wpQuiet_nil ?_
  rintro _ ⟨nq, rfl⟩
  go_wp2
  rw [rounds_succ]
  go_wp2
  rw [rounds_succ]
  go_wp2
  refine wp_loop_rounds 4 ?_
  rw [rounds_succ]
  go_wp2
  refine region_headq 11 (by kernel_rfl) (by kernel_rfl) ?_
  simp only [List.take_succ_cons, List.take_zero, List.drop_succ_cons, List.drop_zero]
  repeat (go_big_quiet_step (fail))
  refine wpQuiet_nil ?_
  rintro _ ⟨nq, rfl⟩
  go_wp2
  rw [rounds_succ]
  go_wp2
  refine region_headq 11 (by kernel_rfl) (by kernel_rfl) ?_
  simp only [List.take_succ_cons, List.take_zero, List.drop_succ_cons, List.drop_zero]
  repeat (go_big_quiet_step (fail))
  refine wpQuiet_nil ?_
  rintro _ ⟨nq, rfl⟩
  go_wp2
  rw [rounds_succ]
  go_wp2
  refine region_headq 11 (by kernel_rfl) (by kernel_rfl) ?_
  simp only [List.take_succ_cons, List.take_zero, List.drop_succ_cons, List.drop_zero]
  repeat (go_big_quiet_step (fail))
  refine wpQuiet_nil ?_
  rintro _ ⟨nq, rfl⟩
  go_wp2
  rw [rounds_succ]
  go_wp2
  rw [rounds_succ]
  go_wp2
  refine wp_loop_rounds 4 ?_
  rw [rounds_succ]
  go_wp2
  rw [rounds_succ]
  go_wp2
  rw [rounds_succ]
  go_wp2
  rw [rounds_succ]
  go_wp2
  rw [rounds_succ]
  go_wp2
  refine wp_loop_rounds 4 ?_
  rw [rounds_succ]
  go_wp2
  refine region_headq 11 (by kernel_rfl) (by kernel_rfl) ?_
  simp only [List.take_succ_cons, List.take_zero, List.drop_succ_cons, List.drop_zero]
  repeat (go_big_quiet_step (fail))
  refine wpQuiet_nil ?_
  rintro _ ⟨nq, rfl⟩
  go_wp2
  rw [rounds_succ]
  go_wp2
  refine region_headq 11 (by kernel_rfl) (by kernel_rfl) ?_
  simp only [List.take_succ_cons, List.take_zero, List.drop_succ_cons, List.drop_zero]
  repeat (go_big_quiet_step (fail))
  refine wpQuiet_nil ?_
  rintro _ ⟨nq, rfl⟩
  go_wp2
  rw [rounds_succ]
  go_wp2
  refine region_headq 11 (by kernel_rfl) (by kernel_rfl) ?_
  simp only [List.take_succ_cons, List.take_zero, List.drop_succ_cons, List.drop_zero]
  repeat (go_big_quiet_step (fail))
  refine wpQuiet_nil ?_
  rintro _ ⟨nq, rfl⟩
  go_wp2
  rw [rounds_succ]
  go_wp2
  rw [rounds_succ]
  go_wp2
  refine wp_loop_rounds 4 ?_
  rw [rounds_succ]
  go_wp2
  refine region_headq 15 (by kernel_rfl) (by kernel_rfl) ?_
  simp only [List.take_succ_cons, List.take_zero, List.drop_succ_cons, List.drop_zero]
  repeat (go_big_quiet_step (fail))
  refine wpQuiet_nil ?_
  rintro _ ⟨nq, rfl⟩
  go_wp2
  rw [rounds_succ]
  go_wp2
  refine region_headq 15 (by kernel_rfl) (by kernel_rfl) ?_
  simp only [List.take_succ_cons, List.take_zero, List.drop_succ_cons, List.drop_zero]
  repeat (go_big_quiet_step (fail))
  refine wpQuiet_nil ?_
  rintro _ ⟨nq, rfl⟩
  go_wp2
  rw [rounds_succ]
  go_wp2
  refine region_headq 15 (by kernel_rfl) (by kernel_rfl) ?_
  simp only [List.take_succ_cons, List.take_zero, List.drop_succ_cons, List.drop_zero]
  repeat (go_big_quiet_step (fail))
  refine wpQuiet_nil ?_
  rintro _ ⟨nq, rfl⟩
  go_wp2
  rw [rounds_succ]
  go_wp2
  simp only [Exit.noGoto]
  refine bodyPost_ret (v := .tuple #[.agg #[.int .i64 (-1), .int .i64 1, .int .i64 0, .int .i64 0, .int .i64 1, .int .i64 0, .int .i64 0, .int .i64 0, .int .i64 1], .bool true]) (by simp [results, Try.results38, go_sem, wrap_add_l, wrap_add_r, wrap_sub_l, wrap_sub_r, wrap_mul_l, wrap_mul_r, wrap_neg, wrap_wrap, wrap3, *]) rfl ⟨rfl, ?_⟩
  repeat (first | exact Below.refl _ _ | assumption | exact Below.alloc (Below.refl _ _) (Nat.le_refl _) _ | refine Below.setCell ?_ (by first | (simp; done) | (simp; omega) | omega) _ | refine below_drewN ?_ _ | refine Below.alloc ?_ (by first | (simp; done) | (simp; omega) | omega) _ | refine Below.trans ?_ (Below.mono (by assumption) (by first | (simp; done) | (simp; omega) | omega)))

set_option maxHeartbeats 6400000 in
set_option maxRecDepth 100000 in
theorem step_2 (aa bb cc bc ac ab : Int) (w : World) (h0 : wrap64 (bc) ≤ 0) (h1 : wrap64 (ac) ≤ 0) (h2 : 0 < wrap64 (ab)):
    Calls Try.prog 38 #[.agg #[.int .i64 aa, .int .i64 bb, .int .i64 cc, .int .i64 bc, .int .i64 ac, .int .i64 ab]] w fun e w' => e = .returned (.tuple #[.agg #[.int .i64 (-1), .int .i64 0, .int .i64 1, .int .i64 0, .int .i64 1, .int .i64 0, .int .i64 0, .int .i64 0, .int .i64 1], .bool true]) ∧ Below w.heap.size w w' := by
  go_enter Try.func38, Try.ntmps38
  go_wp2
  go_step3
  go_wp2_with fail
  refine (matrix_any _ _ _ _ _ _ _).mono ?_
  rintro e w1 ⟨rfl, hb1⟩
  obtain ⟨hc1, hf1⟩ := bcell hb1
  have hz1 := hb1.size
  try simp at hz1
  have z1_0 : w.heap.size < w1.heap.size := by omega
  have z1_1 : w.heap.size + 1 < w1.heap.size := by omega
  go_wp2_with fail
  refine (edges_any _).mono ?_
  rintro e w2 ⟨rfl, hb2⟩
  obtain ⟨hc2, hf2⟩ := bcell hb2
  have hz2 := hb2.size
  try simp at hz2
  have z2_0 : w.heap.size < w2.heap.size := by omega
  have z2_1 : w.heap.size + 1 < w2.heap.size := by omega
  go_wp2
  go_step3
  go_wp2_with fail
  refine (pairs_any _).mono ?_
  rintro e w3 ⟨rfl, hb3⟩
  obtain ⟨hc3, hf3⟩ := bcell hb3
  have hz3 := hb3.size
  try simp at hz3
  have z3_0 : w.heap.size < w3.heap.size := by omega
  have z3_1 : w.heap.size + 1 < w3.heap.size := by omega
  have z3_2 : w2.heap.size < w3.heap.size := by omega
  have z3_3 : w2.heap.size + 1 < w3.heap.size := by omega
  go_wp2
  refine wp_loop_rounds 7 ?_
  rw [rounds_succ]
  go_wp2
  go_quiet (fail)
  go_wp2
  have zzx0_0 : w.heap.size < w3.heap.size + 1 := by omega
  have zzx0_1 : w.heap.size + 1 < w3.heap.size + 1 := by omega
  have zzx0_2 : w2.heap.size < w3.heap.size + 1 := by omega
  have zzx0_3 : w2.heap.size + 1 < w3.heap.size + 1 := by omega
  have zzx0_4 : w3.heap.size < w3.heap.size + 1 := by omega
  refine region_all (by kernel_rfl) (by kernel_rfl) ?_
  repeat (go_big_quiet_step ((go_at_call 47; exact held_of _ (Nat.le_refl _) (to_v (dt_0 aa bb cc bc ac ab) (dot_any _ _ _ _ _ _ _ _ _ _ _ _ _ _ _ _)))))
  refine wpQuiet_nil ?_
  rintro x0 ⟨⟨w0, hbx0⟩, rfl⟩
  obtain ⟨hcx0, hfx0⟩ := bcell hbx0
  have hzx0 := hbx0.size
  try simp at hzx0
  have zx0_0 : w.heap.size < x0.heap.size := by omega
  have zx0_1 : w.heap.size + 1 < x0.heap.size := by omega
  have zx0_2 : w2.heap.size < x0.heap.size := by omega
  have zx0_3 : w2.heap.size + 1 < x0.heap.size := by omega
  have zx0_4 : w3.heap.size < x0.heap.size := by omega
  go_wp2
  rw [rounds_succ]
  go_wp2
  go_quiet (fail)
  go_wp2
  have zzx1_0 : w.heap.size < x0.heap.size + 1 := by omega
  have zzx1_1 : w.heap.size + 1 < x0.heap.size + 1 := by omega
  have zzx1_2 : w2.heap.size < x0.heap.size + 1 := by omega
  have zzx1_3 : w2.heap.size + 1 < x0.heap.size + 1 := by omega
  have zzx1_4 : w3.heap.size < x0.heap.size + 1 := by omega
  have zzx1_5 : x0.heap.size < x0.heap.size + 1 := by omega
  refine region_all (by kernel_rfl) (by kernel_rfl) ?_
  repeat (go_big_quiet_step ((go_at_call 47; exact held_of _ (Nat.le_refl _) (to_v (dt_1 aa bb cc bc ac ab) (dot_any _ _ _ _ _ _ _ _ _ _ _ _ _ _ _ _)))))
  refine wpQuiet_nil ?_
  rintro x1 ⟨⟨w0, hbx1⟩, rfl⟩
  obtain ⟨hcx1, hfx1⟩ := bcell hbx1
  have hzx1 := hbx1.size
  try simp at hzx1
  have zx1_0 : w.heap.size < x1.heap.size := by omega
  have zx1_1 : w.heap.size + 1 < x1.heap.size := by omega
  have zx1_2 : w2.heap.size < x1.heap.size := by omega
  have zx1_3 : w2.heap.size + 1 < x1.heap.size := by omega
  have zx1_4 : w3.heap.size < x1.heap.size := by omega
  have zx1_5 : x0.heap.size < x1.heap.size := by omega
  go_wp2
  rw [rounds_succ]
  go_wp2
  go_quiet (fail)
  go_wp2
  have zzx2_0 : w.heap.size < x1.heap.size + 1 := by omega
  have zzx2_1 : w.heap.size + 1 < x1.heap.size + 1 := by omega
  have zzx2_2 : w2.heap.size < x1.heap.size + 1 := by omega
  have zzx2_3 : w2.heap.size + 1 < x1.heap.size + 1 := by omega
  have zzx2_4 : w3.heap.size < x1.heap.size + 1 := by omega
  have zzx2_5 : x0.heap.size < x1.heap.size + 1 := by omega
  have zzx2_6 : x1.heap.size < x1.heap.size + 1 := by omega
  refine region_all (by kernel_rfl) (by kernel_rfl) ?_
  repeat (go_big_quiet_step ((go_at_call 47; exact held_of _ (Nat.le_refl _) (to_v (dt_2 aa bb cc bc ac ab) (dot_any _ _ _ _ _ _ _ _ _ _ _ _ _ _ _ _)))))
  refine wpQuiet_nil ?_
  rintro x2 ⟨⟨w0, hbx2⟩, rfl⟩
  obtain ⟨hcx2, hfx2⟩ := bcell hbx2
  have hzx2 := hbx2.size
  try simp at hzx2
  have zx2_0 : w.heap.size < x2.heap.size := by omega
  have zx2_1 : w.heap.size + 1 < x2.heap.size := by omega
  have zx2_2 : w2.heap.size < x2.heap.size := by omega
  have zx2_3 : w2.heap.size + 1 < x2.heap.size := by omega
  have zx2_4 : w3.heap.size < x2.heap.size := by omega
  have zx2_5 : x0.heap.size < x2.heap.size := by omega
  have zx2_6 : x1.heap.size < x2.heap.size := by omega
  go_wp2
  refine wp_loop_rounds 5 ?_
  rw [rounds_succ]
  go_wp2
  refine wp_loop_rounds 4 ?_
  rw [rounds_succ]
  go_wp2
  refine region_headq 8 (by kernel_rfl) (by kernel_rfl) ?_
  simp only [List.take_succ_cons, List.take_zero, List.drop_succ_cons, List.drop_zero]
  repeat (go_big_quiet_step (fail))
  refine wpQuiet_nil ?_
  rintro _ ⟨nq, rfl⟩
  go_wp2
  rw [rounds_succ]
  go_wp2
  refine region_headq 8 (by kernel_rfl) (by kernel_rfl) ?_
  simp only [List.take_succ_cons, List.take_zero, List.drop_succ_cons, List.drop_zero]
  repeat (go_big_quiet_step (fail))
  refine wpQuiet_nil ?_
  rintro _ ⟨nq, rfl⟩
  go_wp2
  rw [rounds_succ]
  go_wp2
  refine region_headq 8 (by kernel_rfl) (by kernel_rfl) ?_
  simp only [List.take_succ_cons, List.take_zero, List.drop_succ_cons, List.drop_zero]
  repeat (go_big_quiet_step (fail))
  refine wpQuiet_nil ?_
  rintro _ ⟨nq, rfl⟩
  go_wp2
  rw [rounds_succ]
  go_wp2
  rw [rounds_succ]
  go_wp2
  refine wp_loop_rounds 4 ?_
  rw [rounds_succ]
  go_wp2
  rw [rounds_succ]
  go_wp2
  rw [rounds_succ]
  go_wp2
  rw [rounds_succ]
  go_wp2
  rw [rounds_succ]
  go_wp2
  refine wp_loop_rounds 4 ?_
  rw [rounds_succ]
  go_wp2
  refine region_headq 11 (by kernel_rfl) (by kernel_rfl) ?_
  simp only [List.take_succ_cons, List.take_zero, List.drop_succ_cons, List.drop_zero]
  repeat (go_big_quiet_step (fail))
  refine wpQuiet_nil ?_
  rintro _ ⟨nq, rfl⟩
  go_wp2
  rw [rounds_succ]
  go_wp2
  refine region_headq 11 (by kernel_rfl) (by kernel_rfl) ?_
  simp only [List.take_succ_cons, List.take_zero, List.drop_succ_cons, List.drop_zero]
  repeat (go_big_quiet_step (fail))
  refine wpQuiet_nil ?_
  rintro _ ⟨nq, rfl⟩
  go_wp2
  rw [rounds_succ]
  go_wp2
  refine region_headq 11 (by kernel_rfl) (by kernel_rfl) ?_
  simp only [List.take_succ_cons, List.take_zero, List.drop_succ_cons, List.drop_zero]
  repeat (go_big_quiet_step (fail))
  refine wpQuiet_nil ?_
  rintro _ ⟨nq, rfl⟩
  go_wp2
  rw [rounds_succ]
  go_wp2
  rw [rounds_succ]
  go_wp2
  refine wp_loop_rounds 4 ?_
  rw [rounds_succ]
  go_wp2
  refine region_headq 11 (by kernel_rfl) (by kernel_rfl) ?_
  simp only [List.take_succ_cons, List.take_zero, List.drop_succ_cons, List.drop_zero]
  repeat (go_big_quiet_step (fail))
  refine wpQuiet_nil ?_
  rintro _ ⟨nq, rfl⟩
  go_wp2
  rw [rounds_succ]
  go_wp2
  refine region_headq 11 (by kernel_rfl) (by kernel_rfl) ?_
  simp only [List.take_succ_cons, List.take_zero, List.drop_succ_cons, List.drop_zero]
  repeat (go_big_quiet_step (fail))
  refine wpQuiet_nil ?_
  rintro _ ⟨nq, rfl⟩
  go_wp2
  rw [rounds_succ]
  go_wp2
  refine region_headq 11 (by kernel_rfl) (by kernel_rfl) ?_
  simp only [List.take_succ_cons, List.take_zero, List.drop_succ_cons, List.drop_zero]
  repeat (go_big_quiet_step (fail))
  refine wpQuiet_nil ?_
  rintro _ ⟨nq, rfl⟩
  go_wp2
  rw [rounds_succ]
  go_wp2
  rw [rounds_succ]
  go_wp2
  refine wp_loop_rounds 4 ?_
  rw [rounds_succ]
  go_wp2
  refine region_headq 15 (by kernel_rfl) (by kernel_rfl) ?_
  simp only [List.take_succ_cons, List.take_zero, List.drop_succ_cons, List.drop_zero]
  repeat (go_big_quiet_step (fail))
  refine wpQuiet_nil ?_
  rintro _ ⟨nq, rfl⟩
  go_wp2
  rw [rounds_succ]
  go_wp2
  refine region_headq 15 (by kernel_rfl) (by kernel_rfl) ?_
  simp only [List.take_succ_cons, List.take_zero, List.drop_succ_cons, List.drop_zero]
  repeat (go_big_quiet_step (fail))
  refine wpQuiet_nil ?_
  rintro _ ⟨nq, rfl⟩
  go_wp2
  rw [rounds_succ]
  go_wp2
  refine region_headq 15 (by kernel_rfl) (by kernel_rfl) ?_
  simp only [List.take_succ_cons, List.take_zero, List.drop_succ_cons, List.drop_zero]
  repeat (go_big_quiet_step (fail))
  refine wpQuiet_nil ?_
  rintro _ ⟨nq, rfl⟩
  go_wp2
  rw [rounds_succ]
  go_wp2
  simp only [Exit.noGoto]
  refine bodyPost_ret (v := .tuple #[.agg #[.int .i64 (-1), .int .i64 0, .int .i64 1, .int .i64 0, .int .i64 1, .int .i64 0, .int .i64 0, .int .i64 0, .int .i64 1], .bool true]) (by simp [results, Try.results38, go_sem, wrap_add_l, wrap_add_r, wrap_sub_l, wrap_sub_r, wrap_mul_l, wrap_mul_r, wrap_neg, wrap_wrap, wrap3, *]) rfl ⟨rfl, ?_⟩
  repeat (first | exact Below.refl _ _ | assumption | exact Below.alloc (Below.refl _ _) (Nat.le_refl _) _ | refine Below.setCell ?_ (by first | (simp; done) | (simp; omega) | omega) _ | refine below_drewN ?_ _ | refine Below.alloc ?_ (by first | (simp; done) | (simp; omega) | omega) _ | refine Below.trans ?_ (Below.mono (by assumption) (by first | (simp; done) | (simp; omega) | omega)))

set_option maxHeartbeats 6400000 in
set_option maxRecDepth 100000 in
theorem step_3 (aa bb cc bc ac ab : Int) (w : World) (h0 : wrap64 (bc) ≤ 0) (h1 : wrap64 (ac) ≤ 0) (h2 : wrap64 (ab) ≤ 0) (h3 : 0 < wrap64 (-aa - ab - ac)):
    Calls Try.prog 38 #[.agg #[.int .i64 aa, .int .i64 bb, .int .i64 cc, .int .i64 bc, .int .i64 ac, .int .i64 ab]] w fun e w' => e = .returned (.tuple #[.agg #[.int .i64 (-1), .int .i64 1, .int .i64 1, .int .i64 0, .int .i64 1, .int .i64 0, .int .i64 0, .int .i64 0, .int .i64 1], .bool true]) ∧ Below w.heap.size w w' := by
  go_enter Try.func38, Try.ntmps38
  go_wp2
  go_step3
  go_wp2_with fail
  refine (matrix_any _ _ _ _ _ _ _).mono ?_
  rintro e w1 ⟨rfl, hb1⟩
  obtain ⟨hc1, hf1⟩ := bcell hb1
  have hz1 := hb1.size
  try simp at hz1
  have z1_0 : w.heap.size < w1.heap.size := by omega
  have z1_1 : w.heap.size + 1 < w1.heap.size := by omega
  go_wp2_with fail
  refine (edges_any _).mono ?_
  rintro e w2 ⟨rfl, hb2⟩
  obtain ⟨hc2, hf2⟩ := bcell hb2
  have hz2 := hb2.size
  try simp at hz2
  have z2_0 : w.heap.size < w2.heap.size := by omega
  have z2_1 : w.heap.size + 1 < w2.heap.size := by omega
  go_wp2
  go_step3
  go_wp2_with fail
  refine (pairs_any _).mono ?_
  rintro e w3 ⟨rfl, hb3⟩
  obtain ⟨hc3, hf3⟩ := bcell hb3
  have hz3 := hb3.size
  try simp at hz3
  have z3_0 : w.heap.size < w3.heap.size := by omega
  have z3_1 : w.heap.size + 1 < w3.heap.size := by omega
  have z3_2 : w2.heap.size < w3.heap.size := by omega
  have z3_3 : w2.heap.size + 1 < w3.heap.size := by omega
  go_wp2
  refine wp_loop_rounds 7 ?_
  rw [rounds_succ]
  go_wp2
  go_quiet (fail)
  go_wp2
  have zzx0_0 : w.heap.size < w3.heap.size + 1 := by omega
  have zzx0_1 : w.heap.size + 1 < w3.heap.size + 1 := by omega
  have zzx0_2 : w2.heap.size < w3.heap.size + 1 := by omega
  have zzx0_3 : w2.heap.size + 1 < w3.heap.size + 1 := by omega
  have zzx0_4 : w3.heap.size < w3.heap.size + 1 := by omega
  refine region_all (by kernel_rfl) (by kernel_rfl) ?_
  repeat (go_big_quiet_step ((go_at_call 47; exact held_of _ (Nat.le_refl _) (to_v (dt_0 aa bb cc bc ac ab) (dot_any _ _ _ _ _ _ _ _ _ _ _ _ _ _ _ _)))))
  refine wpQuiet_nil ?_
  rintro x0 ⟨⟨w0, hbx0⟩, rfl⟩
  obtain ⟨hcx0, hfx0⟩ := bcell hbx0
  have hzx0 := hbx0.size
  try simp at hzx0
  have zx0_0 : w.heap.size < x0.heap.size := by omega
  have zx0_1 : w.heap.size + 1 < x0.heap.size := by omega
  have zx0_2 : w2.heap.size < x0.heap.size := by omega
  have zx0_3 : w2.heap.size + 1 < x0.heap.size := by omega
  have zx0_4 : w3.heap.size < x0.heap.size := by omega
  go_wp2
  rw [rounds_succ]
  go_wp2
  go_quiet (fail)
  go_wp2
  have zzx1_0 : w.heap.size < x0.heap.size + 1 := by omega
  have zzx1_1 : w.heap.size + 1 < x0.heap.size + 1 := by omega
  have zzx1_2 : w2.heap.size < x0.heap.size + 1 := by omega
  have zzx1_3 : w2.heap.size + 1 < x0.heap.size + 1 := by omega
  have zzx1_4 : w3.heap.size < x0.heap.size + 1 := by omega
  have zzx1_5 : x0.heap.size < x0.heap.size + 1 := by omega
  refine region_all (by kernel_rfl) (by kernel_rfl) ?_
  repeat (go_big_quiet_step ((go_at_call 47; exact held_of _ (Nat.le_refl _) (to_v (dt_1 aa bb cc bc ac ab) (dot_any _ _ _ _ _ _ _ _ _ _ _ _ _ _ _ _)))))
  refine wpQuiet_nil ?_
  rintro x1 ⟨⟨w0, hbx1⟩, rfl⟩
  obtain ⟨hcx1, hfx1⟩ := bcell hbx1
  have hzx1 := hbx1.size
  try simp at hzx1
  have zx1_0 : w.heap.size < x1.heap.size := by omega
  have zx1_1 : w.heap.size + 1 < x1.heap.size := by omega
  have zx1_2 : w2.heap.size < x1.heap.size := by omega
  have zx1_3 : w2.heap.size + 1 < x1.heap.size := by omega
  have zx1_4 : w3.heap.size < x1.heap.size := by omega
  have zx1_5 : x0.heap.size < x1.heap.size := by omega
  go_wp2
  rw [rounds_succ]
  go_wp2
  go_quiet (fail)
  go_wp2
  have zzx2_0 : w.heap.size < x1.heap.size + 1 := by omega
  have zzx2_1 : w.heap.size + 1 < x1.heap.size + 1 := by omega
  have zzx2_2 : w2.heap.size < x1.heap.size + 1 := by omega
  have zzx2_3 : w2.heap.size + 1 < x1.heap.size + 1 := by omega
  have zzx2_4 : w3.heap.size < x1.heap.size + 1 := by omega
  have zzx2_5 : x0.heap.size < x1.heap.size + 1 := by omega
  have zzx2_6 : x1.heap.size < x1.heap.size + 1 := by omega
  refine region_all (by kernel_rfl) (by kernel_rfl) ?_
  repeat (go_big_quiet_step ((go_at_call 47; exact held_of _ (Nat.le_refl _) (to_v (dt_2 aa bb cc bc ac ab) (dot_any _ _ _ _ _ _ _ _ _ _ _ _ _ _ _ _)))))
  refine wpQuiet_nil ?_
  rintro x2 ⟨⟨w0, hbx2⟩, rfl⟩
  obtain ⟨hcx2, hfx2⟩ := bcell hbx2
  have hzx2 := hbx2.size
  try simp at hzx2
  have zx2_0 : w.heap.size < x2.heap.size := by omega
  have zx2_1 : w.heap.size + 1 < x2.heap.size := by omega
  have zx2_2 : w2.heap.size < x2.heap.size := by omega
  have zx2_3 : w2.heap.size + 1 < x2.heap.size := by omega
  have zx2_4 : w3.heap.size < x2.heap.size := by omega
  have zx2_5 : x0.heap.size < x2.heap.size := by omega
  have zx2_6 : x1.heap.size < x2.heap.size := by omega
  go_wp2
  rw [rounds_succ]
  go_wp2
  go_quiet (fail)
  go_wp2
  have zzx3_0 : w.heap.size < x2.heap.size + 1 := by omega
  have zzx3_1 : w.heap.size + 1 < x2.heap.size + 1 := by omega
  have zzx3_2 : w2.heap.size < x2.heap.size + 1 := by omega
  have zzx3_3 : w2.heap.size + 1 < x2.heap.size + 1 := by omega
  have zzx3_4 : w3.heap.size < x2.heap.size + 1 := by omega
  have zzx3_5 : x0.heap.size < x2.heap.size + 1 := by omega
  have zzx3_6 : x1.heap.size < x2.heap.size + 1 := by omega
  have zzx3_7 : x2.heap.size < x2.heap.size + 1 := by omega
  refine region_all (by kernel_rfl) (by kernel_rfl) ?_
  repeat (go_big_quiet_step ((go_at_call 47; exact held_of _ (Nat.le_refl _) (to_v (dt_3 aa bb cc bc ac ab) (dot_any _ _ _ _ _ _ _ _ _ _ _ _ _ _ _ _)))))
  refine wpQuiet_nil ?_
  rintro x3 ⟨⟨w0, hbx3⟩, rfl⟩
  obtain ⟨hcx3, hfx3⟩ := bcell hbx3
  have hzx3 := hbx3.size
  try simp at hzx3
  have zx3_0 : w.heap.size < x3.heap.size := by omega
  have zx3_1 : w.heap.size + 1 < x3.heap.size := by omega
  have zx3_2 : w2.heap.size < x3.heap.size := by omega
  have zx3_3 : w2.heap.size + 1 < x3.heap.size := by omega
  have zx3_4 : w3.heap.size < x3.heap.size := by omega
  have zx3_5 : x0.heap.size < x3.heap.size := by omega
  have zx3_6 : x1.heap.size < x3.heap.size := by omega
  have zx3_7 : x2.heap.size < x3.heap.size := by omega
  go_wp2
  refine wp_loop_rounds 5 ?_
  rw [rounds_succ]
  go_wp2
  refine wp_loop_rounds 4 ?_
  rw [rounds_succ]
  go_wp2
  refine region_headq 8 (by kernel_rfl) (by kernel_rfl) ?_
  simp only [List.take_succ_cons, List.take_zero, List.drop_succ_cons, List.drop_zero]
  repeat (go_big_quiet_step (fail))
  refine wpQuiet_nil ?_
  rintro _ ⟨nq, rfl⟩
  go_wp2
  rw [rounds_succ]
  go_wp2
  refine region_headq 8 (by kernel_rfl) (by kernel_rfl) ?_
  simp only [List.take_succ_cons, List.take_zero, List.drop_succ_cons, List.drop_zero]
  repeat (go_big_quiet_step (fail))
  refine wpQuiet_nil ?_
  rintro _ ⟨nq, rfl⟩
  go_wp2
  rw [rounds_succ]
  go_wp2
  refine region_headq 8 (by kernel_rfl) (by kernel_rfl) ?_
  simp only [List.take_succ_cons, List.take_zero, List.drop_succ_cons, List.drop_zero]
  repeat (go_big_quiet_step (fail))
  refine wpQuiet_nil ?_
  rintro _ ⟨nq, rfl⟩
  go_wp2
  rw [rounds_succ]
  go_wp2
  rw [rounds_succ]
  go_wp2
  refine wp_loop_rounds 4 ?_
  rw [rounds_succ]
  go_wp2
  refine region_headq 11 (by kernel_rfl) (by kernel_rfl) ?_
  simp only [List.take_succ_cons, List.take_zero, List.drop_succ_cons, List.drop_zero]
  repeat (go_big_quiet_step (fail))
  refine wpQuiet_nil ?_
  rintro _ ⟨nq, rfl⟩
  go_wp2
  rw [rounds_succ]
  go_wp2
  refine region_headq 11 (by kernel_rfl) (by kernel_rfl) ?_
  simp only [List.take_succ_cons, List.take_zero, List.drop_succ_cons, List.drop_zero]
  repeat (go_big_quiet_step (fail))
  refine wpQuiet_nil ?_
  rintro _ ⟨nq, rfl⟩
  go_wp2
  rw [rounds_succ]
  go_wp2
  refine region_headq 11 (by kernel_rfl) (by kernel_rfl) ?_
  simp only [List.take_succ_cons, List.take_zero, List.drop_succ_cons, List.drop_zero]
  repeat (go_big_quiet_step (fail))
  refine wpQuiet_nil ?_
  rintro _ ⟨nq, rfl⟩
  go_wp2
  rw [rounds_succ]
  go_wp2
  rw [rounds_succ]
  go_wp2
  refine wp_loop_rounds 4 ?_
  rw [rounds_succ]
  go_wp2
  refine region_headq 11 (by kernel_rfl) (by kernel_rfl) ?_
  simp only [List.take_succ_cons, List.take_zero, List.drop_succ_cons, List.drop_zero]
  repeat (go_big_quiet_step (fail))
  refine wpQuiet_nil ?_
  rintro _ ⟨nq, rfl⟩
  go_wp2
  rw [rounds_succ]
  go_wp2
  refine region_headq 11 (by kernel_rfl) (by kernel_rfl) ?_
  simp only [List.take_succ_cons, List.take_zero, List.drop_succ_cons, List.drop_zero]
  repeat (go_big_quiet_step (fail))
  refine wpQuiet_nil ?_
  rintro _ ⟨nq, rfl⟩
  go_wp2
  rw [rounds_succ]
  go_wp2
  refine region_headq 11 (by kernel_rfl) (by kernel_rfl) ?_
  simp only [List.take_succ_cons, List.take_zero, List.drop_succ_cons, List.drop_zero]
  repeat (go_big_quiet_step (fail))
  refine wpQuiet_nil ?_
  rintro _ ⟨nq, rfl⟩
  go_wp2
  rw [rounds_succ]
  go_wp2
  rw [rounds_succ]
  go_wp2
  refine wp_loop_rounds 4 ?_
  rw [rounds_succ]
  go_wp2
  rw [rounds_succ]
  go_wp2
  rw [rounds_succ]
  go_wp2
  rw [rounds_succ]
  go_wp2
  rw [rounds_succ]
  go_wp2
  refine wp_loop_rounds 4 ?_
  rw [rounds_succ]
  go_wp2
  refine region_headq 15 (by kernel_rfl) (by kernel_rfl) ?_
  simp only [List.take_succ_cons, List.take_zero, List.drop_succ_cons, List.drop_zero]
  repeat (go_big_quiet_step (fail))
  refine wpQuiet_nil ?_
  rintro _ ⟨nq, rfl⟩
  go_wp2
  rw [rounds_succ]
  go_wp2
  refine region_headq 15 (by kernel_rfl) (by kernel_rfl) ?_
  simp only [List.take_succ_cons, List.take_zero, List.drop_succ_cons, List.drop_zero]
  repeat (go_big_quiet_step (fail))
  refine wpQuiet_nil ?_
  rintro _ ⟨nq, rfl⟩
  go_wp2
  rw [rounds_succ]
  go_wp2
  refine region_headq 15 (by kernel_rfl) (by kernel_rfl) ?_
  simp only [List.take_succ_cons, List.take_zero, List.drop_succ_cons, List.drop_zero]
  repeat (go_big_quiet_step (fail))
  refine wpQuiet_nil ?_
  rintro _ ⟨nq, rfl⟩
  go_wp2
  rw [rounds_succ]
  go_wp2
  simp only [Exit.noGoto]
  refine bodyPost_ret (v := .tuple #[.agg #[.int .i64 (-1), .int .i64 1, .int .i64 1, .int .i64 0, .int .i64 1, .int .i64 0, .int .i64 0, .int .i64 0, .int .i64 1], .bool true]) (by simp [results, Try.results38, go_sem, wrap_add_l, wrap_add_r, wrap_sub_l, wrap_sub_r, wrap_mul_l, wrap_mul_r, wrap_neg, wrap_wrap, wrap3, *]) rfl ⟨rfl, ?_⟩
  repeat (first | exact Below.refl _ _ | assumption | exact Below.alloc (Below.refl _ _) (Nat.le_refl _) _ | refine Below.setCell ?_ (by first | (simp; done) | (simp; omega) | omega) _ | refine below_drewN ?_ _ | refine Below.alloc ?_ (by first | (simp; done) | (simp; omega) | omega) _ | refine Below.trans ?_ (Below.mono (by assumption) (by first | (simp; done) | (simp; omega) | omega)))

end Go.Proofs.Ytdhlkhockpblhaa
