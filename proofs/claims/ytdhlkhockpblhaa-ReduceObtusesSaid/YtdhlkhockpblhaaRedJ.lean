/-
  The reference: the products of the four edges.
-/
import Derived.Test.YtdhlkhockpblhaaRedD
namespace Go.Proofs.Ytdhlkhockpblhaa
open Go.RowKit
attribute [local irreducible] World.setCell

set_option linter.unusedSimpArgs false
set_option linter.unusedVariables false

theorem ld_00 (aa bb cc bc ac ab : Int) : Value.int .i64 (wrap64 (aa * 1 * 1 + bb * 0 * 0 + cc * 0 * 0 + bc * (0 * 0 + 0 * 0) + ac * (1 * 0 + 0 * 1) + ab * (1 * 0 + 0 * 1))) = .int .i64 (wrap64 (aa)) := congrArg (fun x => Value.int .i64 (wrap64 x)) (by omega)
theorem ld_01 (aa bb cc bc ac ab : Int) : Value.int .i64 (wrap64 (aa * 1 * 0 + bb * 0 * 1 + cc * 0 * 0 + bc * (0 * 0 + 0 * 1) + ac * (1 * 0 + 0 * 0) + ab * (1 * 1 + 0 * 0))) = .int .i64 (wrap64 (ab)) := congrArg (fun x => Value.int .i64 (wrap64 x)) (by omega)
theorem ld_02 (aa bb cc bc ac ab : Int) : Value.int .i64 (wrap64 (aa * 1 * 0 + bb * 0 * 0 + cc * 0 * 1 + bc * (0 * 1 + 0 * 0) + ac * (1 * 1 + 0 * 0) + ab * (1 * 0 + 0 * 0))) = .int .i64 (wrap64 (ac)) := congrArg (fun x => Value.int .i64 (wrap64 x)) (by omega)
theorem ld_03 (aa bb cc bc ac ab : Int) : Value.int .i64 (wrap64 (aa * 1 * (-1) + bb * 0 * (-1) + cc * 0 * (-1) + bc * (0 * (-1) + 0 * (-1)) + ac * (1 * (-1) + 0 * (-1)) + ab * (1 * (-1) + 0 * (-1)))) = .int .i64 (wrap64 ((-1) * aa + (-1) * ac + (-1) * ab)) := congrArg (fun x => Value.int .i64 (wrap64 x)) (by omega)
theorem ld_10 (aa bb cc bc ac ab : Int) : Value.int .i64 (wrap64 (aa * 0 * 1 + bb * 1 * 0 + cc * 0 * 0 + bc * (1 * 0 + 0 * 0) + ac * (0 * 0 + 0 * 1) + ab * (0 * 0 + 1 * 1))) = .int .i64 (wrap64 (ab)) := congrArg (fun x => Value.int .i64 (wrap64 x)) (by omega)
theorem ld_11 (aa bb cc bc ac ab : Int) : Value.int .i64 (wrap64 (aa * 0 * 0 + bb * 1 * 1 + cc * 0 * 0 + bc * (1 * 0 + 0 * 1) + ac * (0 * 0 + 0 * 0) + ab * (0 * 1 + 1 * 0))) = .int .i64 (wrap64 (bb)) := congrArg (fun x => Value.int .i64 (wrap64 x)) (by omega)
theorem ld_12 (aa bb cc bc ac ab : Int) : Value.int .i64 (wrap64 (aa * 0 * 0 + bb * 1 * 0 + cc * 0 * 1 + bc * (1 * 1 + 0 * 0) + ac * (0 * 1 + 0 * 0) + ab * (0 * 0 + 1 * 0))) = .int .i64 (wrap64 (bc)) := congrArg (fun x => Value.int .i64 (wrap64 x)) (by omega)
theorem ld_13 (aa bb cc bc ac ab : Int) : Value.int .i64 (wrap64 (aa * 0 * (-1) + bb * 1 * (-1) + cc * 0 * (-1) + bc * (1 * (-1) + 0 * (-1)) + ac * (0 * (-1) + 0 * (-1)) + ab * (0 * (-1) + 1 * (-1)))) = .int .i64 (wrap64 ((-1) * bb + (-1) * bc + (-1) * ab)) := congrArg (fun x => Value.int .i64 (wrap64 x)) (by omega)
theorem ld_20 (aa bb cc bc ac ab : Int) : Value.int .i64 (wrap64 (aa * 0 * 1 + bb * 0 * 0 + cc * 1 * 0 + bc * (0 * 0 + 1 * 0) + ac * (0 * 0 + 1 * 1) + ab * (0 * 0 + 0 * 1))) = .int .i64 (wrap64 (ac)) := congrArg (fun x => Value.int .i64 (wrap64 x)) (by omega)
theorem ld_21 (aa bb cc bc ac ab : Int) : Value.int .i64 (wrap64 (aa * 0 * 0 + bb * 0 * 1 + cc * 1 * 0 + bc * (0 * 0 + 1 * 1) + ac * (0 * 0 + 1 * 0) + ab * (0 * 1 + 0 * 0))) = .int .i64 (wrap64 (bc)) := congrArg (fun x => Value.int .i64 (wrap64 x)) (by omega)
theorem ld_22 (aa bb cc bc ac ab : Int) : Value.int .i64 (wrap64 (aa * 0 * 0 + bb * 0 * 0 + cc * 1 * 1 + bc * (0 * 1 + 1 * 0) + ac * (0 * 1 + 1 * 0) + ab * (0 * 0 + 0 * 0))) = .int .i64 (wrap64 (cc)) := congrArg (fun x => Value.int .i64 (wrap64 x)) (by omega)
theorem ld_23 (aa bb cc bc ac ab : Int) : Value.int .i64 (wrap64 (aa * 0 * (-1) + bb * 0 * (-1) + cc * 1 * (-1) + bc * (0 * (-1) + 1 * (-1)) + ac * (0 * (-1) + 1 * (-1)) + ab * (0 * (-1) + 0 * (-1)))) = .int .i64 (wrap64 ((-1) * cc + (-1) * bc + (-1) * ac)) := congrArg (fun x => Value.int .i64 (wrap64 x)) (by omega)
theorem ld_30 (aa bb cc bc ac ab : Int) : Value.int .i64 (wrap64 (aa * (-1) * 1 + bb * (-1) * 0 + cc * (-1) * 0 + bc * ((-1) * 0 + (-1) * 0) + ac * ((-1) * 0 + (-1) * 1) + ab * ((-1) * 0 + (-1) * 1))) = .int .i64 (wrap64 ((-1) * aa + (-1) * ac + (-1) * ab)) := congrArg (fun x => Value.int .i64 (wrap64 x)) (by omega)
theorem ld_31 (aa bb cc bc ac ab : Int) : Value.int .i64 (wrap64 (aa * (-1) * 0 + bb * (-1) * 1 + cc * (-1) * 0 + bc * ((-1) * 0 + (-1) * 1) + ac * ((-1) * 0 + (-1) * 0) + ab * ((-1) * 1 + (-1) * 0))) = .int .i64 (wrap64 ((-1) * bb + (-1) * bc + (-1) * ab)) := congrArg (fun x => Value.int .i64 (wrap64 x)) (by omega)
theorem ld_32 (aa bb cc bc ac ab : Int) : Value.int .i64 (wrap64 (aa * (-1) * 0 + bb * (-1) * 0 + cc * (-1) * 1 + bc * ((-1) * 1 + (-1) * 0) + ac * ((-1) * 1 + (-1) * 0) + ab * ((-1) * 0 + (-1) * 0))) = .int .i64 (wrap64 ((-1) * cc + (-1) * bc + (-1) * ac)) := congrArg (fun x => Value.int .i64 (wrap64 x)) (by omega)
theorem ld_33 (aa bb cc bc ac ab : Int) : Value.int .i64 (wrap64 (aa * (-1) * (-1) + bb * (-1) * (-1) + cc * (-1) * (-1) + bc * ((-1) * (-1) + (-1) * (-1)) + ac * ((-1) * (-1) + (-1) * (-1)) + ab * ((-1) * (-1) + (-1) * (-1)))) = .int .i64 (wrap64 (aa + bb + cc + 2 * bc + 2 * ac + 2 * ab)) := congrArg (fun x => Value.int .i64 (wrap64 x)) (by omega)
set_option maxHeartbeats 6400000 in
set_option maxRecDepth 100000 in
theorem laid_any (aa bb cc bc ac ab : Int) (w : World) :
    Calls Try.prog 42 #[.agg #[.int .i64 aa, .int .i64 bb, .int .i64 cc, .int .i64 bc, .int .i64 ac, .int .i64 ab]] w fun e w' => e = .returned (.agg #[.int .i64 (wrap64 (aa)), .int .i64 (wrap64 (ab)), .int .i64 (wrap64 (ac)), .int .i64 (wrap64 ((-1) * aa + (-1) * ac + (-1) * ab)), .int .i64 (wrap64 (ab)), .int .i64 (wrap64 (bb)), .int .i64 (wrap64 (bc)), .int .i64 (wrap64 ((-1) * bb + (-1) * bc + (-1) * ab)), .int .i64 (wrap64 (ac)), .int .i64 (wrap64 (bc)), .int .i64 (wrap64 (cc)), .int .i64 (wrap64 ((-1) * cc + (-1) * bc + (-1) * ac)), .int .i64 (wrap64 ((-1) * aa + (-1) * ac + (-1) * ab)), .int .i64 (wrap64 ((-1) * bb + (-1) * bc + (-1) * ab)), .int .i64 (wrap64 ((-1) * cc + (-1) * bc + (-1) * ac)), .int .i64 (wrap64 (aa + bb + cc + 2 * bc + 2 * ac + 2 * ab))]) ∧ Below w.heap.size w w' := by
  go_enter Try.func42, Try.ntmps42
  go_wp2
  refine wp_loop_rounds 5 ?_
  rw [rounds_succ]
  go_wp2
  refine wp_loop_rounds 5 ?_
  rw [rounds_succ]
  go_wp2
  refine region_head 12 (by kernel_rfl) (by kernel_rfl) ?_
  simp only [List.take_succ_cons, List.take_zero, List.drop_succ_cons, List.drop_zero]
  repeat (go_big_quiet_step ((go_at_call 23; exact held_of _ (Nat.le_refl _) (to_v (ld_00 aa bb cc bc ac ab) (rdot_any _ _ _ _ _ _ _ _ _ _ _ _ _)))))
  refine wpQuiet_nil ?_
  rintro x0 ⟨⟨w0, hbx0⟩, rfl⟩
  obtain ⟨hcx0, hfx0⟩ := bcell hbx0
  have hzx0 := hbx0.size
  try simp at hzx0
  have zx0_0 : w.heap.size < x0.heap.size := by omega
  have zx0_1 : w.heap.size + 1 < x0.heap.size := by omega
  have zx0_2 : w.heap.size + 1 + 1 < x0.heap.size := by omega
  have zx0_3 : w.heap.size + 1 + 1 + 1 < x0.heap.size := by omega
  go_wp2
  rw [rounds_succ]
  go_wp2
  refine region_head 12 (by kernel_rfl) (by kernel_rfl) ?_
  simp only [List.take_succ_cons, List.take_zero, List.drop_succ_cons, List.drop_zero]
  repeat (go_big_quiet_step ((go_at_call 23; exact held_of _ (Nat.le_refl _) (to_v (ld_01 aa bb cc bc ac ab) (rdot_any _ _ _ _ _ _ _ _ _ _ _ _ _)))))
  refine wpQuiet_nil ?_
  rintro x1 ⟨⟨w0, hbx1⟩, rfl⟩
  obtain ⟨hcx1, hfx1⟩ := bcell hbx1
  have hzx1 := hbx1.size
  try simp at hzx1
  have zx1_0 : w.heap.size < x1.heap.size := by omega
  have zx1_1 : w.heap.size + 1 < x1.heap.size := by omega
  have zx1_2 : w.heap.size + 1 + 1 < x1.heap.size := by omega
  have zx1_3 : w.heap.size + 1 + 1 + 1 < x1.heap.size := by omega
  go_wp2
  rw [rounds_succ]
  go_wp2
  refine region_head 12 (by kernel_rfl) (by kernel_rfl) ?_
  simp only [List.take_succ_cons, List.take_zero, List.drop_succ_cons, List.drop_zero]
  repeat (go_big_quiet_step ((go_at_call 23; exact held_of _ (Nat.le_refl _) (to_v (ld_02 aa bb cc bc ac ab) (rdot_any _ _ _ _ _ _ _ _ _ _ _ _ _)))))
  refine wpQuiet_nil ?_
  rintro x2 ⟨⟨w0, hbx2⟩, rfl⟩
  obtain ⟨hcx2, hfx2⟩ := bcell hbx2
  have hzx2 := hbx2.size
  try simp at hzx2
  have zx2_0 : w.heap.size < x2.heap.size := by omega
  have zx2_1 : w.heap.size + 1 < x2.heap.size := by omega
  have zx2_2 : w.heap.size + 1 + 1 < x2.heap.size := by omega
  have zx2_3 : w.heap.size + 1 + 1 + 1 < x2.heap.size := by omega
  go_wp2
  rw [rounds_succ]
  go_wp2
  refine region_head 12 (by kernel_rfl) (by kernel_rfl) ?_
  simp only [List.take_succ_cons, List.take_zero, List.drop_succ_cons, List.drop_zero]
  repeat (go_big_quiet_step ((go_at_call 23; exact held_of _ (Nat.le_refl _) (to_v (ld_03 aa bb cc bc ac ab) (rdot_any _ _ _ _ _ _ _ _ _ _ _ _ _)))))
  refine wpQuiet_nil ?_
  rintro x3 ⟨⟨w0, hbx3⟩, rfl⟩
  obtain ⟨hcx3, hfx3⟩ := bcell hbx3
  have hzx3 := hbx3.size
  try simp at hzx3
  have zx3_0 : w.heap.size < x3.heap.size := by omega
  have zx3_1 : w.heap.size + 1 < x3.heap.size := by omega
  have zx3_2 : w.heap.size + 1 + 1 < x3.heap.size := by omega
  have zx3_3 : w.heap.size + 1 + 1 + 1 < x3.heap.size := by omega
  go_wp2
  rw [rounds_succ]
  go_wp2
  rw [rounds_succ]
  go_wp2
  refine wp_loop_rounds 5 ?_
  rw [rounds_succ]
  go_wp2
  refine region_head 12 (by kernel_rfl) (by kernel_rfl) ?_
  simp only [List.take_succ_cons, List.take_zero, List.drop_succ_cons, List.drop_zero]
  repeat (go_big_quiet_step ((go_at_call 23; exact held_of _ (Nat.le_refl _) (to_v (ld_10 aa bb cc bc ac ab) (rdot_any _ _ _ _ _ _ _ _ _ _ _ _ _)))))
  refine wpQuiet_nil ?_
  rintro x4 ⟨⟨w0, hbx4⟩, rfl⟩
  obtain ⟨hcx4, hfx4⟩ := bcell hbx4
  have hzx4 := hbx4.size
  try simp at hzx4
  have zx4_0 : w.heap.size < x4.heap.size := by omega
  have zx4_1 : w.heap.size + 1 < x4.heap.size := by omega
  have zx4_2 : w.heap.size + 1 + 1 < x4.heap.size := by omega
  have zx4_3 : w.heap.size + 1 + 1 + 1 < x4.heap.size := by omega
  go_wp2
  rw [rounds_succ]
  go_wp2
  refine region_head 12 (by kernel_rfl) (by kernel_rfl) ?_
  simp only [List.take_succ_cons, List.take_zero, List.drop_succ_cons, List.drop_zero]
  repeat (go_big_quiet_step ((go_at_call 23; exact held_of _ (Nat.le_refl _) (to_v (ld_11 aa bb cc bc ac ab) (rdot_any _ _ _ _ _ _ _ _ _ _ _ _ _)))))
  refine wpQuiet_nil ?_
  rintro x5 ⟨⟨w0, hbx5⟩, rfl⟩
  obtain ⟨hcx5, hfx5⟩ := bcell hbx5
  have hzx5 := hbx5.size
  try simp at hzx5
  have zx5_0 : w.heap.size < x5.heap.size := by omega
  have zx5_1 : w.heap.size + 1 < x5.heap.size := by omega
  have zx5_2 : w.heap.size + 1 + 1 < x5.heap.size := by omega
  have zx5_3 : w.heap.size + 1 + 1 + 1 < x5.heap.size := by omega
  go_wp2
  rw [rounds_succ]
  go_wp2
  refine region_head 12 (by kernel_rfl) (by kernel_rfl) ?_
  simp only [List.take_succ_cons, List.take_zero, List.drop_succ_cons, List.drop_zero]
  repeat (go_big_quiet_step ((go_at_call 23; exact held_of _ (Nat.le_refl _) (to_v (ld_12 aa bb cc bc ac ab) (rdot_any _ _ _ _ _ _ _ _ _ _ _ _ _)))))
  refine wpQuiet_nil ?_
  rintro x6 ⟨⟨w0, hbx6⟩, rfl⟩
  obtain ⟨hcx6, hfx6⟩ := bcell hbx6
  have hzx6 := hbx6.size
  try simp at hzx6
  have zx6_0 : w.heap.size < x6.heap.size := by omega
  have zx6_1 : w.heap.size + 1 < x6.heap.size := by omega
  have zx6_2 : w.heap.size + 1 + 1 < x6.heap.size := by omega
  have zx6_3 : w.heap.size + 1 + 1 + 1 < x6.heap.size := by omega
  go_wp2
  rw [rounds_succ]
  go_wp2
  refine region_head 12 (by kernel_rfl) (by kernel_rfl) ?_
  simp only [List.take_succ_cons, List.take_zero, List.drop_succ_cons, List.drop_zero]
  repeat (go_big_quiet_step ((go_at_call 23; exact held_of _ (Nat.le_refl _) (to_v (ld_13 aa bb cc bc ac ab) (rdot_any _ _ _ _ _ _ _ _ _ _ _ _ _)))))
  refine wpQuiet_nil ?_
  rintro x7 ⟨⟨w0, hbx7⟩, rfl⟩
  obtain ⟨hcx7, hfx7⟩ := bcell hbx7
  have hzx7 := hbx7.size
  try simp at hzx7
  have zx7_0 : w.heap.size < x7.heap.size := by omega
  have zx7_1 : w.heap.size + 1 < x7.heap.size := by omega
  have zx7_2 : w.heap.size + 1 + 1 < x7.heap.size := by omega
  have zx7_3 : w.heap.size + 1 + 1 + 1 < x7.heap.size := by omega
  go_wp2
  rw [rounds_succ]
  go_wp2
  rw [rounds_succ]
  go_wp2
  refine wp_loop_rounds 5 ?_
  rw [rounds_succ]
  go_wp2
  refine region_head 12 (by kernel_rfl) (by kernel_rfl) ?_
  simp only [List.take_succ_cons, List.take_zero, List.drop_succ_cons, List.drop_zero]
  repeat (go_big_quiet_step ((go_at_call 23; exact held_of _ (Nat.le_refl _) (to_v (ld_20 aa bb cc bc ac ab) (rdot_any _ _ _ _ _ _ _ _ _ _ _ _ _)))))
  refine wpQuiet_nil ?_
  rintro x8 ⟨⟨w0, hbx8⟩, rfl⟩
  obtain ⟨hcx8, hfx8⟩ := bcell hbx8
  have hzx8 := hbx8.size
  try simp at hzx8
  have zx8_0 : w.heap.size < x8.heap.size := by omega
  have zx8_1 : w.heap.size + 1 < x8.heap.size := by omega
  have zx8_2 : w.heap.size + 1 + 1 < x8.heap.size := by omega
  have zx8_3 : w.heap.size + 1 + 1 + 1 < x8.heap.size := by omega
  go_wp2
  rw [rounds_succ]
  go_wp2
  refine region_head 12 (by kernel_rfl) (by kernel_rfl) ?_
  simp only [List.take_succ_cons, List.take_zero, List.drop_succ_cons, List.drop_zero]
  repeat (go_big_quiet_step ((go_at_call 23; exact held_of _ (Nat.le_refl _) (to_v (ld_21 aa bb cc bc ac ab) (rdot_any _ _ _ _ _ _ _ _ _ _ _ _ _)))))
  refine wpQuiet_nil ?_
  rintro x9 ⟨⟨w0, hbx9⟩, rfl⟩
  obtain ⟨hcx9, hfx9⟩ := bcell hbx9
  have hzx9 := hbx9.size
  try simp at hzx9
  have zx9_0 : w.heap.size < x9.heap.size := by omega
  have zx9_1 : w.heap.size + 1 < x9.heap.size := by omega
  have zx9_2 : w.heap.size + 1 + 1 < x9.heap.size := by omega
  have zx9_3 : w.heap.size + 1 + 1 + 1 < x9.heap.size := by omega
  go_wp2
  rw [rounds_succ]
  go_wp2
  refine region_head 12 (by kernel_rfl) (by kernel_rfl) ?_
  simp only [List.take_succ_cons, List.take_zero, List.drop_succ_cons, List.drop_zero]
  repeat (go_big_quiet_step ((go_at_call 23; exact held_of _ (Nat.le_refl _) (to_v (ld_22 aa bb cc bc ac ab) (rdot_any _ _ _ _ _ _ _ _ _ _ _ _ _)))))
  refine wpQuiet_nil ?_
  rintro x10 ⟨⟨w0, hbx10⟩, rfl⟩
  obtain ⟨hcx10, hfx10⟩ := bcell hbx10
  have hzx10 := hbx10.size
  try simp at hzx10
  have zx10_0 : w.heap.size < x10.heap.size := by omega
  have zx10_1 : w.heap.size + 1 < x10.heap.size := by omega
  have zx10_2 : w.heap.size + 1 + 1 < x10.heap.size := by omega
  have zx10_3 : w.heap.size + 1 + 1 + 1 < x10.heap.size := by omega
  go_wp2
  rw [rounds_succ]
  go_wp2
  refine region_head 12 (by kernel_rfl) (by kernel_rfl) ?_
  simp only [List.take_succ_cons, List.take_zero, List.drop_succ_cons, List.drop_zero]
  repeat (go_big_quiet_step ((go_at_call 23; exact held_of _ (Nat.le_refl _) (to_v (ld_23 aa bb cc bc ac ab) (rdot_any _ _ _ _ _ _ _ _ _ _ _ _ _)))))
  refine wpQuiet_nil ?_
  rintro x11 ⟨⟨w0, hbx11⟩, rfl⟩
  obtain ⟨hcx11, hfx11⟩ := bcell hbx11
  have hzx11 := hbx11.size
  try simp at hzx11
  have zx11_0 : w.heap.size < x11.heap.size := by omega
  have zx11_1 : w.heap.size + 1 < x11.heap.size := by omega
  have zx11_2 : w.heap.size + 1 + 1 < x11.heap.size := by omega
  have zx11_3 : w.heap.size + 1 + 1 + 1 < x11.heap.size := by omega
  go_wp2
  rw [rounds_succ]
  go_wp2
  rw [rounds_succ]
  go_wp2
  refine wp_loop_rounds 5 ?_
  rw [rounds_succ]
  go_wp2
  refine region_head 12 (by kernel_rfl) (by kernel_rfl) ?_
  simp only [List.take_succ_cons, List.take_zero, List.drop_succ_cons, List.drop_zero]
  repeat (go_big_quiet_step ((go_at_call 23; exact held_of _ (Nat.le_refl _) (to_v (ld_30 aa bb cc bc ac ab) (rdot_any _ _ _ _ _ _ _ _ _ _ _ _ _)))))
  refine wpQuiet_nil ?_
  rintro x12 ⟨⟨w0, hbx12⟩, rfl⟩
  obtain ⟨hcx12, hfx12⟩ := bcell hbx12
  have hzx12 := hbx12.size
  try simp at hzx12
  have zx12_0 : w.heap.size < x12.heap.size := by omega
  have zx12_1 : w.heap.size + 1 < x12.heap.size := by omega
  have zx12_2 : w.heap.size + 1 + 1 < x12.heap.size := by omega
  have zx12_3 : w.heap.size + 1 + 1 + 1 < x12.heap.size := by omega
  go_wp2
  rw [rounds_succ]
  go_wp2
  refine region_head 12 (by kernel_rfl) (by kernel_rfl) ?_
  simp only [List.take_succ_cons, List.take_zero, List.drop_succ_cons, List.drop_zero]
  repeat (go_big_quiet_step ((go_at_call 23; exact held_of _ (Nat.le_refl _) (to_v (ld_31 aa bb cc bc ac ab) (rdot_any _ _ _ _ _ _ _ _ _ _ _ _ _)))))
  refine wpQuiet_nil ?_
  rintro x13 ⟨⟨w0, hbx13⟩, rfl⟩
  obtain ⟨hcx13, hfx13⟩ := bcell hbx13
  have hzx13 := hbx13.size
  try simp at hzx13
  have zx13_0 : w.heap.size < x13.heap.size := by omega
  have zx13_1 : w.heap.size + 1 < x13.heap.size := by omega
  have zx13_2 : w.heap.size + 1 + 1 < x13.heap.size := by omega
  have zx13_3 : w.heap.size + 1 + 1 + 1 < x13.heap.size := by omega
  go_wp2
  rw [rounds_succ]
  go_wp2
  refine region_head 12 (by kernel_rfl) (by kernel_rfl) ?_
  simp only [List.take_succ_cons, List.take_zero, List.drop_succ_cons, List.drop_zero]
  repeat (go_big_quiet_step ((go_at_call 23; exact held_of _ (Nat.le_refl _) (to_v (ld_32 aa bb cc bc ac ab) (rdot_any _ _ _ _ _ _ _ _ _ _ _ _ _)))))
  refine wpQuiet_nil ?_
  rintro x14 ⟨⟨w0, hbx14⟩, rfl⟩
  obtain ⟨hcx14, hfx14⟩ := bcell hbx14
  have hzx14 := hbx14.size
  try simp at hzx14
  have zx14_0 : w.heap.size < x14.heap.size := by omega
  have zx14_1 : w.heap.size + 1 < x14.heap.size := by omega
  have zx14_2 : w.heap.size + 1 + 1 < x14.heap.size := by omega
  have zx14_3 : w.heap.size + 1 + 1 + 1 < x14.heap.size := by omega
  go_wp2
  rw [rounds_succ]
  go_wp2
  refine region_head 12 (by kernel_rfl) (by kernel_rfl) ?_
  simp only [List.take_succ_cons, List.take_zero, List.drop_succ_cons, List.drop_zero]
  repeat (go_big_quiet_step ((go_at_call 23; exact held_of _ (Nat.le_refl _) (to_v (ld_33 aa bb cc bc ac ab) (rdot_any _ _ _ _ _ _ _ _ _ _ _ _ _)))))
  refine wpQuiet_nil ?_
  rintro x15 ⟨⟨w0, hbx15⟩, rfl⟩
  obtain ⟨hcx15, hfx15⟩ := bcell hbx15
  have hzx15 := hbx15.size
  try simp at hzx15
  have zx15_0 : w.heap.size < x15.heap.size := by omega
  have zx15_1 : w.heap.size + 1 < x15.heap.size := by omega
  have zx15_2 : w.heap.size + 1 + 1 < x15.heap.size := by omega
  have zx15_3 : w.heap.size + 1 + 1 + 1 < x15.heap.size := by omega
  go_wp2
  rw [rounds_succ]
  go_wp2
  rw [rounds_succ]
  go_wp2
  refine bodyPost_ret (v := .agg #[.int .i64 (wrap64 (aa)), .int .i64 (wrap64 (ab)), .int .i64 (wrap64 (ac)), .int .i64 (wrap64 ((-1) * aa + (-1) * ac + (-1) * ab)), .int .i64 (wrap64 (ab)), .int .i64 (wrap64 (bb)), .int .i64 (wrap64 (bc)), .int .i64 (wrap64 ((-1) * bb + (-1) * bc + (-1) * ab)), .int .i64 (wrap64 (ac)), .int .i64 (wrap64 (bc)), .int .i64 (wrap64 (cc)), .int .i64 (wrap64 ((-1) * cc + (-1) * bc + (-1) * ac)), .int .i64 (wrap64 ((-1) * aa + (-1) * ac + (-1) * ab)), .int .i64 (wrap64 ((-1) * bb + (-1) * bc + (-1) * ab)), .int .i64 (wrap64 ((-1) * cc + (-1) * bc + (-1) * ac)), .int .i64 (wrap64 (aa + bb + cc + 2 * bc + 2 * ac + 2 * ab))]) (by simp [results, Try.results42, go_sem, wrap_add_l, wrap_add_r, wrap_sub_l, wrap_sub_r, wrap_mul_l, wrap_mul_r, wrap_neg, wrap_wrap, wrap3, *]) rfl ⟨rfl, ?_⟩
  repeat (first | exact Below.refl _ _ | assumption | exact Below.alloc (Below.refl _ _) (Nat.le_refl _) _ | refine Below.setCell ?_ (by first | (simp; done) | (simp; omega) | omega) _ | refine below_drewN ?_ _ | refine Below.alloc ?_ (by first | (simp; done) | (simp; omega) | omega) _ | refine Below.trans ?_ (Below.mono (by assumption) (by first | (simp; done) | (simp; omega) | omega)))

end Go.Proofs.Ytdhlkhockpblhaa
