/-
  Turned edges; one step.
-/
import Derived.Test.YtdhlkhockpblhaaRedC
import Derived.Deep.RegionHeld3
namespace Go.Proofs.Ytdhlkhockpblhaa
open Go.RowKit
attribute [local irreducible] World.setCell

set_option linter.unusedSimpArgs false
set_option linter.unusedVariables false

@[go_sem] theorem BelowW.cellB {B : Nat} {W : World} (x : BelowW B W) (b o : Nat) (h : b < B) : World.cell? x.1 ⟨b, o, none⟩ = W.cell? ⟨b, o, none⟩ := x.2.cell (p := ⟨b, o, none⟩) h
@[go_sem] theorem BelowW.frozenB {B : Nat} {W : World} (x : BelowW B W) (b o : Nat) (h : b < B) : World.frozen? x.1 ⟨b, o, none⟩ = W.frozen? ⟨b, o, none⟩ := x.2.frozen (p := ⟨b, o, none⟩) h
theorem BelowW.ltB {B : Nat} {W : World} (x : BelowW B W) (hB : B ≤ W.heap.size) (b : Nat) (h : b < B) : b < (World.heap x.1).size := Nat.lt_of_lt_of_le h (Nat.le_trans hB x.2.size)
theorem to_v {P : Program} {f : FuncId} {args : Array Value} {w : World} {Q : World → Prop} {v v' : Value} (h : v = v') (c : Calls P f args w fun e w' => e = .returned v ∧ Q w') :
    Calls P f args w fun e w' => e = .returned v' ∧ Q w' := h ▸ c
theorem wrap3 (x y z a b c : Int) : wrap64 (wrap64 x * a + wrap64 y * b + wrap64 z * c) = wrap64 (x * a + y * b + z * c) := by
  obtain ⟨i, hi⟩ := wrap_mod x; obtain ⟨j, hj⟩ := wrap_mod y; obtain ⟨k, hk⟩ := wrap_mod z
  rw [hi, hj, hk, show (x + 18446744073709551616 * i) * a + (y + 18446744073709551616 * j) * b + (z + 18446744073709551616 * k) * c = x * a + y * b + z * c + 18446744073709551616 * (i * a + j * b + k * c) by grind, wrap_shift]

set_option maxHeartbeats 3200000 in
set_option maxRecDepth 100000 in
theorem turned_any (aa bb cc bc ac ab p00 p01 p02 p10 p11 p12 p20 p21 p22 : Int) (w : World) :
    Calls Try.prog 39 #[.agg #[.int .i64 aa, .int .i64 bb, .int .i64 cc, .int .i64 bc, .int .i64 ac, .int .i64 ab], .agg #[.int .i64 p00, .int .i64 p01, .int .i64 p02, .int .i64 p10, .int .i64 p11, .int .i64 p12, .int .i64 p20, .int .i64 p21, .int .i64 p22]] w fun e w' => e = .returned (.agg #[.int .i64 (wrap64 ((p00 * aa + p10 * ab + p20 * ac) * p00 + (p00 * ab + p10 * bb + p20 * bc) * p10 + (p00 * ac + p10 * bc + p20 * cc) * p20)), .int .i64 (wrap64 ((p01 * aa + p11 * ab + p21 * ac) * p01 + (p01 * ab + p11 * bb + p21 * bc) * p11 + (p01 * ac + p11 * bc + p21 * cc) * p21)), .int .i64 (wrap64 ((p02 * aa + p12 * ab + p22 * ac) * p02 + (p02 * ab + p12 * bb + p22 * bc) * p12 + (p02 * ac + p12 * bc + p22 * cc) * p22)), .int .i64 (wrap64 ((p01 * aa + p11 * ab + p21 * ac) * p02 + (p01 * ab + p11 * bb + p21 * bc) * p12 + (p01 * ac + p11 * bc + p21 * cc) * p22)), .int .i64 (wrap64 ((p00 * aa + p10 * ab + p20 * ac) * p02 + (p00 * ab + p10 * bb + p20 * bc) * p12 + (p00 * ac + p10 * bc + p20 * cc) * p22)), .int .i64 (wrap64 ((p00 * aa + p10 * ab + p20 * ac) * p01 + (p00 * ab + p10 * bb + p20 * bc) * p11 + (p00 * ac + p10 * bc + p20 * cc) * p21))]) ∧ Below w.heap.size w w' := by
  go_enter Try.func39, Try.ntmps39
  go_wp2
  refine wp_loop_rounds 4 ?_
  rw [rounds_succ]
  go_wp2
  refine wp_loop_rounds 4 ?_
  rw [rounds_succ]
  go_wp2
  refine region_headq 9 (by kernel_rfl) (by kernel_rfl) ?_
  simp only [List.take_succ_cons, List.take_zero, List.drop_succ_cons, List.drop_zero]
  repeat (go_big_quiet_step (fail))
  refine wpQuiet_nil ?_
  rintro _ ⟨nq, rfl⟩
  go_wp2
  rw [rounds_succ]
  go_wp2
  refine region_headq 9 (by kernel_rfl) (by kernel_rfl) ?_
  simp only [List.take_succ_cons, List.take_zero, List.drop_succ_cons, List.drop_zero]
  repeat (go_big_quiet_step (fail))
  refine wpQuiet_nil ?_
  rintro _ ⟨nq, rfl⟩
  go_wp2
  rw [rounds_succ]
  go_wp2
  refine region_headq 9 (by kernel_rfl) (by kernel_rfl) ?_
  simp only [List.take_succ_cons, List.take_zero, List.drop_succ_cons, List.drop_zero]
  repeat (go_big_quiet_step (fail))
  refine wpQuiet_nil ?_
  rintro _ ⟨nq, rfl⟩
  go_wp2
  rw [rounds_succ]
  go_wp2
  rw [rounds_succ]
  go_wp2
  refine wp_loop_rounds 4 ?_
  rw [rounds_succ]
  go_wp2
  refine region_headq 9 (by kernel_rfl) (by kernel_rfl) ?_
  simp only [List.take_succ_cons, List.take_zero, List.drop_succ_cons, List.drop_zero]
  repeat (go_big_quiet_step (fail))
  refine wpQuiet_nil ?_
  rintro _ ⟨nq, rfl⟩
  go_wp2
  rw [rounds_succ]
  go_wp2
  refine region_headq 9 (by kernel_rfl) (by kernel_rfl) ?_
  simp only [List.take_succ_cons, List.take_zero, List.drop_succ_cons, List.drop_zero]
  repeat (go_big_quiet_step (fail))
  refine wpQuiet_nil ?_
  rintro _ ⟨nq, rfl⟩
  go_wp2
  rw [rounds_succ]
  go_wp2
  refine region_headq 9 (by kernel_rfl) (by kernel_rfl) ?_
  simp only [List.take_succ_cons, List.take_zero, List.drop_succ_cons, List.drop_zero]
  repeat (go_big_quiet_step (fail))
  refine wpQuiet_nil ?_
  rintro _ ⟨nq, rfl⟩
  go_wp2
  rw [rounds_succ]
  go_wp2
  rw [rounds_succ]
  go_wp2
  refine wp_loop_rounds 4 ?_
  rw [rounds_succ]
  go_wp2
  refine region_headq 9 (by kernel_rfl) (by kernel_rfl) ?_
  simp only [List.take_succ_cons, List.take_zero, List.drop_succ_cons, List.drop_zero]
  repeat (go_big_quiet_step (fail))
  refine wpQuiet_nil ?_
  rintro _ ⟨nq, rfl⟩
  go_wp2
  rw [rounds_succ]
  go_wp2
  refine region_headq 9 (by kernel_rfl) (by kernel_rfl) ?_
  simp only [List.take_succ_cons, List.take_zero, List.drop_succ_cons, List.drop_zero]
  repeat (go_big_quiet_step (fail))
  refine wpQuiet_nil ?_
  rintro _ ⟨nq, rfl⟩
  go_wp2
  rw [rounds_succ]
  go_wp2
  refine region_headq 9 (by kernel_rfl) (by kernel_rfl) ?_
  simp only [List.take_succ_cons, List.take_zero, List.drop_succ_cons, List.drop_zero]
  repeat (go_big_quiet_step (fail))
  refine wpQuiet_nil ?_
  rintro _ ⟨nq, rfl⟩
  go_wp2
  rw [rounds_succ]
  go_wp2
  rw [rounds_succ]
  go_wp2
  refine region_head 7 (by kernel_rfl) (by kernel_rfl) ?_
  simp only [List.take_succ_cons, List.take_zero, List.drop_succ_cons, List.drop_zero]
  repeat (go_big_quiet_step (first | (go_at_call 46; exact held_of _ (Nat.le_refl _) (matrix_any _ _ _ _ _ _ _)) | (go_at_call 72; exact held_of _ (Nat.le_refl _) (times_any _ _ _ _ _ _ _ _ _ _ _ _ _ _ _ _ _ _ _)) | (go_at_call 71; exact held_of _ (Nat.le_refl _) (metric_any _ _ _ _ _ _ _ _ _ _))))
  refine wpQuiet_nil ?_
  rintro w1 ⟨⟨w0, hbw1⟩, rfl⟩
  obtain ⟨hcw1, hfw1⟩ := bcell hbw1
  have hzw1 := hbw1.size
  try simp at hzw1
  have zw1_0 : w.heap.size < w1.heap.size := by omega
  have zw1_1 : w.heap.size + 1 < w1.heap.size := by omega
  have zw1_2 : w.heap.size + 1 + 1 < w1.heap.size := by omega
  have zw1_3 : w.heap.size + 1 + 1 + 1 < w1.heap.size := by omega
  go_wp2
  refine bodyPost_ret (v := .agg #[.int .i64 (wrap64 ((p00 * aa + p10 * ab + p20 * ac) * p00 + (p00 * ab + p10 * bb + p20 * bc) * p10 + (p00 * ac + p10 * bc + p20 * cc) * p20)), .int .i64 (wrap64 ((p01 * aa + p11 * ab + p21 * ac) * p01 + (p01 * ab + p11 * bb + p21 * bc) * p11 + (p01 * ac + p11 * bc + p21 * cc) * p21)), .int .i64 (wrap64 ((p02 * aa + p12 * ab + p22 * ac) * p02 + (p02 * ab + p12 * bb + p22 * bc) * p12 + (p02 * ac + p12 * bc + p22 * cc) * p22)), .int .i64 (wrap64 ((p01 * aa + p11 * ab + p21 * ac) * p02 + (p01 * ab + p11 * bb + p21 * bc) * p12 + (p01 * ac + p11 * bc + p21 * cc) * p22)), .int .i64 (wrap64 ((p00 * aa + p10 * ab + p20 * ac) * p02 + (p00 * ab + p10 * bb + p20 * bc) * p12 + (p00 * ac + p10 * bc + p20 * cc) * p22)), .int .i64 (wrap64 ((p00 * aa + p10 * ab + p20 * ac) * p01 + (p00 * ab + p10 * bb + p20 * bc) * p11 + (p00 * ac + p10 * bc + p20 * cc) * p21))]) (by simp [results, Try.results39, go_sem, wrap_add_l, wrap_add_r, wrap_sub_l, wrap_sub_r, wrap_mul_l, wrap_mul_r, wrap_neg, wrap_wrap, wrap3, *]) rfl ⟨rfl, ?_⟩
  repeat (first | exact Below.refl _ _ | assumption | exact Below.alloc (Below.refl _ _) (Nat.le_refl _) _ | refine Below.setCell ?_ (by first | (simp; done) | (simp; omega) | omega) _ | refine below_drewN ?_ _ | refine Below.alloc ?_ (by first | (simp; done) | (simp; omega) | omega) _ | refine Below.trans ?_ (Below.mono (by assumption) (by first | (simp; done) | (simp; omega) | omega)))

theorem keep_alloc {w : World} {a : Addr} {o : Obj} {v : Value} (h : w.cell? a = some v) : (w.alloc o).cell? a = some v := (World.cell?_alloc_some w a o (by rw [h]; rfl)).trans h
theorem keep_set {w : World} {p a : Addr} {u v : Value} (h : w.cell? a = some v) (hn : p.block ≠ a.block) : (w.setCell p u).cell? a = some v := (World.cell?_setCell_far w p a u hn).trans h

end Go.Proofs.Ytdhlkhockpblhaa
