/-
  Celrices within bounds; cofactors.
-/
import Derived.Test.YtdhlkhockpblhaaCelA
namespace Go.Proofs.Ytdhlkhockpblhaa.M
open Go.RowKit
attribute [local irreducible] World.setCell

set_option linter.unusedSimpArgs false
set_option linter.unusedVariables false

def matC (p00 p01 p02 p10 p11 p12 p20 p21 p22 : Int) : Int := if (-1000 ≤ p00 ∧ p00 ≤ 1000) ∧ (-1000 ≤ p01 ∧ p01 ≤ 1000) ∧ (-1000 ≤ p02 ∧ p02 ≤ 1000) ∧ (-1000 ≤ p10 ∧ p10 ≤ 1000) ∧ (-1000 ≤ p11 ∧ p11 ≤ 1000) ∧ (-1000 ≤ p12 ∧ p12 ≤ 1000) ∧ (-1000 ≤ p20 ∧ p20 ≤ 1000) ∧ (-1000 ≤ p21 ∧ p21 ≤ 1000) ∧ (-1000 ≤ p22 ∧ p22 ≤ 1000) then 0 else 4
def d9 (p00 p01 p02 p10 p11 p12 p20 p21 p22 : Int) : Int := p00 * p11 * p22 - p00 * p12 * p21 + (p01 * p12 * p20 - p01 * p10 * p22) + (p02 * p10 * p21 - p02 * p11 * p20)
theorem matC_4 {p00 p01 p02 p10 p11 p12 p20 p21 p22 : Int} (h : ¬ ((-1000 ≤ p00 ∧ p00 ≤ 1000) ∧ (-1000 ≤ p01 ∧ p01 ≤ 1000) ∧ (-1000 ≤ p02 ∧ p02 ≤ 1000) ∧ (-1000 ≤ p10 ∧ p10 ≤ 1000) ∧ (-1000 ≤ p11 ∧ p11 ≤ 1000) ∧ (-1000 ≤ p12 ∧ p12 ≤ 1000) ∧ (-1000 ≤ p20 ∧ p20 ≤ 1000) ∧ (-1000 ≤ p21 ∧ p21 ≤ 1000) ∧ (-1000 ≤ p22 ∧ p22 ≤ 1000))) : 4 = matC p00 p01 p02 p10 p11 p12 p20 p21 p22 := (if_neg h).symm
theorem matC_0 {p00 p01 p02 p10 p11 p12 p20 p21 p22 : Int} (h : (-1000 ≤ p00 ∧ p00 ≤ 1000) ∧ (-1000 ≤ p01 ∧ p01 ≤ 1000) ∧ (-1000 ≤ p02 ∧ p02 ≤ 1000) ∧ (-1000 ≤ p10 ∧ p10 ≤ 1000) ∧ (-1000 ≤ p11 ∧ p11 ≤ 1000) ∧ (-1000 ≤ p12 ∧ p12 ≤ 1000) ∧ (-1000 ≤ p20 ∧ p20 ≤ 1000) ∧ (-1000 ≤ p21 ∧ p21 ≤ 1000) ∧ (-1000 ≤ p22 ∧ p22 ≤ 1000)) : 0 = matC p00 p01 p02 p10 p11 p12 p20 p21 p22 := (if_pos h).symm
@[go_sem] theorem idxw0 (p00 p01 p02 p10 p11 p12 p20 p21 p22 : Int) (w : World) : (Instr.index 26 (.agg #[.int .i64 p00, .int .i64 p01, .int .i64 p02, .int .i64 p10, .int .i64 p11, .int .i64 p12, .int .i64 p20, .int .i64 p21, .int .i64 p22]) (.int .i64 0)).run Try.prog w = .ok (.agg #[.int .i64 p00, .int .i64 p01, .int .i64 p02]) w := by kernel_rfl
@[go_sem] theorem idxw1 (p00 p01 p02 p10 p11 p12 p20 p21 p22 : Int) (w : World) : (Instr.index 26 (.agg #[.int .i64 p00, .int .i64 p01, .int .i64 p02, .int .i64 p10, .int .i64 p11, .int .i64 p12, .int .i64 p20, .int .i64 p21, .int .i64 p22]) (.int .i64 1)).run Try.prog w = .ok (.agg #[.int .i64 p10, .int .i64 p11, .int .i64 p12]) w := by kernel_rfl
@[go_sem] theorem idxw2 (p00 p01 p02 p10 p11 p12 p20 p21 p22 : Int) (w : World) : (Instr.index 26 (.agg #[.int .i64 p00, .int .i64 p01, .int .i64 p02, .int .i64 p10, .int .i64 p11, .int .i64 p12, .int .i64 p20, .int .i64 p21, .int .i64 p22]) (.int .i64 2)).run Try.prog w = .ok (.agg #[.int .i64 p20, .int .i64 p21, .int .i64 p22]) w := by kernel_rfl
@[go_sem] theorem idxrow0 (a b c : Int) (w : World) : (Instr.index 24 (.agg #[.int .i64 a, .int .i64 b, .int .i64 c]) (.int .i64 0)).run Try.prog w = .ok (.int .i64 a) w := by kernel_rfl
@[go_sem] theorem idxrow1 (a b c : Int) (w : World) : (Instr.index 24 (.agg #[.int .i64 a, .int .i64 b, .int .i64 c]) (.int .i64 1)).run Try.prog w = .ok (.int .i64 b) w := by kernel_rfl
@[go_sem] theorem idxrow2 (a b c : Int) (w : World) : (Instr.index 24 (.agg #[.int .i64 a, .int .i64 b, .int .i64 c]) (.int .i64 2)).run Try.prog w = .ok (.int .i64 c) w := by kernel_rfl
@[go_sem] theorem idxvec0 (a b c : Int) (w : World) : (Instr.index 48 (.agg #[.int .i64 a, .int .i64 b, .int .i64 c]) (.int .i64 0)).run Try.prog w = .ok (.int .i64 a) w := by kernel_rfl
@[go_sem] theorem idxvec1 (a b c : Int) (w : World) : (Instr.index 48 (.agg #[.int .i64 a, .int .i64 b, .int .i64 c]) (.int .i64 1)).run Try.prog w = .ok (.int .i64 b) w := by kernel_rfl
@[go_sem] theorem idxvec2 (a b c : Int) (w : World) : (Instr.index 48 (.agg #[.int .i64 a, .int .i64 b, .int .i64 c]) (.int .i64 2)).run Try.prog w = .ok (.int .i64 c) w := by kernel_rfl
set_option maxHeartbeats 400000 in
theorem beyond_t (x : Int) (w : World) (h : x < -1000 ∨ 1000 < x):
    Calls Try.prog 67 #[.int .i64 x, .int .i64 1000] w fun e w' => e = .returned (.bool true) ∧ w = w' := by
  go_enter Try.func67, Try.ntmps67
  rcases h with h | h
  all_goals go_wp2
  all_goals go_ret
  all_goals exact ⟨rfl, rfl⟩

set_option maxHeartbeats 400000 in
theorem beyond_f (x : Int) (w : World) (h1 : -1000 ≤ x) (h2 : x ≤ 1000):
    Calls Try.prog 67 #[.int .i64 x, .int .i64 1000] w fun e w' => e = .returned (.bool false) ∧ w = w' := by
  have e1 : decide (x < -1000) = false := decide_eq_false (by omega)
  have e2 : decide (1000 < x) = false := decide_eq_false (by omega)
  go_enter Try.func67, Try.ntmps67
  go_wp2
  go_ret
  refine ⟨?_, rfl⟩
  simp [e1, e2]

set_option maxHeartbeats 3200000 in
theorem vcheck_any (p00 p01 p02 p10 p11 p12 p20 p21 p22 : Int) (w : World) :
    Calls Try.prog 36 #[.agg #[.int .i64 p00, .int .i64 p01, .int .i64 p02, .int .i64 p10, .int .i64 p11, .int .i64 p12, .int .i64 p20, .int .i64 p21, .int .i64 p22]] w fun e w' => e = .returned (.int .i64 (matC p00 p01 p02 p10 p11 p12 p20 p21 p22)) ∧ Below w.heap.size w w' := by
  go_enter Try.func36, Try.ntmps36
  go_wp2
  refine wp_loop_rounds 4 ?_
  rw [rounds_succ]
  go_wp2
  refine wp_loop_rounds 4 ?_
  rw [rounds_succ]
  rcases Classical.em (p00 < -1000 ∨ 1000 < p00) with a00 | a00
  · go_wp2_with (go_at_call 67; refine (beyond_t _ _ a00).mono ?_; rintro e w' ⟨rfl, rfl⟩)
    go_ret
    refine ⟨ret_int (matC_4 (by omega)), ?_⟩
    repeat (first | exact Below.refl _ _ | assumption | exact Below.alloc (Below.refl _ _) (Nat.le_refl _) _ | refine Below.setCell ?_ (by first | (simp; done) | (simp; omega) | omega) _ | refine below_drewN ?_ _ | refine Below.alloc ?_ (by first | (simp; done) | (simp; omega) | omega) _ | refine Below.trans ?_ (Below.mono (by assumption) (by first | (simp; done) | (simp; omega) | omega)))
  have c00 : -1000 ≤ p00 := by omega
  have d00 : p00 ≤ 1000 := by omega
  clear a00
  go_wp2_with (go_at_call 67; refine (beyond_f _ _ c00 d00).mono ?_; rintro e w' ⟨rfl, rfl⟩)
  rw [rounds_succ]
  rcases Classical.em (p01 < -1000 ∨ 1000 < p01) with a01 | a01
  · go_wp2_with (go_at_call 67; refine (beyond_t _ _ a01).mono ?_; rintro e w' ⟨rfl, rfl⟩)
    go_ret
    refine ⟨ret_int (matC_4 (by omega)), ?_⟩
    repeat (first | exact Below.refl _ _ | assumption | exact Below.alloc (Below.refl _ _) (Nat.le_refl _) _ | refine Below.setCell ?_ (by first | (simp; done) | (simp; omega) | omega) _ | refine below_drewN ?_ _ | refine Below.alloc ?_ (by first | (simp; done) | (simp; omega) | omega) _ | refine Below.trans ?_ (Below.mono (by assumption) (by first | (simp; done) | (simp; omega) | omega)))
  have c01 : -1000 ≤ p01 := by omega
  have d01 : p01 ≤ 1000 := by omega
  clear a01
  go_wp2_with (go_at_call 67; refine (beyond_f _ _ c01 d01).mono ?_; rintro e w' ⟨rfl, rfl⟩)
  rw [rounds_succ]
  rcases Classical.em (p02 < -1000 ∨ 1000 < p02) with a02 | a02
  · go_wp2_with (go_at_call 67; refine (beyond_t _ _ a02).mono ?_; rintro e w' ⟨rfl, rfl⟩)
    go_ret
    refine ⟨ret_int (matC_4 (by omega)), ?_⟩
    repeat (first | exact Below.refl _ _ | assumption | exact Below.alloc (Below.refl _ _) (Nat.le_refl _) _ | refine Below.setCell ?_ (by first | (simp; done) | (simp; omega) | omega) _ | refine below_drewN ?_ _ | refine Below.alloc ?_ (by first | (simp; done) | (simp; omega) | omega) _ | refine Below.trans ?_ (Below.mono (by assumption) (by first | (simp; done) | (simp; omega) | omega)))
  have c02 : -1000 ≤ p02 := by omega
  have d02 : p02 ≤ 1000 := by omega
  clear a02
  go_wp2_with (go_at_call 67; refine (beyond_f _ _ c02 d02).mono ?_; rintro e w' ⟨rfl, rfl⟩)
  rw [rounds_succ]
  go_wp2
  rw [rounds_succ]
  go_wp2
  refine wp_loop_rounds 4 ?_
  rw [rounds_succ]
  rcases Classical.em (p10 < -1000 ∨ 1000 < p10) with a10 | a10
  · go_wp2_with (go_at_call 67; refine (beyond_t _ _ a10).mono ?_; rintro e w' ⟨rfl, rfl⟩)
    go_ret
    refine ⟨ret_int (matC_4 (by omega)), ?_⟩
    repeat (first | exact Below.refl _ _ | assumption | exact Below.alloc (Below.refl _ _) (Nat.le_refl _) _ | refine Below.setCell ?_ (by first | (simp; done) | (simp; omega) | omega) _ | refine below_drewN ?_ _ | refine Below.alloc ?_ (by first | (simp; done) | (simp; omega) | omega) _ | refine Below.trans ?_ (Below.mono (by assumption) (by first | (simp; done) | (simp; omega) | omega)))
  have c10 : -1000 ≤ p10 := by omega
  have d10 : p10 ≤ 1000 := by omega
  clear a10
  go_wp2_with (go_at_call 67; refine (beyond_f _ _ c10 d10).mono ?_; rintro e w' ⟨rfl, rfl⟩)
  rw [rounds_succ]
  rcases Classical.em (p11 < -1000 ∨ 1000 < p11) with a11 | a11
  · go_wp2_with (go_at_call 67; refine (beyond_t _ _ a11).mono ?_; rintro e w' ⟨rfl, rfl⟩)
    go_ret
    refine ⟨ret_int (matC_4 (by omega)), ?_⟩
    repeat (first | exact Below.refl _ _ | assumption | exact Below.alloc (Below.refl _ _) (Nat.le_refl _) _ | refine Below.setCell ?_ (by first | (simp; done) | (simp; omega) | omega) _ | refine below_drewN ?_ _ | refine Below.alloc ?_ (by first | (simp; done) | (simp; omega) | omega) _ | refine Below.trans ?_ (Below.mono (by assumption) (by first | (simp; done) | (simp; omega) | omega)))
  have c11 : -1000 ≤ p11 := by omega
  have d11 : p11 ≤ 1000 := by omega
  clear a11
  go_wp2_with (go_at_call 67; refine (beyond_f _ _ c11 d11).mono ?_; rintro e w' ⟨rfl, rfl⟩)
  rw [rounds_succ]
  rcases Classical.em (p12 < -1000 ∨ 1000 < p12) with a12 | a12
  · go_wp2_with (go_at_call 67; refine (beyond_t _ _ a12).mono ?_; rintro e w' ⟨rfl, rfl⟩)
    go_ret
    refine ⟨ret_int (matC_4 (by omega)), ?_⟩
    repeat (first | exact Below.refl _ _ | assumption | exact Below.alloc (Below.refl _ _) (Nat.le_refl _) _ | refine Below.setCell ?_ (by first | (simp; done) | (simp; omega) | omega) _ | refine below_drewN ?_ _ | refine Below.alloc ?_ (by first | (simp; done) | (simp; omega) | omega) _ | refine Below.trans ?_ (Below.mono (by assumption) (by first | (simp; done) | (simp; omega) | omega)))
  have c12 : -1000 ≤ p12 := by omega
  have d12 : p12 ≤ 1000 := by omega
  clear a12
  go_wp2_with (go_at_call 67; refine (beyond_f _ _ c12 d12).mono ?_; rintro e w' ⟨rfl, rfl⟩)
  rw [rounds_succ]
  go_wp2
  rw [rounds_succ]
  go_wp2
  refine wp_loop_rounds 4 ?_
  rw [rounds_succ]
  rcases Classical.em (p20 < -1000 ∨ 1000 < p20) with a20 | a20
  · go_wp2_with (go_at_call 67; refine (beyond_t _ _ a20).mono ?_; rintro e w' ⟨rfl, rfl⟩)
    go_ret
    refine ⟨ret_int (matC_4 (by omega)), ?_⟩
    repeat (first | exact Below.refl _ _ | assumption | exact Below.alloc (Below.refl _ _) (Nat.le_refl _) _ | refine Below.setCell ?_ (by first | (simp; done) | (simp; omega) | omega) _ | refine below_drewN ?_ _ | refine Below.alloc ?_ (by first | (simp; done) | (simp; omega) | omega) _ | refine Below.trans ?_ (Below.mono (by assumption) (by first | (simp; done) | (simp; omega) | omega)))
  have c20 : -1000 ≤ p20 := by omega
  have d20 : p20 ≤ 1000 := by omega
  clear a20
  go_wp2_with (go_at_call 67; refine (beyond_f _ _ c20 d20).mono ?_; rintro e w' ⟨rfl, rfl⟩)
  rw [rounds_succ]
  rcases Classical.em (p21 < -1000 ∨ 1000 < p21) with a21 | a21
  · go_wp2_with (go_at_call 67; refine (beyond_t _ _ a21).mono ?_; rintro e w' ⟨rfl, rfl⟩)
    go_ret
    refine ⟨ret_int (matC_4 (by omega)), ?_⟩
    repeat (first | exact Below.refl _ _ | assumption | exact Below.alloc (Below.refl _ _) (Nat.le_refl _) _ | refine Below.setCell ?_ (by first | (simp; done) | (simp; omega) | omega) _ | refine below_drewN ?_ _ | refine Below.alloc ?_ (by first | (simp; done) | (simp; omega) | omega) _ | refine Below.trans ?_ (Below.mono (by assumption) (by first | (simp; done) | (simp; omega) | omega)))
  have c21 : -1000 ≤ p21 := by omega
  have d21 : p21 ≤ 1000 := by omega
  clear a21
  go_wp2_with (go_at_call 67; refine (beyond_f _ _ c21 d21).mono ?_; rintro e w' ⟨rfl, rfl⟩)
  rw [rounds_succ]
  rcases Classical.em (p22 < -1000 ∨ 1000 < p22) with a22 | a22
  · go_wp2_with (go_at_call 67; refine (beyond_t _ _ a22).mono ?_; rintro e w' ⟨rfl, rfl⟩)
    go_ret
    refine ⟨ret_int (matC_4 (by omega)), ?_⟩
    repeat (first | exact Below.refl _ _ | assumption | exact Below.alloc (Below.refl _ _) (Nat.le_refl _) _ | refine Below.setCell ?_ (by first | (simp; done) | (simp; omega) | omega) _ | refine below_drewN ?_ _ | refine Below.alloc ?_ (by first | (simp; done) | (simp; omega) | omega) _ | refine Below.trans ?_ (Below.mono (by assumption) (by first | (simp; done) | (simp; omega) | omega)))
  have c22 : -1000 ≤ p22 := by omega
  have d22 : p22 ≤ 1000 := by omega
  clear a22
  go_wp2_with (go_at_call 67; refine (beyond_f _ _ c22 d22).mono ?_; rintro e w' ⟨rfl, rfl⟩)
  rw [rounds_succ]
  go_wp2
  rw [rounds_succ]
  go_wp2
  go_ret
  refine ⟨ret_int (matC_0 (by omega)), ?_⟩
  repeat (first | exact Below.refl _ _ | assumption | exact Below.alloc (Below.refl _ _) (Nat.le_refl _) _ | refine Below.setCell ?_ (by first | (simp; done) | (simp; omega) | omega) _ | refine below_drewN ?_ _ | refine Below.alloc ?_ (by first | (simp; done) | (simp; omega) | omega) _ | refine Below.trans ?_ (Below.mono (by assumption) (by first | (simp; done) | (simp; omega) | omega)))

set_option maxHeartbeats 800000 in
theorem cof_00 (p00 p01 p02 p10 p11 p12 p20 p21 p22 : Int) (w : World) :
    Calls Try.prog 79 #[.agg #[.int .i64 p00, .int .i64 p01, .int .i64 p02, .int .i64 p10, .int .i64 p11, .int .i64 p12, .int .i64 p20, .int .i64 p21, .int .i64 p22], .int .i64 0, .int .i64 0] w fun e w' => e = .returned (.int .i64 (wrap64 (p11 * p22 - p12 * p21))) ∧ Below w.heap.size w w' := by
  go_enter Try.func79, Try.ntmps79
  go_wp2
  go_quiet (fail)
  go_wp2
  go_ret
  refine ⟨ret_int ?_, ?_⟩
  · simp only [wrap_add_l, wrap_add_r, wrap_sub_l, wrap_sub_r, wrap_mul_l, wrap_mul_r, wrap_neg, wrap_wrap, Int.zero_add]
  · repeat (first | exact Below.refl _ _ | assumption | exact Below.alloc (Below.refl _ _) (Nat.le_refl _) _ | refine Below.setCell ?_ (by first | (simp; done) | (simp; omega) | omega) _ | refine below_drewN ?_ _ | refine Below.alloc ?_ (by first | (simp; done) | (simp; omega) | omega) _ | refine Below.trans ?_ (Below.mono (by assumption) (by first | (simp; done) | (simp; omega) | omega)))

set_option maxHeartbeats 800000 in
theorem cof_01 (p00 p01 p02 p10 p11 p12 p20 p21 p22 : Int) (w : World) :
    Calls Try.prog 79 #[.agg #[.int .i64 p00, .int .i64 p01, .int .i64 p02, .int .i64 p10, .int .i64 p11, .int .i64 p12, .int .i64 p20, .int .i64 p21, .int .i64 p22], .int .i64 0, .int .i64 1] w fun e w' => e = .returned (.int .i64 (wrap64 (p12 * p20 - p10 * p22))) ∧ Below w.heap.size w w' := by
  go_enter Try.func79, Try.ntmps79
  go_wp2
  go_quiet (fail)
  go_wp2
  go_ret
  refine ⟨ret_int ?_, ?_⟩
  · simp only [wrap_add_l, wrap_add_r, wrap_sub_l, wrap_sub_r, wrap_mul_l, wrap_mul_r, wrap_neg, wrap_wrap, Int.zero_add]
  · repeat (first | exact Below.refl _ _ | assumption | exact Below.alloc (Below.refl _ _) (Nat.le_refl _) _ | refine Below.setCell ?_ (by first | (simp; done) | (simp; omega) | omega) _ | refine below_drewN ?_ _ | refine Below.alloc ?_ (by first | (simp; done) | (simp; omega) | omega) _ | refine Below.trans ?_ (Below.mono (by assumption) (by first | (simp; done) | (simp; omega) | omega)))

set_option maxHeartbeats 800000 in
theorem cof_02 (p00 p01 p02 p10 p11 p12 p20 p21 p22 : Int) (w : World) :
    Calls Try.prog 79 #[.agg #[.int .i64 p00, .int .i64 p01, .int .i64 p02, .int .i64 p10, .int .i64 p11, .int .i64 p12, .int .i64 p20, .int .i64 p21, .int .i64 p22], .int .i64 0, .int .i64 2] w fun e w' => e = .returned (.int .i64 (wrap64 (p10 * p21 - p11 * p20))) ∧ Below w.heap.size w w' := by
  go_enter Try.func79, Try.ntmps79
  go_wp2
  go_quiet (fail)
  go_wp2
  go_ret
  refine ⟨ret_int ?_, ?_⟩
  · simp only [wrap_add_l, wrap_add_r, wrap_sub_l, wrap_sub_r, wrap_mul_l, wrap_mul_r, wrap_neg, wrap_wrap, Int.zero_add]
  · repeat (first | exact Below.refl _ _ | assumption | exact Below.alloc (Below.refl _ _) (Nat.le_refl _) _ | refine Below.setCell ?_ (by first | (simp; done) | (simp; omega) | omega) _ | refine below_drewN ?_ _ | refine Below.alloc ?_ (by first | (simp; done) | (simp; omega) | omega) _ | refine Below.trans ?_ (Below.mono (by assumption) (by first | (simp; done) | (simp; omega) | omega)))

set_option maxHeartbeats 800000 in
theorem cof_10 (p00 p01 p02 p10 p11 p12 p20 p21 p22 : Int) (w : World) :
    Calls Try.prog 79 #[.agg #[.int .i64 p00, .int .i64 p01, .int .i64 p02, .int .i64 p10, .int .i64 p11, .int .i64 p12, .int .i64 p20, .int .i64 p21, .int .i64 p22], .int .i64 1, .int .i64 0] w fun e w' => e = .returned (.int .i64 (wrap64 (p21 * p02 - p22 * p01))) ∧ Below w.heap.size w w' := by
  go_enter Try.func79, Try.ntmps79
  go_wp2
  go_quiet (fail)
  go_wp2
  go_ret
  refine ⟨ret_int ?_, ?_⟩
  · simp only [wrap_add_l, wrap_add_r, wrap_sub_l, wrap_sub_r, wrap_mul_l, wrap_mul_r, wrap_neg, wrap_wrap, Int.zero_add]
  · repeat (first | exact Below.refl _ _ | assumption | exact Below.alloc (Below.refl _ _) (Nat.le_refl _) _ | refine Below.setCell ?_ (by first | (simp; done) | (simp; omega) | omega) _ | refine below_drewN ?_ _ | refine Below.alloc ?_ (by first | (simp; done) | (simp; omega) | omega) _ | refine Below.trans ?_ (Below.mono (by assumption) (by first | (simp; done) | (simp; omega) | omega)))

set_option maxHeartbeats 800000 in
theorem cof_11 (p00 p01 p02 p10 p11 p12 p20 p21 p22 : Int) (w : World) :
    Calls Try.prog 79 #[.agg #[.int .i64 p00, .int .i64 p01, .int .i64 p02, .int .i64 p10, .int .i64 p11, .int .i64 p12, .int .i64 p20, .int .i64 p21, .int .i64 p22], .int .i64 1, .int .i64 1] w fun e w' => e = .returned (.int .i64 (wrap64 (p22 * p00 - p20 * p02))) ∧ Below w.heap.size w w' := by
  go_enter Try.func79, Try.ntmps79
  go_wp2
  go_quiet (fail)
  go_wp2
  go_ret
  refine ⟨ret_int ?_, ?_⟩
  · simp only [wrap_add_l, wrap_add_r, wrap_sub_l, wrap_sub_r, wrap_mul_l, wrap_mul_r, wrap_neg, wrap_wrap, Int.zero_add]
  · repeat (first | exact Below.refl _ _ | assumption | exact Below.alloc (Below.refl _ _) (Nat.le_refl _) _ | refine Below.setCell ?_ (by first | (simp; done) | (simp; omega) | omega) _ | refine below_drewN ?_ _ | refine Below.alloc ?_ (by first | (simp; done) | (simp; omega) | omega) _ | refine Below.trans ?_ (Below.mono (by assumption) (by first | (simp; done) | (simp; omega) | omega)))

set_option maxHeartbeats 800000 in
theorem cof_12 (p00 p01 p02 p10 p11 p12 p20 p21 p22 : Int) (w : World) :
    Calls Try.prog 79 #[.agg #[.int .i64 p00, .int .i64 p01, .int .i64 p02, .int .i64 p10, .int .i64 p11, .int .i64 p12, .int .i64 p20, .int .i64 p21, .int .i64 p22], .int .i64 1, .int .i64 2] w fun e w' => e = .returned (.int .i64 (wrap64 (p20 * p01 - p21 * p00))) ∧ Below w.heap.size w w' := by
  go_enter Try.func79, Try.ntmps79
  go_wp2
  go_quiet (fail)
  go_wp2
  go_ret
  refine ⟨ret_int ?_, ?_⟩
  · simp only [wrap_add_l, wrap_add_r, wrap_sub_l, wrap_sub_r, wrap_mul_l, wrap_mul_r, wrap_neg, wrap_wrap, Int.zero_add]
  · repeat (first | exact Below.refl _ _ | assumption | exact Below.alloc (Below.refl _ _) (Nat.le_refl _) _ | refine Below.setCell ?_ (by first | (simp; done) | (simp; omega) | omega) _ | refine below_drewN ?_ _ | refine Below.alloc ?_ (by first | (simp; done) | (simp; omega) | omega) _ | refine Below.trans ?_ (Below.mono (by assumption) (by first | (simp; done) | (simp; omega) | omega)))

set_option maxHeartbeats 800000 in
theorem cof_20 (p00 p01 p02 p10 p11 p12 p20 p21 p22 : Int) (w : World) :
    Calls Try.prog 79 #[.agg #[.int .i64 p00, .int .i64 p01, .int .i64 p02, .int .i64 p10, .int .i64 p11, .int .i64 p12, .int .i64 p20, .int .i64 p21, .int .i64 p22], .int .i64 2, .int .i64 0] w fun e w' => e = .returned (.int .i64 (wrap64 (p01 * p12 - p02 * p11))) ∧ Below w.heap.size w w' := by
  go_enter Try.func79, Try.ntmps79
  go_wp2
  go_quiet (fail)
  go_wp2
  go_ret
  refine ⟨ret_int ?_, ?_⟩
  · simp only [wrap_add_l, wrap_add_r, wrap_sub_l, wrap_sub_r, wrap_mul_l, wrap_mul_r, wrap_neg, wrap_wrap, Int.zero_add]
  · repeat (first | exact Below.refl _ _ | assumption | exact Below.alloc (Below.refl _ _) (Nat.le_refl _) _ | refine Below.setCell ?_ (by first | (simp; done) | (simp; omega) | omega) _ | refine below_drewN ?_ _ | refine Below.alloc ?_ (by first | (simp; done) | (simp; omega) | omega) _ | refine Below.trans ?_ (Below.mono (by assumption) (by first | (simp; done) | (simp; omega) | omega)))

set_option maxHeartbeats 800000 in
theorem cof_21 (p00 p01 p02 p10 p11 p12 p20 p21 p22 : Int) (w : World) :
    Calls Try.prog 79 #[.agg #[.int .i64 p00, .int .i64 p01, .int .i64 p02, .int .i64 p10, .int .i64 p11, .int .i64 p12, .int .i64 p20, .int .i64 p21, .int .i64 p22], .int .i64 2, .int .i64 1] w fun e w' => e = .returned (.int .i64 (wrap64 (p02 * p10 - p00 * p12))) ∧ Below w.heap.size w w' := by
  go_enter Try.func79, Try.ntmps79
  go_wp2
  go_quiet (fail)
  go_wp2
  go_ret
  refine ⟨ret_int ?_, ?_⟩
  · simp only [wrap_add_l, wrap_add_r, wrap_sub_l, wrap_sub_r, wrap_mul_l, wrap_mul_r, wrap_neg, wrap_wrap, Int.zero_add]
  · repeat (first | exact Below.refl _ _ | assumption | exact Below.alloc (Below.refl _ _) (Nat.le_refl _) _ | refine Below.setCell ?_ (by first | (simp; done) | (simp; omega) | omega) _ | refine below_drewN ?_ _ | refine Below.alloc ?_ (by first | (simp; done) | (simp; omega) | omega) _ | refine Below.trans ?_ (Below.mono (by assumption) (by first | (simp; done) | (simp; omega) | omega)))

set_option maxHeartbeats 800000 in
theorem cof_22 (p00 p01 p02 p10 p11 p12 p20 p21 p22 : Int) (w : World) :
    Calls Try.prog 79 #[.agg #[.int .i64 p00, .int .i64 p01, .int .i64 p02, .int .i64 p10, .int .i64 p11, .int .i64 p12, .int .i64 p20, .int .i64 p21, .int .i64 p22], .int .i64 2, .int .i64 2] w fun e w' => e = .returned (.int .i64 (wrap64 (p00 * p11 - p01 * p10))) ∧ Below w.heap.size w w' := by
  go_enter Try.func79, Try.ntmps79
  go_wp2
  go_quiet (fail)
  go_wp2
  go_ret
  refine ⟨ret_int ?_, ?_⟩
  · simp only [wrap_add_l, wrap_add_r, wrap_sub_l, wrap_sub_r, wrap_mul_l, wrap_mul_r, wrap_neg, wrap_wrap, Int.zero_add]
  · repeat (first | exact Below.refl _ _ | assumption | exact Below.alloc (Below.refl _ _) (Nat.le_refl _) _ | refine Below.setCell ?_ (by first | (simp; done) | (simp; omega) | omega) _ | refine below_drewN ?_ _ | refine Below.alloc ?_ (by first | (simp; done) | (simp; omega) | omega) _ | refine Below.trans ?_ (Below.mono (by assumption) (by first | (simp; done) | (simp; omega) | omega)))

def cofv (i j : Int) (p00 p01 p02 p10 p11 p12 p20 p21 p22 : Int) : Int :=
  if i = 0 ∧ j = 0 then wrap64 (p11 * p22 - p12 * p21) else if i = 0 ∧ j = 1 then wrap64 (p12 * p20 - p10 * p22) else if i = 0 ∧ j = 2 then wrap64 (p10 * p21 - p11 * p20) else if i = 1 ∧ j = 0 then wrap64 (p21 * p02 - p22 * p01) else if i = 1 ∧ j = 1 then wrap64 (p22 * p00 - p20 * p02) else if i = 1 ∧ j = 2 then wrap64 (p20 * p01 - p21 * p00) else if i = 2 ∧ j = 0 then wrap64 (p01 * p12 - p02 * p11) else if i = 2 ∧ j = 1 then wrap64 (p02 * p10 - p00 * p12) else if i = 2 ∧ j = 2 then wrap64 (p00 * p11 - p01 * p10) else 0
theorem cof_any (p00 p01 p02 p10 p11 p12 p20 p21 p22 : Int) (i j : Int) (h : (0 ≤ i ∧ i ≤ 2) ∧ (0 ≤ j ∧ j ≤ 2)) (w : World) : Calls Try.prog 79 #[.agg #[.int .i64 p00, .int .i64 p01, .int .i64 p02, .int .i64 p10, .int .i64 p11, .int .i64 p12, .int .i64 p20, .int .i64 p21, .int .i64 p22], .int .i64 i, .int .i64 j] w fun e w' => e = .returned (.int .i64 (cofv i j p00 p01 p02 p10 p11 p12 p20 p21 p22)) ∧ Below w.heap.size w w' := by
  rcases (by omega : i = 0 ∨ i = 1 ∨ i = 2) with rfl | rfl | rfl <;> rcases (by omega : j = 0 ∨ j = 1 ∨ j = 2) with rfl | rfl | rfl
  · exact cof_00 p00 p01 p02 p10 p11 p12 p20 p21 p22 w
  · exact cof_01 p00 p01 p02 p10 p11 p12 p20 p21 p22 w
  · exact cof_02 p00 p01 p02 p10 p11 p12 p20 p21 p22 w
  · exact cof_10 p00 p01 p02 p10 p11 p12 p20 p21 p22 w
  · exact cof_11 p00 p01 p02 p10 p11 p12 p20 p21 p22 w
  · exact cof_12 p00 p01 p02 p10 p11 p12 p20 p21 p22 w
  · exact cof_20 p00 p01 p02 p10 p11 p12 p20 p21 p22 w
  · exact cof_21 p00 p01 p02 p10 p11 p12 p20 p21 p22 w
  · exact cof_22 p00 p01 p02 p10 p11 p12 p20 p21 p22 w
end Go.Proofs.Ytdhlkhockpblhaa.M
