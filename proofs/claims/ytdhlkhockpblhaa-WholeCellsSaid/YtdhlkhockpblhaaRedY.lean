/-
  Matrices of determinant 1 or -1: what the program and the reference say.
-/
import Derived.Test.YtdhlkhockpblhaaRedX
import Derived.Test.YtdhlkhockpblhaaRedH
namespace Go.Proofs.Ytdhlkhockpblhaa
open Go.RowKit
attribute [local irreducible] World.setCell

set_option linter.unusedSimpArgs false
set_option linter.unusedVariables false

def matC (p00 p01 p02 p10 p11 p12 p20 p21 p22 : Int) : Int := if (-1000 ≤ p00 ∧ p00 ≤ 1000) ∧ (-1000 ≤ p01 ∧ p01 ≤ 1000) ∧ (-1000 ≤ p02 ∧ p02 ≤ 1000) ∧ (-1000 ≤ p10 ∧ p10 ≤ 1000) ∧ (-1000 ≤ p11 ∧ p11 ≤ 1000) ∧ (-1000 ≤ p12 ∧ p12 ≤ 1000) ∧ (-1000 ≤ p20 ∧ p20 ≤ 1000) ∧ (-1000 ≤ p21 ∧ p21 ≤ 1000) ∧ (-1000 ≤ p22 ∧ p22 ≤ 1000) then 0 else 4
def d9 (p00 p01 p02 p10 p11 p12 p20 p21 p22 : Int) : Int := p00 * p11 * p22 - p00 * p12 * p21 + (p01 * p12 * p20 - p01 * p10 * p22) + (p02 * p10 * p21 - p02 * p11 * p20)
def formC (p00 p01 p02 p10 p11 p12 p20 p21 p22 : Int) : Int := if (-1000 ≤ p00 ∧ p00 ≤ 1000) ∧ (-1000 ≤ p01 ∧ p01 ≤ 1000) ∧ (-1000 ≤ p02 ∧ p02 ≤ 1000) ∧ (-1000 ≤ p10 ∧ p10 ≤ 1000) ∧ (-1000 ≤ p11 ∧ p11 ≤ 1000) ∧ (-1000 ≤ p12 ∧ p12 ≤ 1000) ∧ (-1000 ≤ p20 ∧ p20 ≤ 1000) ∧ (-1000 ≤ p21 ∧ p21 ≤ 1000) ∧ (-1000 ≤ p22 ∧ p22 ≤ 1000) then (if wrap64 (d9 p00 p01 p02 p10 p11 p12 p20 p21 p22) = 1 ∨ wrap64 (d9 p00 p01 p02 p10 p11 p12 p20 p21 p22) = -1 then 0 else 3) else 4
theorem matC_4 {p00 p01 p02 p10 p11 p12 p20 p21 p22 : Int} (h : ¬ ((-1000 ≤ p00 ∧ p00 ≤ 1000) ∧ (-1000 ≤ p01 ∧ p01 ≤ 1000) ∧ (-1000 ≤ p02 ∧ p02 ≤ 1000) ∧ (-1000 ≤ p10 ∧ p10 ≤ 1000) ∧ (-1000 ≤ p11 ∧ p11 ≤ 1000) ∧ (-1000 ≤ p12 ∧ p12 ≤ 1000) ∧ (-1000 ≤ p20 ∧ p20 ≤ 1000) ∧ (-1000 ≤ p21 ∧ p21 ≤ 1000) ∧ (-1000 ≤ p22 ∧ p22 ≤ 1000))) : 4 = matC p00 p01 p02 p10 p11 p12 p20 p21 p22 := (if_neg h).symm
theorem matC_0 {p00 p01 p02 p10 p11 p12 p20 p21 p22 : Int} (h : (-1000 ≤ p00 ∧ p00 ≤ 1000) ∧ (-1000 ≤ p01 ∧ p01 ≤ 1000) ∧ (-1000 ≤ p02 ∧ p02 ≤ 1000) ∧ (-1000 ≤ p10 ∧ p10 ≤ 1000) ∧ (-1000 ≤ p11 ∧ p11 ≤ 1000) ∧ (-1000 ≤ p12 ∧ p12 ≤ 1000) ∧ (-1000 ≤ p20 ∧ p20 ≤ 1000) ∧ (-1000 ≤ p21 ∧ p21 ≤ 1000) ∧ (-1000 ≤ p22 ∧ p22 ≤ 1000)) : 0 = matC p00 p01 p02 p10 p11 p12 p20 p21 p22 := (if_pos h).symm
@[go_sem] theorem idxw0 (p00 p01 p02 p10 p11 p12 p20 p21 p22 : Int) (w : World) : (Instr.index 26 (.agg #[.int .i64 p00, .int .i64 p01, .int .i64 p02, .int .i64 p10, .int .i64 p11, .int .i64 p12, .int .i64 p20, .int .i64 p21, .int .i64 p22]) (.int .i64 0)).run Try.prog w = .ok (.agg #[.int .i64 p00, .int .i64 p01, .int .i64 p02]) w := by kernel_rfl
@[go_sem] theorem idxw1 (p00 p01 p02 p10 p11 p12 p20 p21 p22 : Int) (w : World) : (Instr.index 26 (.agg #[.int .i64 p00, .int .i64 p01, .int .i64 p02, .int .i64 p10, .int .i64 p11, .int .i64 p12, .int .i64 p20, .int .i64 p21, .int .i64 p22]) (.int .i64 1)).run Try.prog w = .ok (.agg #[.int .i64 p10, .int .i64 p11, .int .i64 p12]) w := by kernel_rfl
@[go_sem] theorem idxw2 (p00 p01 p02 p10 p11 p12 p20 p21 p22 : Int) (w : World) : (Instr.index 26 (.agg #[.int .i64 p00, .int .i64 p01, .int .i64 p02, .int .i64 p10, .int .i64 p11, .int .i64 p12, .int .i64 p20, .int .i64 p21, .int .i64 p22]) (.int .i64 2)).run Try.prog w = .ok (.agg #[.int .i64 p20, .int .i64 p21, .int .i64 p22]) w := by kernel_rfl
set_option maxHeartbeats 400000 in
theorem beyond_t (x : Int) (w : World) (h : x < -1000 ∨ 1000 < x):
    Calls Try.prog 67 #[.int .i64 x, .int .i64 1000] w fun e w' => e = .returned (.bool true) ∧ w = w' := by
  go_enter Try.func67, Try.ntmps67
  rcases h with h | h
  all_goals go_wp2
  all_goals go_ret
  all_goals exact ⟨rfl, rfl⟩

set_option maxHeartbeats 400000 in
theorem beyond_f (x : Int) (w : World) (h1 : -1000 ≤ x) (h2 : x ≤ 1000):
    Calls Try.prog 67 #[.int .i64 x, .int .i64 1000] w fun e w' => e = .returned (.bool false) ∧ w = w' := by
  have e1 : decide (x < -1000) = false := decide_eq_false (by omega)
  have e2 : decide (1000 < x) = false := decide_eq_false (by omega)
  go_enter Try.func67, Try.ntmps67
  go_wp2
  go_ret
  refine ⟨?_, rfl⟩
  simp [e1, e2]

set_option maxHeartbeats 3200000 in
theorem vcheck_any (p00 p01 p02 p10 p11 p12 p20 p21 p22 : Int) (w : World) :
    Calls Try.prog 36 #[.agg #[.int .i64 p00, .int .i64 p01, .int .i64 p02, .int .i64 p10, .int .i64 p11, .int .i64 p12, .int .i64 p20, .int .i64 p21, .int .i64 p22]] w fun e w' => e = .returned (.int .i64 (matC p00 p01 p02 p10 p11 p12 p20 p21 p22)) ∧ Below w.heap.size w w' := by
  go_enter Try.func36, Try.ntmps36
  go_wp2
  refine wp_loop_rounds 4 ?_
  rw [rounds_succ]
  go_wp2
  refine wp_loop_rounds 4 ?_
  rw [rounds_succ]
  rcases Classical.em (p00 < -1000 ∨ 1000 < p00) with a00 | a00
  · go_wp2_with (go_at_call 67; refine (beyond_t _ _ a00).mono ?_; rintro e w' ⟨rfl, rfl⟩)
    go_ret
    refine ⟨ret_int (matC_4 (by omega)), ?_⟩
    repeat (first | exact Below.refl _ _ | assumption | exact Below.alloc (Below.refl _ _) (Nat.le_refl _) _ | refine Below.setCell ?_ (by first | (simp; done) | (simp; omega) | omega) _ | refine below_drewN ?_ _ | refine Below.alloc ?_ (by first | (simp; done) | (simp; omega) | omega) _ | refine Below.trans ?_ (Below.mono (by assumption) (by first | (simp; done) | (simp; omega) | omega)))
  have c00 : -1000 ≤ p00 := by omega
  have d00 : p00 ≤ 1000 := by omega
  clear a00
  go_wp2_with (go_at_call 67; refine (beyond_f _ _ c00 d00).mono ?_; rintro e w' ⟨rfl, rfl⟩)
  rw [rounds_succ]
  rcases Classical.em (p01 < -1000 ∨ 1000 < p01) with a01 | a01
  · go_wp2_with (go_at_call 67; refine (beyond_t _ _ a01).mono ?_; rintro e w' ⟨rfl, rfl⟩)
    go_ret
    refine ⟨ret_int (matC_4 (by omega)), ?_⟩
    repeat (first | exact Below.refl _ _ | assumption | exact Below.alloc (Below.refl _ _) (Nat.le_refl _) _ | refine Below.setCell ?_ (by first | (simp; done) | (simp; omega) | omega) _ | refine below_drewN ?_ _ | refine Below.alloc ?_ (by first | (simp; done) | (simp; omega) | omega) _ | refine Below.trans ?_ (Below.mono (by assumption) (by first | (simp; done) | (simp; omega) | omega)))
  have c01 : -1000 ≤ p01 := by omega
  have d01 : p01 ≤ 1000 := by omega
  clear a01
  go_wp2_with (go_at_call 67; refine (beyond_f _ _ c01 d01).mono ?_; rintro e w' ⟨rfl, rfl⟩)
  rw [rounds_succ]
  rcases Classical.em (p02 < -1000 ∨ 1000 < p02) with a02 | a02
  · go_wp2_with (go_at_call 67; refine (beyond_t _ _ a02).mono ?_; rintro e w' ⟨rfl, rfl⟩)
    go_ret
    refine ⟨ret_int (matC_4 (by omega)), ?_⟩
    repeat (first | exact Below.refl _ _ | assumption | exact Below.alloc (Below.refl _ _) (Nat.le_refl _) _ | refine Below.setCell ?_ (by first | (simp; done) | (simp; omega) | omega) _ | refine below_drewN ?_ _ | refine Below.alloc ?_ (by first | (simp; done) | (simp; omega) | omega) _ | refine Below.trans ?_ (Below.mono (by assumption) (by first | (simp; done) | (simp; omega) | omega)))
  have c02 : -1000 ≤ p02 := by omega
  have d02 : p02 ≤ 1000 := by omega
  clear a02
  go_wp2_with (go_at_call 67; refine (beyond_f _ _ c02 d02).mono ?_; rintro e w' ⟨rfl, rfl⟩)
  rw [rounds_succ]
  go_wp2
  rw [rounds_succ]
  go_wp2
  refine wp_loop_rounds 4 ?_
  rw [rounds_succ]
  rcases Classical.em (p10 < -1000 ∨ 1000 < p10) with a10 | a10
  · go_wp2_with (go_at_call 67; refine (beyond_t _ _ a10).mono ?_; rintro e w' ⟨rfl, rfl⟩)
    go_ret
    refine ⟨ret_int (matC_4 (by omega)), ?_⟩
    repeat (first | exact Below.refl _ _ | assumption | exact Below.alloc (Below.refl _ _) (Nat.le_refl _) _ | refine Below.setCell ?_ (by first | (simp; done) | (simp; omega) | omega) _ | refine below_drewN ?_ _ | refine Below.alloc ?_ (by first | (simp; done) | (simp; omega) | omega) _ | refine Below.trans ?_ (Below.mono (by assumption) (by first | (simp; done) | (simp; omega) | omega)))
  have c10 : -1000 ≤ p10 := by omega
  have d10 : p10 ≤ 1000 := by omega
  clear a10
  go_wp2_with (go_at_call 67; refine (beyond_f _ _ c10 d10).mono ?_; rintro e w' ⟨rfl, rfl⟩)
  rw [rounds_succ]
  rcases Classical.em (p11 < -1000 ∨ 1000 < p11) with a11 | a11
  · go_wp2_with (go_at_call 67; refine (beyond_t _ _ a11).mono ?_; rintro e w' ⟨rfl, rfl⟩)
    go_ret
    refine ⟨ret_int (matC_4 (by omega)), ?_⟩
    repeat (first | exact Below.refl _ _ | assumption | exact Below.alloc (Below.refl _ _) (Nat.le_refl _) _ | refine Below.setCell ?_ (by first | (simp; done) | (simp; omega) | omega) _ | refine below_drewN ?_ _ | refine Below.alloc ?_ (by first | (simp; done) | (simp; omega) | omega) _ | refine Below.trans ?_ (Below.mono (by assumption) (by first | (simp; done) | (simp; omega) | omega)))
  have c11 : -1000 ≤ p11 := by omega
  have d11 : p11 ≤ 1000 := by omega
  clear a11
  go_wp2_with (go_at_call 67; refine (beyond_f _ _ c11 d11).mono ?_; rintro e w' ⟨rfl, rfl⟩)
  rw [rounds_succ]
  rcases Classical.em (p12 < -1000 ∨ 1000 < p12) with a12 | a12
  · go_wp2_with (go_at_call 67; refine (beyond_t _ _ a12).mono ?_; rintro e w' ⟨rfl, rfl⟩)
    go_ret
    refine ⟨ret_int (matC_4 (by omega)), ?_⟩
    repeat (first | exact Below.refl _ _ | assumption | exact Below.alloc (Below.refl _ _) (Nat.le_refl _) _ | refine Below.setCell ?_ (by first | (simp; done) | (simp; omega) | omega) _ | refine below_drewN ?_ _ | refine Below.alloc ?_ (by first | (simp; done) | (simp; omega) | omega) _ | refine Below.trans ?_ (Below.mono (by assumption) (by first | (simp; done) | (simp; omega) | omega)))
  have c12 : -1000 ≤ p12 := by omega
  have d12 : p12 ≤ 1000 := by omega
  clear a12
  go_wp2_with (go_at_call 67; refine (beyond_f _ _ c12 d12).mono ?_; rintro e w' ⟨rfl, rfl⟩)
  rw [rounds_succ]
  go_wp2
  rw [rounds_succ]
  go_wp2
  refine wp_loop_rounds 4 ?_
  rw [rounds_succ]
  rcases Classical.em (p20 < -1000 ∨ 1000 < p20) with a20 | a20
  · go_wp2_with (go_at_call 67; refine (beyond_t _ _ a20).mono ?_; rintro e w' ⟨rfl, rfl⟩)
    go_ret
    refine ⟨ret_int (matC_4 (by omega)), ?_⟩
    repeat (first | exact Below.refl _ _ | assumption | exact Below.alloc (Below.refl _ _) (Nat.le_refl _) _ | refine Below.setCell ?_ (by first | (simp; done) | (simp; omega) | omega) _ | refine below_drewN ?_ _ | refine Below.alloc ?_ (by first | (simp; done) | (simp; omega) | omega) _ | refine Below.trans ?_ (Below.mono (by assumption) (by first | (simp; done) | (simp; omega) | omega)))
  have c20 : -1000 ≤ p20 := by omega
  have d20 : p20 ≤ 1000 := by omega
  clear a20
  go_wp2_with (go_at_call 67; refine (beyond_f _ _ c20 d20).mono ?_; rintro e w' ⟨rfl, rfl⟩)
  rw [rounds_succ]
  rcases Classical.em (p21 < -1000 ∨ 1000 < p21) with a21 | a21
  · go_wp2_with (go_at_call 67; refine (beyond_t _ _ a21).mono ?_; rintro e w' ⟨rfl, rfl⟩)
    go_ret
    refine ⟨ret_int (matC_4 (by omega)), ?_⟩
    repeat (first | exact Below.refl _ _ | assumption | exact Below.alloc (Below.refl _ _) (Nat.le_refl _) _ | refine Below.setCell ?_ (by first | (simp; done) | (simp; omega) | omega) _ | refine below_drewN ?_ _ | refine Below.alloc ?_ (by first | (simp; done) | (simp; omega) | omega) _ | refine Below.trans ?_ (Below.mono (by assumption) (by first | (simp; done) | (simp; omega) | omega)))
  have c21 : -1000 ≤ p21 := by omega
  have d21 : p21 ≤ 1000 := by omega
  clear a21
  go_wp2_with (go_at_call 67; refine (beyond_f _ _ c21 d21).mono ?_; rintro e w' ⟨rfl, rfl⟩)
  rw [rounds_succ]
  rcases Classical.em (p22 < -1000 ∨ 1000 < p22) with a22 | a22
  · go_wp2_with (go_at_call 67; refine (beyond_t _ _ a22).mono ?_; rintro e w' ⟨rfl, rfl⟩)
    go_ret
    refine ⟨ret_int (matC_4 (by omega)), ?_⟩
    repeat (first | exact Below.refl _ _ | assumption | exact Below.alloc (Below.refl _ _) (Nat.le_refl _) _ | refine Below.setCell ?_ (by first | (simp; done) | (simp; omega) | omega) _ | refine below_drewN ?_ _ | refine Below.alloc ?_ (by first | (simp; done) | (simp; omega) | omega) _ | refine Below.trans ?_ (Below.mono (by assumption) (by first | (simp; done) | (simp; omega) | omega)))
  have c22 : -1000 ≤ p22 := by omega
  have d22 : p22 ≤ 1000 := by omega
  clear a22
  go_wp2_with (go_at_call 67; refine (beyond_f _ _ c22 d22).mono ?_; rintro e w' ⟨rfl, rfl⟩)
  rw [rounds_succ]
  go_wp2
  rw [rounds_succ]
  go_wp2
  go_ret
  refine ⟨ret_int (matC_0 (by omega)), ?_⟩
  repeat (first | exact Below.refl _ _ | assumption | exact Below.alloc (Below.refl _ _) (Nat.le_refl _) _ | refine Below.setCell ?_ (by first | (simp; done) | (simp; omega) | omega) _ | refine below_drewN ?_ _ | refine Below.alloc ?_ (by first | (simp; done) | (simp; omega) | omega) _ | refine Below.trans ?_ (Below.mono (by assumption) (by first | (simp; done) | (simp; omega) | omega)))

set_option maxHeartbeats 3200000 in
theorem rMat_any (p00 p01 p02 p10 p11 p12 p20 p21 p22 : Int) (w : World) :
    Calls Try.prog 77 #[.agg #[.int .i64 p00, .int .i64 p01, .int .i64 p02, .int .i64 p10, .int .i64 p11, .int .i64 p12, .int .i64 p20, .int .i64 p21, .int .i64 p22]] w fun e w' => e = .returned (.int .i64 (matC p00 p01 p02 p10 p11 p12 p20 p21 p22)) ∧ Below w.heap.size w w' := by
  go_enter Try.func77, Try.ntmps77
  go_wp2
  refine wp_loop_rounds 4 ?_
  rw [rounds_succ]
  go_wp2
  refine wp_loop_rounds 4 ?_
  rw [rounds_succ]
  rcases Int.lt_or_le p00 (-1000) with a00 | a00
  · go_wp2
    go_ret
    refine ⟨ret_int (matC_4 (by omega)), ?_⟩
    repeat (first | exact Below.refl _ _ | assumption | exact Below.alloc (Below.refl _ _) (Nat.le_refl _) _ | refine Below.setCell ?_ (by first | (simp; done) | (simp; omega) | omega) _ | refine below_drewN ?_ _ | refine Below.alloc ?_ (by first | (simp; done) | (simp; omega) | omega) _ | refine Below.trans ?_ (Below.mono (by assumption) (by first | (simp; done) | (simp; omega) | omega)))
  rcases Int.lt_or_le 1000 p00 with b00 | b00
  · go_wp2
    go_ret
    refine ⟨ret_int (matC_4 (by omega)), ?_⟩
    repeat (first | exact Below.refl _ _ | assumption | exact Below.alloc (Below.refl _ _) (Nat.le_refl _) _ | refine Below.setCell ?_ (by first | (simp; done) | (simp; omega) | omega) _ | refine below_drewN ?_ _ | refine Below.alloc ?_ (by first | (simp; done) | (simp; omega) | omega) _ | refine Below.trans ?_ (Below.mono (by assumption) (by first | (simp; done) | (simp; omega) | omega)))
  go_wp2
  rw [rounds_succ]
  rcases Int.lt_or_le p01 (-1000) with a01 | a01
  · go_wp2
    go_ret
    refine ⟨ret_int (matC_4 (by omega)), ?_⟩
    repeat (first | exact Below.refl _ _ | assumption | exact Below.alloc (Below.refl _ _) (Nat.le_refl _) _ | refine Below.setCell ?_ (by first | (simp; done) | (simp; omega) | omega) _ | refine below_drewN ?_ _ | refine Below.alloc ?_ (by first | (simp; done) | (simp; omega) | omega) _ | refine Below.trans ?_ (Below.mono (by assumption) (by first | (simp; done) | (simp; omega) | omega)))
  rcases Int.lt_or_le 1000 p01 with b01 | b01
  · go_wp2
    go_ret
    refine ⟨ret_int (matC_4 (by omega)), ?_⟩
    repeat (first | exact Below.refl _ _ | assumption | exact Below.alloc (Below.refl _ _) (Nat.le_refl _) _ | refine Below.setCell ?_ (by first | (simp; done) | (simp; omega) | omega) _ | refine below_drewN ?_ _ | refine Below.alloc ?_ (by first | (simp; done) | (simp; omega) | omega) _ | refine Below.trans ?_ (Below.mono (by assumption) (by first | (simp; done) | (simp; omega) | omega)))
  go_wp2
  rw [rounds_succ]
  rcases Int.lt_or_le p02 (-1000) with a02 | a02
  · go_wp2
    go_ret
    refine ⟨ret_int (matC_4 (by omega)), ?_⟩
    repeat (first | exact Below.refl _ _ | assumption | exact Below.alloc (Below.refl _ _) (Nat.le_refl _) _ | refine Below.setCell ?_ (by first | (simp; done) | (simp; omega) | omega) _ | refine below_drewN ?_ _ | refine Below.alloc ?_ (by first | (simp; done) | (simp; omega) | omega) _ | refine Below.trans ?_ (Below.mono (by assumption) (by first | (simp; done) | (simp; omega) | omega)))
  rcases Int.lt_or_le 1000 p02 with b02 | b02
  · go_wp2
    go_ret
    refine ⟨ret_int (matC_4 (by omega)), ?_⟩
    repeat (first | exact Below.refl _ _ | assumption | exact Below.alloc (Below.refl _ _) (Nat.le_refl _) _ | refine Below.setCell ?_ (by first | (simp; done) | (simp; omega) | omega) _ | refine below_drewN ?_ _ | refine Below.alloc ?_ (by first | (simp; done) | (simp; omega) | omega) _ | refine Below.trans ?_ (Below.mono (by assumption) (by first | (simp; done) | (simp; omega) | omega)))
  go_wp2
  rw [rounds_succ]
  go_wp2
  rw [rounds_succ]
  go_wp2
  refine wp_loop_rounds 4 ?_
  rw [rounds_succ]
  rcases Int.lt_or_le p10 (-1000) with a10 | a10
  · go_wp2
    go_ret
    refine ⟨ret_int (matC_4 (by omega)), ?_⟩
    repeat (first | exact Below.refl _ _ | assumption | exact Below.alloc (Below.refl _ _) (Nat.le_refl _) _ | refine Below.setCell ?_ (by first | (simp; done) | (simp; omega) | omega) _ | refine below_drewN ?_ _ | refine Below.alloc ?_ (by first | (simp; done) | (simp; omega) | omega) _ | refine Below.trans ?_ (Below.mono (by assumption) (by first | (simp; done) | (simp; omega) | omega)))
  rcases Int.lt_or_le 1000 p10 with b10 | b10
  · go_wp2
    go_ret
    refine ⟨ret_int (matC_4 (by omega)), ?_⟩
    repeat (first | exact Below.refl _ _ | assumption | exact Below.alloc (Below.refl _ _) (Nat.le_refl _) _ | refine Below.setCell ?_ (by first | (simp; done) | (simp; omega) | omega) _ | refine below_drewN ?_ _ | refine Below.alloc ?_ (by first | (simp; done) | (simp; omega) | omega) _ | refine Below.trans ?_ (Below.mono (by assumption) (by first | (simp; done) | (simp; omega) | omega)))
  go_wp2
  rw [rounds_succ]
  rcases Int.lt_or_le p11 (-1000) with a11 | a11
  · go_wp2
    go_ret
    refine ⟨ret_int (matC_4 (by omega)), ?_⟩
    repeat (first | exact Below.refl _ _ | assumption | exact Below.alloc (Below.refl _ _) (Nat.le_refl _) _ | refine Below.setCell ?_ (by first | (simp; done) | (simp; omega) | omega) _ | refine below_drewN ?_ _ | refine Below.alloc ?_ (by first | (simp; done) | (simp; omega) | omega) _ | refine Below.trans ?_ (Below.mono (by assumption) (by first | (simp; done) | (simp; omega) | omega)))
  rcases Int.lt_or_le 1000 p11 with b11 | b11
  · go_wp2
    go_ret
    refine ⟨ret_int (matC_4 (by omega)), ?_⟩
    repeat (first | exact Below.refl _ _ | assumption | exact Below.alloc (Below.refl _ _) (Nat.le_refl _) _ | refine Below.setCell ?_ (by first | (simp; done) | (simp; omega) | omega) _ | refine below_drewN ?_ _ | refine Below.alloc ?_ (by first | (simp; done) | (simp; omega) | omega) _ | refine Below.trans ?_ (Below.mono (by assumption) (by first | (simp; done) | (simp; omega) | omega)))
  go_wp2
  rw [rounds_succ]
  rcases Int.lt_or_le p12 (-1000) with a12 | a12
  · go_wp2
    go_ret
    refine ⟨ret_int (matC_4 (by omega)), ?_⟩
    repeat (first | exact Below.refl _ _ | assumption | exact Below.alloc (Below.refl _ _) (Nat.le_refl _) _ | refine Below.setCell ?_ (by first | (simp; done) | (simp; omega) | omega) _ | refine below_drewN ?_ _ | refine Below.alloc ?_ (by first | (simp; done) | (simp; omega) | omega) _ | refine Below.trans ?_ (Below.mono (by assumption) (by first | (simp; done) | (simp; omega) | omega)))
  rcases Int.lt_or_le 1000 p12 with b12 | b12
  · go_wp2
    go_ret
    refine ⟨ret_int (matC_4 (by omega)), ?_⟩
    repeat (first | exact Below.refl _ _ | assumption | exact Below.alloc (Below.refl _ _) (Nat.le_refl _) _ | refine Below.setCell ?_ (by first | (simp; done) | (simp; omega) | omega) _ | refine below_drewN ?_ _ | refine Below.alloc ?_ (by first | (simp; done) | (simp; omega) | omega) _ | refine Below.trans ?_ (Below.mono (by assumption) (by first | (simp; done) | (simp; omega) | omega)))
  go_wp2
  rw [rounds_succ]
  go_wp2
  rw [rounds_succ]
  go_wp2
  refine wp_loop_rounds 4 ?_
  rw [rounds_succ]
  rcases Int.lt_or_le p20 (-1000) with a20 | a20
  · go_wp2
    go_ret
    refine ⟨ret_int (matC_4 (by omega)), ?_⟩
    repeat (first | exact Below.refl _ _ | assumption | exact Below.alloc (Below.refl _ _) (Nat.le_refl _) _ | refine Below.setCell ?_ (by first | (simp; done) | (simp; omega) | omega) _ | refine below_drewN ?_ _ | refine Below.alloc ?_ (by first | (simp; done) | (simp; omega) | omega) _ | refine Below.trans ?_ (Below.mono (by assumption) (by first | (simp; done) | (simp; omega) | omega)))
  rcases Int.lt_or_le 1000 p20 with b20 | b20
  · go_wp2
    go_ret
    refine ⟨ret_int (matC_4 (by omega)), ?_⟩
    repeat (first | exact Below.refl _ _ | assumption | exact Below.alloc (Below.refl _ _) (Nat.le_refl _) _ | refine Below.setCell ?_ (by first | (simp; done) | (simp; omega) | omega) _ | refine below_drewN ?_ _ | refine Below.alloc ?_ (by first | (simp; done) | (simp; omega) | omega) _ | refine Below.trans ?_ (Below.mono (by assumption) (by first | (simp; done) | (simp; omega) | omega)))
  go_wp2
  rw [rounds_succ]
  rcases Int.lt_or_le p21 (-1000) with a21 | a21
  · go_wp2
    go_ret
    refine ⟨ret_int (matC_4 (by omega)), ?_⟩
    repeat (first | exact Below.refl _ _ | assumption | exact Below.alloc (Below.refl _ _) (Nat.le_refl _) _ | refine Below.setCell ?_ (by first | (simp; done) | (simp; omega) | omega) _ | refine below_drewN ?_ _ | refine Below.alloc ?_ (by first | (simp; done) | (simp; omega) | omega) _ | refine Below.trans ?_ (Below.mono (by assumption) (by first | (simp; done) | (simp; omega) | omega)))
  rcases Int.lt_or_le 1000 p21 with b21 | b21
  · go_wp2
    go_ret
    refine ⟨ret_int (matC_4 (by omega)), ?_⟩
    repeat (first | exact Below.refl _ _ | assumption | exact Below.alloc (Below.refl _ _) (Nat.le_refl _) _ | refine Below.setCell ?_ (by first | (simp; done) | (simp; omega) | omega) _ | refine below_drewN ?_ _ | refine Below.alloc ?_ (by first | (simp; done) | (simp; omega) | omega) _ | refine Below.trans ?_ (Below.mono (by assumption) (by first | (simp; done) | (simp; omega) | omega)))
  go_wp2
  rw [rounds_succ]
  rcases Int.lt_or_le p22 (-1000) with a22 | a22
  · go_wp2
    go_ret
    refine ⟨ret_int (matC_4 (by omega)), ?_⟩
    repeat (first | exact Below.refl _ _ | assumption | exact Below.alloc (Below.refl _ _) (Nat.le_refl _) _ | refine Below.setCell ?_ (by first | (simp; done) | (simp; omega) | omega) _ | refine below_drewN ?_ _ | refine Below.alloc ?_ (by first | (simp; done) | (simp; omega) | omega) _ | refine Below.trans ?_ (Below.mono (by assumption) (by first | (simp; done) | (simp; omega) | omega)))
  rcases Int.lt_or_le 1000 p22 with b22 | b22
  · go_wp2
    go_ret
    refine ⟨ret_int (matC_4 (by omega)), ?_⟩
    repeat (first | exact Below.refl _ _ | assumption | exact Below.alloc (Below.refl _ _) (Nat.le_refl _) _ | refine Below.setCell ?_ (by first | (simp; done) | (simp; omega) | omega) _ | refine below_drewN ?_ _ | refine Below.alloc ?_ (by first | (simp; done) | (simp; omega) | omega) _ | refine Below.trans ?_ (Below.mono (by assumption) (by first | (simp; done) | (simp; omega) | omega)))
  go_wp2
  rw [rounds_succ]
  go_wp2
  rw [rounds_succ]
  go_wp2
  go_ret
  refine ⟨ret_int (matC_0 (by omega)), ?_⟩
  repeat (first | exact Below.refl _ _ | assumption | exact Below.alloc (Below.refl _ _) (Nat.le_refl _) _ | refine Below.setCell ?_ (by first | (simp; done) | (simp; omega) | omega) _ | refine below_drewN ?_ _ | refine Below.alloc ?_ (by first | (simp; done) | (simp; omega) | omega) _ | refine Below.trans ?_ (Below.mono (by assumption) (by first | (simp; done) | (simp; omega) | omega)))

end Go.Proofs.Ytdhlkhockpblhaa
