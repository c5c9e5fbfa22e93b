/-
  Small functions of cell: products, adjugates.
-/
import Derived.Test.YtdhlkhockpblhaaRedC
import Derived.Test.YtdhlkhockpblhaaCelB
namespace Go.Proofs.Ytdhlkhockpblhaa
open Go.RowKit
attribute [local irreducible] World.setCell

set_option linter.unusedSimpArgs false
set_option linter.unusedVariables false

set_option maxHeartbeats 3200000 in
set_option maxRecDepth 100000 in
theorem cproduct_any (g00 g01 g02 g10 g11 g12 g20 g21 g22 u0 u1 u2 v0 v1 v2 : Int) (w : World) :
    Calls Try.prog 62 #[.agg #[.int .i64 g00, .int .i64 g01, .int .i64 g02, .int .i64 g10, .int .i64 g11, .int .i64 g12, .int .i64 g20, .int .i64 g21, .int .i64 g22], .agg #[.int .i64 u0, .int .i64 u1, .int .i64 u2], .agg #[.int .i64 v0, .int .i64 v1, .int .i64 v2]] w fun e w' => e = .returned (.int .i64 (wrap64 (u0 * g00 * v0 + u0 * g01 * v1 + u0 * g02 * v2 + u1 * g10 * v0 + u1 * g11 * v1 + u1 * g12 * v2 + u2 * g20 * v0 + u2 * g21 * v1 + u2 * g22 * v2))) ∧ Below w.heap.size w w' := by
  go_enter Try.func62, Try.ntmps62
  go_wp2
  refine wp_loop_rounds 4 ?_
  rw [rounds_succ]
  go_wp2
  refine wp_loop_rounds 4 ?_
  rw [rounds_succ]
  go_wp2
  go_quiet (fail)
  go_wp2
  rw [rounds_succ]
  go_wp2
  go_quiet (fail)
  go_wp2
  rw [rounds_succ]
  go_wp2
  go_quiet (fail)
  go_wp2
  rw [rounds_succ]
  go_wp2
  rw [rounds_succ]
  go_wp2
  refine wp_loop_rounds 4 ?_
  rw [rounds_succ]
  go_wp2
  go_quiet (fail)
  go_wp2
  rw [rounds_succ]
  go_wp2
  go_quiet (fail)
  go_wp2
  rw [rounds_succ]
  go_wp2
  go_quiet (fail)
  go_wp2
  rw [rounds_succ]
  go_wp2
  rw [rounds_succ]
  go_wp2
  refine wp_loop_rounds 4 ?_
  rw [rounds_succ]
  go_wp2
  go_quiet (fail)
  go_wp2
  rw [rounds_succ]
  go_wp2
  go_quiet (fail)
  go_wp2
  rw [rounds_succ]
  go_wp2
  go_quiet (fail)
  go_wp2
  rw [rounds_succ]
  go_wp2
  rw [rounds_succ]
  go_wp2
  go_ret
  refine ⟨ret_int ?_, ?_⟩
  · simp only [wrap_add_l, wrap_add_r, wrap_sub_l, wrap_sub_r, wrap_mul_l, wrap_mul_r, wrap_neg, wrap_wrap, Int.zero_add]
  · repeat (first | exact Below.refl _ _ | assumption | exact Below.alloc (Below.refl _ _) (Nat.le_refl _) _ | refine Below.setCell ?_ (by first | (simp; done) | (simp; omega) | omega) _ | refine below_drewN ?_ _ | refine Below.alloc ?_ (by first | (simp; done) | (simp; omega) | omega) _ | refine Below.trans ?_ (Below.mono (by assumption) (by first | (simp; done) | (simp; omega) | omega)))

set_option maxHeartbeats 400000 in
theorem cmatrix_any (aa bb cc bc ac ab : Int) (w : World) :
    Calls Try.prog 63 #[.agg #[.int .i64 aa, .int .i64 bb, .int .i64 cc, .int .i64 bc, .int .i64 ac, .int .i64 ab]] w fun e w' => e = .returned (.agg #[.int .i64 aa, .int .i64 ab, .int .i64 ac, .int .i64 ab, .int .i64 bb, .int .i64 bc, .int .i64 ac, .int .i64 bc, .int .i64 cc]) ∧ Below w.heap.size w w' := by
  go_enter Try.func63, Try.ntmps63
  go_wp2
  refine bodyPost_ret (v := .agg #[.int .i64 aa, .int .i64 ab, .int .i64 ac, .int .i64 ab, .int .i64 bb, .int .i64 bc, .int .i64 ac, .int .i64 bc, .int .i64 cc]) (by simp [results, Try.results63, go_sem, wrap_add_l, wrap_add_r, wrap_sub_l, wrap_sub_r, wrap_mul_l, wrap_mul_r, wrap_neg, wrap_wrap, *]) rfl ⟨rfl, ?_⟩
  repeat (first | exact Below.refl _ _ | assumption | exact Below.alloc (Below.refl _ _) (Nat.le_refl _) _ | refine Below.setCell ?_ (by first | (simp; done) | (simp; omega) | omega) _ | refine below_drewN ?_ _ | refine Below.alloc ?_ (by first | (simp; done) | (simp; omega) | omega) _ | refine Below.trans ?_ (Below.mono (by assumption) (by first | (simp; done) | (simp; omega) | omega)))

set_option maxHeartbeats 1600000 in
set_option maxRecDepth 100000 in
theorem cadj_any (aa bb cc bc ac ab : Int) (w : World) :
    Calls Try.prog 64 #[.agg #[.int .i64 aa, .int .i64 bb, .int .i64 cc, .int .i64 bc, .int .i64 ac, .int .i64 ab]] w fun e w' => e = .returned (.agg #[.int .i64 (wrap64 (bb * cc - bc * bc)), .int .i64 (wrap64 (ac * bc - cc * ab)), .int .i64 (wrap64 (ab * bc - bb * ac)), .int .i64 (wrap64 (ac * bc - cc * ab)), .int .i64 (wrap64 (aa * cc - ac * ac)), .int .i64 (wrap64 (ab * ac - aa * bc)), .int .i64 (wrap64 (ab * bc - bb * ac)), .int .i64 (wrap64 (ab * ac - aa * bc)), .int .i64 (wrap64 (aa * bb - ab * ab))]) ∧ Below w.heap.size w w' := by
  go_enter Try.func64, Try.ntmps64
  go_wp2
  go_quiet (fail)
  go_wp2
  go_quiet (fail)
  go_wp2
  refine bodyPost_ret (v := .agg #[.int .i64 (wrap64 (bb * cc - bc * bc)), .int .i64 (wrap64 (ac * bc - cc * ab)), .int .i64 (wrap64 (ab * bc - bb * ac)), .int .i64 (wrap64 (ac * bc - cc * ab)), .int .i64 (wrap64 (aa * cc - ac * ac)), .int .i64 (wrap64 (ab * ac - aa * bc)), .int .i64 (wrap64 (ab * bc - bb * ac)), .int .i64 (wrap64 (ab * ac - aa * bc)), .int .i64 (wrap64 (aa * bb - ab * ab))]) (by simp [results, Try.results64, go_sem, wrap_add_l, wrap_add_r, wrap_sub_l, wrap_sub_r, wrap_mul_l, wrap_mul_r, wrap_neg, wrap_wrap, *]) rfl ⟨rfl, ?_⟩
  repeat (first | exact Below.refl _ _ | assumption | exact Below.alloc (Below.refl _ _) (Nat.le_refl _) _ | refine Below.setCell ?_ (by first | (simp; done) | (simp; omega) | omega) _ | refine below_drewN ?_ _ | refine Below.alloc ?_ (by first | (simp; done) | (simp; omega) | omega) _ | refine Below.trans ?_ (Below.mono (by assumption) (by first | (simp; done) | (simp; omega) | omega)))

theorem wrap_of_bnd {b : Int} (h0 : 0 ≤ b) (h1 : b ≤ 100000) : wrap64 (-b) = -b := by unfold wrap64; omega
set_option maxHeartbeats 400000 in
theorem cbeyond_no (b : Int) (v0 v1 v2 : Int) (w : World) (hb0 : 0 ≤ b) (hb1 : b ≤ 100000) (hv0 : -b ≤ v0 ∧ v0 ≤ b) (hv1 : -b ≤ v1 ∧ v1 ≤ b) (hv2 : -b ≤ v2 ∧ v2 ≤ b):
    Calls Try.prog 61 #[.agg #[.int .i64 v0, .int .i64 v1, .int .i64 v2], .int .i64 b] w fun e w' => e = .returned (.bool false) ∧ Below w.heap.size w w' := by
  have nb := wrap_of_bnd hb0 hb1
  have d0 : decide (v0 < -b) = false := decide_eq_false (by omega)
  have d1 : decide (v1 < -b) = false := decide_eq_false (by omega)
  have d2 : decide (v2 < -b) = false := decide_eq_false (by omega)
  have e0 : decide (b < v0) = false := decide_eq_false (by omega)
  have e1 : decide (b < v1) = false := decide_eq_false (by omega)
  have e2 : decide (b < v2) = false := decide_eq_false (by omega)
  go_enter Try.func61, Try.ntmps61
  go_wp2
  refine wp_loop_rounds 4 ?_
  rw [rounds_succ]
  go_wp2
  rw [rounds_succ]
  go_wp2
  rw [rounds_succ]
  go_wp2
  rw [rounds_succ]
  go_wp2
  go_ret
  refine ⟨rfl, ?_⟩
  repeat (first | exact Below.refl _ _ | assumption | exact Below.alloc (Below.refl _ _) (Nat.le_refl _) _ | refine Below.setCell ?_ (by first | (simp; done) | (simp; omega) | omega) _ | refine below_drewN ?_ _ | refine Below.alloc ?_ (by first | (simp; done) | (simp; omega) | omega) _ | refine Below.trans ?_ (Below.mono (by assumption) (by first | (simp; done) | (simp; omega) | omega)))

set_option maxHeartbeats 400000 in
theorem fdot_any (u0 u1 u2 v0 v1 v2 : Int) (w : World) :
    Calls Try.prog 56 #[.agg #[.int .i64 u0, .int .i64 u1, .int .i64 u2], .agg #[.int .i64 v0, .int .i64 v1, .int .i64 v2]] w fun e w' => e = .returned (.int .i64 (wrap64 (u0 * v0 + u1 * v1 + u2 * v2))) ∧ Below w.heap.size w w' := by
  go_enter Try.func56, Try.ntmps56
  go_wp2
  go_ret
  refine ⟨ret_int ?_, ?_⟩
  · simp only [wrap_add_l, wrap_add_r, wrap_sub_l, wrap_sub_r, wrap_mul_l, wrap_mul_r, wrap_neg, wrap_wrap, Int.zero_add]
  · repeat (first | exact Below.refl _ _ | assumption | exact Below.alloc (Below.refl _ _) (Nat.le_refl _) _ | refine Below.setCell ?_ (by first | (simp; done) | (simp; omega) | omega) _ | refine below_drewN ?_ _ | refine Below.alloc ?_ (by first | (simp; done) | (simp; omega) | omega) _ | refine Below.trans ?_ (Below.mono (by assumption) (by first | (simp; done) | (simp; omega) | omega)))

end Go.Proofs.Ytdhlkhockpblhaa
