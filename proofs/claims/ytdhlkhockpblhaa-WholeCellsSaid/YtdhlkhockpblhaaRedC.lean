/-
  The small parts of layer 12: matrices of metrics, the four edges, the six pairs.
-/
import Derived.Test.YtdhlkhockpblhaaRedB
namespace Go.Proofs.Ytdhlkhockpblhaa
open Go.RowKit
attribute [local irreducible] World.setCell

set_option linter.unusedSimpArgs false
set_option linter.unusedVariables false

set_option maxHeartbeats 400000 in
theorem matrix_any (aa bb cc bc ac ab : Int) (w : World) :
    Calls Try.prog 46 #[.agg #[.int .i64 aa, .int .i64 bb, .int .i64 cc, .int .i64 bc, .int .i64 ac, .int .i64 ab]] w fun e w' => e = .returned (.agg #[.int .i64 aa, .int .i64 ab, .int .i64 ac, .int .i64 ab, .int .i64 bb, .int .i64 bc, .int .i64 ac, .int .i64 bc, .int .i64 cc]) ∧ Below w.heap.size w w' := by
  go_enter Try.func46, Try.ntmps46
  go_wp2
  refine bodyPost_ret (v := .agg #[.int .i64 aa, .int .i64 ab, .int .i64 ac, .int .i64 ab, .int .i64 bb, .int .i64 bc, .int .i64 ac, .int .i64 bc, .int .i64 cc]) (by simp [results, Try.results46, go_sem, wrap_add_l, wrap_add_r, wrap_sub_l, wrap_sub_r, wrap_mul_l, wrap_mul_r, wrap_neg, wrap_wrap, *]) rfl ⟨rfl, ?_⟩
  repeat (first | exact Below.refl _ _ | assumption | exact Below.alloc (Below.refl _ _) (Nat.le_refl _) _ | refine Below.setCell ?_ (by first | (simp; done) | (simp; omega) | omega) _ | refine below_drewN ?_ _ | refine Below.alloc ?_ (by first | (simp; done) | (simp; omega) | omega) _ | refine Below.trans ?_ (Below.mono (by assumption) (by first | (simp; done) | (simp; omega) | omega)))

set_option maxHeartbeats 400000 in
theorem metric_any (g00 g01 g02 g10 g11 g12 g20 g21 g22 : Int) (w : World) :
    Calls Try.prog 71 #[.agg #[.int .i64 g00, .int .i64 g01, .int .i64 g02, .int .i64 g10, .int .i64 g11, .int .i64 g12, .int .i64 g20, .int .i64 g21, .int .i64 g22]] w fun e w' => e = .returned (.agg #[.int .i64 g00, .int .i64 g11, .int .i64 g22, .int .i64 g12, .int .i64 g02, .int .i64 g01]) ∧ Below w.heap.size w w' := by
  go_enter Try.func71, Try.ntmps71
  go_wp2
  refine bodyPost_ret (v := .agg #[.int .i64 g00, .int .i64 g11, .int .i64 g22, .int .i64 g12, .int .i64 g02, .int .i64 g01]) (by simp [results, Try.results71, go_sem, wrap_add_l, wrap_add_r, wrap_sub_l, wrap_sub_r, wrap_mul_l, wrap_mul_r, wrap_neg, wrap_wrap, *]) rfl ⟨rfl, ?_⟩
  repeat (first | exact Below.refl _ _ | assumption | exact Below.alloc (Below.refl _ _) (Nat.le_refl _) _ | refine Below.setCell ?_ (by first | (simp; done) | (simp; omega) | omega) _ | refine below_drewN ?_ _ | refine Below.alloc ?_ (by first | (simp; done) | (simp; omega) | omega) _ | refine Below.trans ?_ (Below.mono (by assumption) (by first | (simp; done) | (simp; omega) | omega)))

set_option maxHeartbeats 400000 in
theorem identity_any  (w : World) :
    Calls Try.prog 70 #[] w fun e w' => e = .returned (.agg #[.int .i64 1, .int .i64 0, .int .i64 0, .int .i64 0, .int .i64 1, .int .i64 0, .int .i64 0, .int .i64 0, .int .i64 1]) ∧ Below w.heap.size w w' := by
  go_enter Try.func70, Try.ntmps70
  go_wp2
  refine bodyPost_ret (v := .agg #[.int .i64 1, .int .i64 0, .int .i64 0, .int .i64 0, .int .i64 1, .int .i64 0, .int .i64 0, .int .i64 0, .int .i64 1]) (by simp [results, Try.results70, go_sem, wrap_add_l, wrap_add_r, wrap_sub_l, wrap_sub_r, wrap_mul_l, wrap_mul_r, wrap_neg, wrap_wrap, *]) rfl ⟨rfl, ?_⟩
  repeat (first | exact Below.refl _ _ | assumption | exact Below.alloc (Below.refl _ _) (Nat.le_refl _) _ | refine Below.setCell ?_ (by first | (simp; done) | (simp; omega) | omega) _ | refine below_drewN ?_ _ | refine Below.alloc ?_ (by first | (simp; done) | (simp; omega) | omega) _ | refine Below.trans ?_ (Below.mono (by assumption) (by first | (simp; done) | (simp; omega) | omega)))

set_option maxHeartbeats 400000 in
theorem edges_any  (w : World) :
    Calls Try.prog 68 #[] w fun e w' => e = .returned (.agg #[.int .i64 1, .int .i64 0, .int .i64 0, .int .i64 0, .int .i64 1, .int .i64 0, .int .i64 0, .int .i64 0, .int .i64 1, .int .i64 (-1), .int .i64 (-1), .int .i64 (-1)]) ∧ Below w.heap.size w w' := by
  go_enter Try.func68, Try.ntmps68
  go_wp2
  refine bodyPost_ret (v := .agg #[.int .i64 1, .int .i64 0, .int .i64 0, .int .i64 0, .int .i64 1, .int .i64 0, .int .i64 0, .int .i64 0, .int .i64 1, .int .i64 (-1), .int .i64 (-1), .int .i64 (-1)]) (by simp [results, Try.results68, go_sem, wrap_add_l, wrap_add_r, wrap_sub_l, wrap_sub_r, wrap_mul_l, wrap_mul_r, wrap_neg, wrap_wrap, *]) rfl ⟨rfl, ?_⟩
  repeat (first | exact Below.refl _ _ | assumption | exact Below.alloc (Below.refl _ _) (Nat.le_refl _) _ | refine Below.setCell ?_ (by first | (simp; done) | (simp; omega) | omega) _ | refine below_drewN ?_ _ | refine Below.alloc ?_ (by first | (simp; done) | (simp; omega) | omega) _ | refine Below.trans ?_ (Below.mono (by assumption) (by first | (simp; done) | (simp; omega) | omega)))

set_option maxHeartbeats 400000 in
theorem pairs_any  (w : World) :
    Calls Try.prog 69 #[] w fun e w' => e = .returned (.agg #[.int .i64 1, .int .i64 2, .int .i64 0, .int .i64 2, .int .i64 0, .int .i64 1, .int .i64 0, .int .i64 3, .int .i64 1, .int .i64 3, .int .i64 2, .int .i64 3]) ∧ Below w.heap.size w w' := by
  go_enter Try.func69, Try.ntmps69
  go_wp2
  refine bodyPost_ret (v := .agg #[.int .i64 1, .int .i64 2, .int .i64 0, .int .i64 2, .int .i64 0, .int .i64 1, .int .i64 0, .int .i64 3, .int .i64 1, .int .i64 3, .int .i64 2, .int .i64 3]) (by simp [results, Try.results69, go_sem, wrap_add_l, wrap_add_r, wrap_sub_l, wrap_sub_r, wrap_mul_l, wrap_mul_r, wrap_neg, wrap_wrap, *]) rfl ⟨rfl, ?_⟩
  repeat (first | exact Below.refl _ _ | assumption | exact Below.alloc (Below.refl _ _) (Nat.le_refl _) _ | refine Below.setCell ?_ (by first | (simp; done) | (simp; omega) | omega) _ | refine below_drewN ?_ _ | refine Below.alloc ?_ (by first | (simp; done) | (simp; omega) | omega) _ | refine Below.trans ?_ (Below.mono (by assumption) (by first | (simp; done) | (simp; omega) | omega)))

set_option maxHeartbeats 400000 in
theorem rone_any (n : Int) (w : World) :
    Calls Try.prog 21 #[.int .i64 n] w fun e w' => e = .returned (.agg #[.int .i64 n, .int .i64 0, .int .i64 0, .int .i64 0, .int .i64 n, .int .i64 0, .int .i64 0, .int .i64 0, .int .i64 n]) ∧ Below w.heap.size w w' := by
  go_enter Try.func21, Try.ntmps21
  go_wp2
  refine bodyPost_ret (v := .agg #[.int .i64 n, .int .i64 0, .int .i64 0, .int .i64 0, .int .i64 n, .int .i64 0, .int .i64 0, .int .i64 0, .int .i64 n]) (by simp [results, Try.results21, go_sem, wrap_add_l, wrap_add_r, wrap_sub_l, wrap_sub_r, wrap_mul_l, wrap_mul_r, wrap_neg, wrap_wrap, *]) rfl ⟨rfl, ?_⟩
  repeat (first | exact Below.refl _ _ | assumption | exact Below.alloc (Below.refl _ _) (Nat.le_refl _) _ | refine Below.setCell ?_ (by first | (simp; done) | (simp; omega) | omega) _ | refine below_drewN ?_ _ | refine Below.alloc ?_ (by first | (simp; done) | (simp; omega) | omega) _ | refine Below.trans ?_ (Below.mono (by assumption) (by first | (simp; done) | (simp; omega) | omega)))

set_option maxHeartbeats 400000 in
theorem rpairs_any  (w : World) :
    Calls Try.prog 74 #[] w fun e w' => e = .returned (.agg #[.int .i64 1, .int .i64 2, .int .i64 0, .int .i64 2, .int .i64 0, .int .i64 1, .int .i64 0, .int .i64 3, .int .i64 1, .int .i64 3, .int .i64 2, .int .i64 3]) ∧ Below w.heap.size w w' := by
  go_enter Try.func74, Try.ntmps74
  go_wp2
  refine bodyPost_ret (v := .agg #[.int .i64 1, .int .i64 2, .int .i64 0, .int .i64 2, .int .i64 0, .int .i64 1, .int .i64 0, .int .i64 3, .int .i64 1, .int .i64 3, .int .i64 2, .int .i64 3]) (by simp [results, Try.results74, go_sem, wrap_add_l, wrap_add_r, wrap_sub_l, wrap_sub_r, wrap_mul_l, wrap_mul_r, wrap_neg, wrap_wrap, *]) rfl ⟨rfl, ?_⟩
  repeat (first | exact Below.refl _ _ | assumption | exact Below.alloc (Below.refl _ _) (Nat.le_refl _) _ | refine Below.setCell ?_ (by first | (simp; done) | (simp; omega) | omega) _ | refine below_drewN ?_ _ | refine Below.alloc ?_ (by first | (simp; done) | (simp; omega) | omega) _ | refine Below.trans ?_ (Below.mono (by assumption) (by first | (simp; done) | (simp; omega) | omega)))

set_option maxHeartbeats 400000 in
theorem rmetric_any (f00 f01 f02 f03 f10 f11 f12 f13 f20 f21 f22 f23 f30 f31 f32 f33 : Int) (w : World) :
    Calls Try.prog 43 #[.agg #[.int .i64 f00, .int .i64 f01, .int .i64 f02, .int .i64 f03, .int .i64 f10, .int .i64 f11, .int .i64 f12, .int .i64 f13, .int .i64 f20, .int .i64 f21, .int .i64 f22, .int .i64 f23, .int .i64 f30, .int .i64 f31, .int .i64 f32, .int .i64 f33]] w fun e w' => e = .returned (.agg #[.int .i64 f00, .int .i64 f11, .int .i64 f22, .int .i64 f12, .int .i64 f02, .int .i64 f01]) ∧ Below w.heap.size w w' := by
  go_enter Try.func43, Try.ntmps43
  go_wp2
  refine bodyPost_ret (v := .agg #[.int .i64 f00, .int .i64 f11, .int .i64 f22, .int .i64 f12, .int .i64 f02, .int .i64 f01]) (by simp [results, Try.results43, go_sem, wrap_add_l, wrap_add_r, wrap_sub_l, wrap_sub_r, wrap_mul_l, wrap_mul_r, wrap_neg, wrap_wrap, *]) rfl ⟨rfl, ?_⟩
  repeat (first | exact Below.refl _ _ | assumption | exact Below.alloc (Below.refl _ _) (Nat.le_refl _) _ | refine Below.setCell ?_ (by first | (simp; done) | (simp; omega) | omega) _ | refine below_drewN ?_ _ | refine Below.alloc ?_ (by first | (simp; done) | (simp; omega) | omega) _ | refine Below.trans ?_ (Below.mono (by assumption) (by first | (simp; done) | (simp; omega) | omega)))

set_option maxHeartbeats 800000 in
theorem cdet_any (aa bb cc bc ac ab : Int) (w : World) :
    Calls Try.prog 51 #[.agg #[.int .i64 aa, .int .i64 bb, .int .i64 cc, .int .i64 bc, .int .i64 ac, .int .i64 ab]] w fun e w' => e = .returned (.int .i64 (wrap64 (aa * bb * cc + 2 * bc * ac * ab - aa * bc * bc - bb * ac * ac - cc * ab * ab))) ∧ Below w.heap.size w w' := by
  go_enter Try.func51, Try.ntmps51
  go_wp2
  go_ret
  refine ⟨ret_int ?_, ?_⟩
  · simp only [wrap_add_l, wrap_add_r, wrap_sub_l, wrap_sub_r, wrap_mul_l, wrap_mul_r, wrap_neg, wrap_wrap, Int.zero_add]
  · repeat (first | exact Below.refl _ _ | assumption | exact Below.alloc (Below.refl _ _) (Nat.le_refl _) _ | refine Below.setCell ?_ (by first | (simp; done) | (simp; omega) | omega) _ | refine below_drewN ?_ _ | refine Below.alloc ?_ (by first | (simp; done) | (simp; omega) | omega) _ | refine Below.trans ?_ (Below.mono (by assumption) (by first | (simp; done) | (simp; omega) | omega)))

set_option maxHeartbeats 800000 in
theorem rdot_any (aa bb cc bc ac ab u0 u1 u2 v0 v1 v2 : Int) (w : World) :
    Calls Try.prog 23 #[.agg #[.int .i64 aa, .int .i64 bb, .int .i64 cc, .int .i64 bc, .int .i64 ac, .int .i64 ab], .agg #[.int .i64 u0, .int .i64 u1, .int .i64 u2], .agg #[.int .i64 v0, .int .i64 v1, .int .i64 v2]] w fun e w' => e = .returned (.int .i64 (wrap64 (aa * u0 * v0 + bb * u1 * v1 + cc * u2 * v2 + bc * (u1 * v2 + u2 * v1) + ac * (u0 * v2 + u2 * v0) + ab * (u0 * v1 + u1 * v0)))) ∧ Below w.heap.size w w' := by
  go_enter Try.func23, Try.ntmps23
  go_wp2
  go_ret
  refine ⟨ret_int ?_, ?_⟩
  · simp only [wrap_add_l, wrap_add_r, wrap_sub_l, wrap_sub_r, wrap_mul_l, wrap_mul_r, wrap_neg, wrap_wrap, Int.zero_add]
  · repeat (first | exact Below.refl _ _ | assumption | exact Below.alloc (Below.refl _ _) (Nat.le_refl _) _ | refine Below.setCell ?_ (by first | (simp; done) | (simp; omega) | omega) _ | refine below_drewN ?_ _ | refine Below.alloc ?_ (by first | (simp; done) | (simp; omega) | omega) _ | refine Below.trans ?_ (Below.mono (by assumption) (by first | (simp; done) | (simp; omega) | omega)))

end Go.Proofs.Ytdhlkhockpblhaa
