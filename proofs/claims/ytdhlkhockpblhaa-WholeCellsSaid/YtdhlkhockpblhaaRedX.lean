/-
  Contracts: determinants.
-/
import Derived.Test.YtdhlkhockpblhaaRedU
import Derived.Test.YtdhlkhockpblhaaRedW
namespace Go.Proofs.Ytdhlkhockpblhaa
open Go.RowKit
attribute [local irreducible] World.setCell

set_option linter.unusedSimpArgs false
set_option linter.unusedVariables false




set_option maxHeartbeats 1600000 in
theorem r1det_any (p00 p01 p02 p10 p11 p12 p20 p21 p22 : Int) (w : World) :
    Calls Try.prog 22 #[.agg #[.int .i64 p00, .int .i64 p01, .int .i64 p02, .int .i64 p10, .int .i64 p11, .int .i64 p12, .int .i64 p20, .int .i64 p21, .int .i64 p22]] w fun e w' => e = .returned (.int .i64 (wrap64 (p00 * p11 * p22 - p00 * p12 * p21 + (p01 * p12 * p20 - p01 * p10 * p22) + (p02 * p10 * p21 - p02 * p11 * p20)))) ∧ Below w.heap.size w w' := by
  go_enter Try.func22, Try.ntmps22
  go_wp2
  refine wp_loop_rounds 4 ?_
  rw [rounds_succ]
  go_wp2
  go_quiet (fail)
  go_wp2
  rw [rounds_succ]
  go_wp2
  go_quiet (fail)
  go_wp2
  rw [rounds_succ]
  go_wp2
  go_quiet (fail)
  go_wp2
  rw [rounds_succ]
  go_wp2
  go_ret
  refine ⟨ret_int ?_, ?_⟩
  · simp only [wrap_add_l, wrap_add_r, wrap_sub_l, wrap_sub_r, wrap_mul_l, wrap_mul_r, wrap_neg, wrap_wrap, Int.zero_add]
  · repeat (first | exact Below.refl _ _ | assumption | exact Below.alloc (Below.refl _ _) (Nat.le_refl _) _ | refine Below.setCell ?_ (by first | (simp; done) | (simp; omega) | omega) _ | refine below_drewN ?_ _ | refine Below.alloc ?_ (by first | (simp; done) | (simp; omega) | omega) _ | refine Below.trans ?_ (Below.mono (by assumption) (by first | (simp; done) | (simp; omega) | omega)))

set_option maxHeartbeats 400000 in
theorem Det_bad (m : Met) (C : Int) (w : World) (h : chk m = C) (hC : C ≠ 0):
    Calls Try.prog 20 #[.agg #[.int .i64 m.aa, .int .i64 m.bb, .int .i64 m.cc, .int .i64 m.bc, .int .i64 m.ac, .int .i64 m.ab]] w fun e w' => e = .returned (.tuple #[.int .i64 0, .int .i64 C]) ∧ Below w.heap.size w w' := by
  have E := Lib.hid h; clear h
  go_enter Try.func20, Try.ntmps20
  go_wp2_with fail
  refine (to_v (congrArg (Value.int .i64) E.out) (check_any _ _ _ _ _ _ _)).mono ?_
  rintro e w1 ⟨rfl, hb1⟩
  obtain ⟨hc1, hf1⟩ := bcell hb1
  have hz1 := hb1.size
  try simp at hz1
  have z1_0 : w.heap.size < w1.heap.size := by omega
  go_wp2
  refine bodyPost_ret (v := .tuple #[.int .i64 0, .int .i64 C]) (by simp [results, Try.results20, go_sem, wrap_add_l, wrap_add_r, wrap_sub_l, wrap_sub_r, wrap_mul_l, wrap_mul_r, wrap_neg, wrap_wrap, wrap3, *]) rfl ⟨rfl, ?_⟩
  repeat (first | exact Below.refl _ _ | assumption | exact Below.alloc (Below.refl _ _) (Nat.le_refl _) _ | refine Below.setCell ?_ (by first | (simp; done) | (simp; omega) | omega) _ | refine below_drewN ?_ _ | refine Below.alloc ?_ (by first | (simp; done) | (simp; omega) | omega) _ | refine Below.trans ?_ (Below.mono (by assumption) (by first | (simp; done) | (simp; omega) | omega)))

def dv (m : Met) : Int := wrap64 (detP m.aa m.bb m.cc m.bc m.ac m.ab)
set_option maxHeartbeats 400000 in
theorem Det_ok (m : Met) (w : World) (h : chk m = 0):
    Calls Try.prog 20 #[.agg #[.int .i64 m.aa, .int .i64 m.bb, .int .i64 m.cc, .int .i64 m.bc, .int .i64 m.ac, .int .i64 m.ab]] w fun e w' => e = .returned (.tuple #[.int .i64 (dv m), .int .i64 0]) ∧ Below w.heap.size w w' := by
  have D : ∀ w, Calls Try.prog 51 #[.agg #[.int .i64 m.aa, .int .i64 m.bb, .int .i64 m.cc, .int .i64 m.bc, .int .i64 m.ac, .int .i64 m.ab]] w fun e w' => e = .returned (.int .i64 (dv m)) ∧ Below w.heap.size w w' := fun w => cdet' _ _ _ _ _ _ w
  have DD := Lib.hid D; clear D
  have E := Lib.hid h; clear h
  go_enter Try.func20, Try.ntmps20
  go_wp2_with fail
  refine (to_v (congrArg (Value.int .i64) E.out) (check_any _ _ _ _ _ _ _)).mono ?_
  rintro e w1 ⟨rfl, hb1⟩
  obtain ⟨hc1, hf1⟩ := bcell hb1
  have hz1 := hb1.size
  try simp at hz1
  have z1_0 : w.heap.size < w1.heap.size := by omega
  go_wp2_with fail
  refine (DD.out _).mono ?_
  rintro e w2 ⟨rfl, hb2⟩
  obtain ⟨hc2, hf2⟩ := bcell hb2
  have hz2 := hb2.size
  try simp at hz2
  have z2_0 : w.heap.size < w2.heap.size := by omega
  go_wp2
  refine bodyPost_ret (v := .tuple #[.int .i64 (dv m), .int .i64 0]) (by simp [results, Try.results20, go_sem, wrap_add_l, wrap_add_r, wrap_sub_l, wrap_sub_r, wrap_mul_l, wrap_mul_r, wrap_neg, wrap_wrap, wrap3, *]) rfl ⟨rfl, ?_⟩
  repeat (first | exact Below.refl _ _ | assumption | exact Below.alloc (Below.refl _ _) (Nat.le_refl _) _ | refine Below.setCell ?_ (by first | (simp; done) | (simp; omega) | omega) _ | refine below_drewN ?_ _ | refine Below.alloc ?_ (by first | (simp; done) | (simp; omega) | omega) _ | refine Below.trans ?_ (Below.mono (by assumption) (by first | (simp; done) | (simp; omega) | omega)))

end Go.Proofs.Ytdhlkhockpblhaa
