/-
  Turned: the program and the reference.
-/
import Derived.Test.YtdhlkhockpblhaaRedZ3
import Derived.Test.YtdhlkhockpblhaaRedX
namespace Go.Proofs.Ytdhlkhockpblhaa
open Go.RowKit
attribute [local irreducible] World.setCell

set_option linter.unusedSimpArgs false
set_option linter.unusedVariables false

theorem formC_vals (p00 p01 p02 p10 p11 p12 p20 p21 p22 : Int) : formC p00 p01 p02 p10 p11 p12 p20 p21 p22 = 0 ∨ formC p00 p01 p02 p10 p11 p12 p20 p21 p22 = 3 ∨ formC p00 p01 p02 p10 p11 p12 p20 p21 p22 = 4 := by unfold formC; repeat (first | omega | split)
theorem chk_vals (m : Met) : chk m = 0 ∨ chk m = 1 ∨ chk m = 3 := by unfold chk checkC; repeat (first | omega | split)
set_option maxHeartbeats 3200000 in
theorem Turned_bad (m : Met) (p00 p01 p02 p10 p11 p12 p20 p21 p22 : Int) (C D X : Int) (w : World) (h : chk m = C) (h2 : formC p00 p01 p02 p10 p11 p12 p20 p21 p22 = D) (hX : (C = 0 ∧ D = 3 ∧ X = 3) ∨ (C = 0 ∧ D = 4 ∧ X = 4) ∨ (C = 1 ∧ D = 0 ∧ X = 1) ∨ (C = 1 ∧ D = 3 ∧ X = 1) ∨ (C = 1 ∧ D = 4 ∧ X = 1) ∨ (C = 3 ∧ D = 0 ∧ X = 3) ∨ (C = 3 ∧ D = 3 ∧ X = 3) ∨ (C = 3 ∧ D = 4 ∧ X = 3)):
    Calls Try.prog 24 #[.agg #[.int .i64 m.aa, .int .i64 m.bb, .int .i64 m.cc, .int .i64 m.bc, .int .i64 m.ac, .int .i64 m.ab], .agg #[.int .i64 p00, .int .i64 p01, .int .i64 p02, .int .i64 p10, .int .i64 p11, .int .i64 p12, .int .i64 p20, .int .i64 p21, .int .i64 p22]] w fun e w' => e = .returned (.tuple #[.agg #[.int .i64 0, .int .i64 0, .int .i64 0, .int .i64 0, .int .i64 0, .int .i64 0], .int .i64 X]) ∧ Below w.heap.size w w' := by
  rcases hX with ⟨rfl, rfl, rfl⟩ | ⟨rfl, rfl, rfl⟩ | ⟨rfl, rfl, rfl⟩ | ⟨rfl, rfl, rfl⟩ | ⟨rfl, rfl, rfl⟩ | ⟨rfl, rfl, rfl⟩ | ⟨rfl, rfl, rfl⟩ | ⟨rfl, rfl, rfl⟩
  all_goals have E := Lib.hid h; have E2 := Lib.hid h2; clear h h2
  all_goals go_enter Try.func24, Try.ntmps24
  all_goals go_wp2_with fail
  all_goals refine (to_v (congrArg (Value.int .i64) E.out) (check_any _ _ _ _ _ _ _)).mono ?_
  all_goals rintro e w1 ⟨rfl, hb1⟩
  all_goals obtain ⟨hc1, hf1⟩ := bcell hb1
  all_goals have hz1 := hb1.size
  all_goals try simp at hz1
  all_goals have z1_0 : w.heap.size < w1.heap.size := by omega
  all_goals have z1_1 : w.heap.size + 1 < w1.heap.size := by omega
  all_goals have z1_2 : w.heap.size + 1 + 1 < w1.heap.size := by omega
  all_goals go_wp2_with fail
  all_goals refine (inv_any p00 p01 p02 p10 p11 p12 p20 p21 p22 _).mono ?_
  all_goals rintro e w2 ⟨⟨z0, z1, z2, z3, z4, z5, z6, z7, z8, rfl⟩, hb2⟩
  all_goals obtain ⟨hc2, hf2⟩ := bcell hb2
  all_goals have hz2 := hb2.size
  all_goals try simp at hz2
  all_goals have z2_0 : w.heap.size < w2.heap.size := by omega
  all_goals have z2_1 : w.heap.size + 1 < w2.heap.size := by omega
  all_goals have z2_2 : w.heap.size + 1 + 1 < w2.heap.size := by omega
  all_goals rw [E2.out]
  all_goals go_wp2
  all_goals first | (refine bodyPost_ret (v := .tuple #[.agg #[.int .i64 0, .int .i64 0, .int .i64 0, .int .i64 0, .int .i64 0, .int .i64 0], .int .i64 1]) (by simp [results, Try.results24, go_sem, wrap_add_l, wrap_add_r, wrap_sub_l, wrap_sub_r, wrap_mul_l, wrap_mul_r, wrap_neg, wrap_wrap, wrap3, *]) rfl ⟨rfl, ?_⟩) | (refine bodyPost_ret (v := .tuple #[.agg #[.int .i64 0, .int .i64 0, .int .i64 0, .int .i64 0, .int .i64 0, .int .i64 0], .int .i64 3]) (by simp [results, Try.results24, go_sem, wrap_add_l, wrap_add_r, wrap_sub_l, wrap_sub_r, wrap_mul_l, wrap_mul_r, wrap_neg, wrap_wrap, wrap3, *]) rfl ⟨rfl, ?_⟩) | (refine bodyPost_ret (v := .tuple #[.agg #[.int .i64 0, .int .i64 0, .int .i64 0, .int .i64 0, .int .i64 0, .int .i64 0], .int .i64 4]) (by simp [results, Try.results24, go_sem, wrap_add_l, wrap_add_r, wrap_sub_l, wrap_sub_r, wrap_mul_l, wrap_mul_r, wrap_neg, wrap_wrap, wrap3, *]) rfl ⟨rfl, ?_⟩)
  all_goals (repeat (first | exact Below.refl _ _ | assumption | exact Below.alloc (Below.refl _ _) (Nat.le_refl _) _ | refine Below.setCell ?_ (by first | (simp; done) | (simp; omega) | omega) _ | refine below_drewN ?_ _ | refine Below.alloc ?_ (by first | (simp; done) | (simp; omega) | omega) _ | refine Below.trans ?_ (Below.mono (by assumption) (by first | (simp; done) | (simp; omega) | omega))))

set_option maxHeartbeats 3200000 in
theorem Turned_ok (m : Met) (p00 p01 p02 p10 p11 p12 p20 p21 p22 : Int) (w : World) (h : chk m = 0) (h2 : formC p00 p01 p02 p10 p11 p12 p20 p21 p22 = 0):
    Calls Try.prog 24 #[.agg #[.int .i64 m.aa, .int .i64 m.bb, .int .i64 m.cc, .int .i64 m.bc, .int .i64 m.ac, .int .i64 m.ab], .agg #[.int .i64 p00, .int .i64 p01, .int .i64 p02, .int .i64 p10, .int .i64 p11, .int .i64 p12, .int .i64 p20, .int .i64 p21, .int .i64 p22]] w fun e w' => e = .returned (.tuple #[.agg #[.int .i64 (wrap64 ((p00 * m.aa + p10 * m.ab + p20 * m.ac) * p00 + (p00 * m.ab + p10 * m.bb + p20 * m.bc) * p10 + (p00 * m.ac + p10 * m.bc + p20 * m.cc) * p20)), .int .i64 (wrap64 ((p01 * m.aa + p11 * m.ab + p21 * m.ac) * p01 + (p01 * m.ab + p11 * m.bb + p21 * m.bc) * p11 + (p01 * m.ac + p11 * m.bc + p21 * m.cc) * p21)), .int .i64 (wrap64 ((p02 * m.aa + p12 * m.ab + p22 * m.ac) * p02 + (p02 * m.ab + p12 * m.bb + p22 * m.bc) * p12 + (p02 * m.ac + p12 * m.bc + p22 * m.cc) * p22)), .int .i64 (wrap64 ((p01 * m.aa + p11 * m.ab + p21 * m.ac) * p02 + (p01 * m.ab + p11 * m.bb + p21 * m.bc) * p12 + (p01 * m.ac + p11 * m.bc + p21 * m.cc) * p22)), .int .i64 (wrap64 ((p00 * m.aa + p10 * m.ab + p20 * m.ac) * p02 + (p00 * m.ab + p10 * m.bb + p20 * m.bc) * p12 + (p00 * m.ac + p10 * m.bc + p20 * m.cc) * p22)), .int .i64 (wrap64 ((p00 * m.aa + p10 * m.ab + p20 * m.ac) * p01 + (p00 * m.ab + p10 * m.bb + p20 * m.bc) * p11 + (p00 * m.ac + p10 * m.bc + p20 * m.cc) * p21))], .int .i64 0]) ∧ Below w.heap.size w w' := by
  have E := Lib.hid h; have E2 := Lib.hid h2; clear h h2
  go_enter Try.func24, Try.ntmps24
  go_wp2_with fail
  refine (to_v (congrArg (Value.int .i64) E.out) (check_any _ _ _ _ _ _ _)).mono ?_
  rintro e w1 ⟨rfl, hb1⟩
  obtain ⟨hc1, hf1⟩ := bcell hb1
  have hz1 := hb1.size
  try simp at hz1
  have z1_0 : w.heap.size < w1.heap.size := by omega
  have z1_1 : w.heap.size + 1 < w1.heap.size := by omega
  have z1_2 : w.heap.size + 1 + 1 < w1.heap.size := by omega
  go_wp2_with fail
  refine (inv_any p00 p01 p02 p10 p11 p12 p20 p21 p22 _).mono ?_
  rintro e w2 ⟨⟨z0, z1, z2, z3, z4, z5, z6, z7, z8, rfl⟩, hb2⟩
  obtain ⟨hc2, hf2⟩ := bcell hb2
  have hz2 := hb2.size
  try simp at hz2
  have z2_0 : w.heap.size < w2.heap.size := by omega
  have z2_1 : w.heap.size + 1 < w2.heap.size := by omega
  have z2_2 : w.heap.size + 1 + 1 < w2.heap.size := by omega
  rw [E2.out]
  obtain ⟨t0, et0⟩ : ∃ x, x = wrap64 ((p00 * m.aa + p10 * m.ab + p20 * m.ac) * p00 + (p00 * m.ab + p10 * m.bb + p20 * m.bc) * p10 + (p00 * m.ac + p10 * m.bc + p20 * m.cc) * p20) := ⟨_, rfl⟩
  obtain ⟨t1, et1⟩ : ∃ x, x = wrap64 ((p01 * m.aa + p11 * m.ab + p21 * m.ac) * p01 + (p01 * m.ab + p11 * m.bb + p21 * m.bc) * p11 + (p01 * m.ac + p11 * m.bc + p21 * m.cc) * p21) := ⟨_, rfl⟩
  obtain ⟨t2, et2⟩ : ∃ x, x = wrap64 ((p02 * m.aa + p12 * m.ab + p22 * m.ac) * p02 + (p02 * m.ab + p12 * m.bb + p22 * m.bc) * p12 + (p02 * m.ac + p12 * m.bc + p22 * m.cc) * p22) := ⟨_, rfl⟩
  obtain ⟨t3, et3⟩ : ∃ x, x = wrap64 ((p01 * m.aa + p11 * m.ab + p21 * m.ac) * p02 + (p01 * m.ab + p11 * m.bb + p21 * m.bc) * p12 + (p01 * m.ac + p11 * m.bc + p21 * m.cc) * p22) := ⟨_, rfl⟩
  obtain ⟨t4, et4⟩ : ∃ x, x = wrap64 ((p00 * m.aa + p10 * m.ab + p20 * m.ac) * p02 + (p00 * m.ab + p10 * m.bb + p20 * m.bc) * p12 + (p00 * m.ac + p10 * m.bc + p20 * m.cc) * p22) := ⟨_, rfl⟩
  obtain ⟨t5, et5⟩ : ∃ x, x = wrap64 ((p00 * m.aa + p10 * m.ab + p20 * m.ac) * p01 + (p00 * m.ab + p10 * m.bb + p20 * m.bc) * p11 + (p00 * m.ac + p10 * m.bc + p20 * m.cc) * p21) := ⟨_, rfl⟩
  have tt : ∀ w, Calls Try.prog 39 #[.agg #[.int .i64 m.aa, .int .i64 m.bb, .int .i64 m.cc, .int .i64 m.bc, .int .i64 m.ac, .int .i64 m.ab], .agg #[.int .i64 p00, .int .i64 p01, .int .i64 p02, .int .i64 p10, .int .i64 p11, .int .i64 p12, .int .i64 p20, .int .i64 p21, .int .i64 p22]] w fun e w' => e = .returned (.agg #[.int .i64 t0, .int .i64 t1, .int .i64 t2, .int .i64 t3, .int .i64 t4, .int .i64 t5]) ∧ Below w.heap.size w w' := fun w => to_v (by rw [et0, et1, et2, et3, et4, et5]) (turned_any _ _ _ _ _ _ _ _ _ _ _ _ _ _ _ w)
  have TT := Lib.hid tt; clear tt
  have ET0 := Lib.hid et0; clear et0
  have ET1 := Lib.hid et1; clear et1
  have ET2 := Lib.hid et2; clear et2
  have ET3 := Lib.hid et3; clear et3
  have ET4 := Lib.hid et4; clear et4
  have ET5 := Lib.hid et5; clear et5
  go_wp2_with fail
  refine (TT.out _).mono ?_
  rintro e w3 ⟨rfl, hb3⟩
  obtain ⟨hc3, hf3⟩ := bcell hb3
  have hz3 := hb3.size
  try simp at hz3
  have z3_0 : w.heap.size < w3.heap.size := by omega
  have z3_1 : w.heap.size + 1 < w3.heap.size := by omega
  have z3_2 : w.heap.size + 1 + 1 < w3.heap.size := by omega
  have z3_3 : w2.heap.size < w3.heap.size := by omega
  have y3_0 : w.heap.size < w2.heap.size + 1 := by omega
  have y3_1 : w.heap.size + 1 < w2.heap.size + 1 := by omega
  have y3_2 : w.heap.size + 1 + 1 < w2.heap.size + 1 := by omega
  go_wp2
  refine bodyPost_ret (v := .tuple #[.agg #[.int .i64 t0, .int .i64 t1, .int .i64 t2, .int .i64 t3, .int .i64 t4, .int .i64 t5], .int .i64 0]) (by simp [results, Try.results24, go_sem, wrap_add_l, wrap_add_r, wrap_sub_l, wrap_sub_r, wrap_mul_l, wrap_mul_r, wrap_neg, wrap_wrap, wrap3, *]) rfl ⟨(by rw [ET0.out, ET1.out, ET2.out, ET3.out, ET4.out, ET5.out]), ?_⟩
  repeat (first | exact Below.refl _ _ | assumption | exact Below.alloc (Below.refl _ _) (Nat.le_refl _) _ | refine Below.setCell ?_ (by first | (simp; done) | (simp; omega) | omega) _ | refine below_drewN ?_ _ | refine Below.alloc ?_ (by first | (simp; done) | (simp; omega) | omega) _ | refine Below.trans ?_ (Below.mono (by assumption) (by first | (simp; done) | (simp; omega) | omega)))

end Go.Proofs.Ytdhlkhockpblhaa
